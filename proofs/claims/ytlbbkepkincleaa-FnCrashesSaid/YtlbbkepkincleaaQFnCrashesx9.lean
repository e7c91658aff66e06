/- Written by a program of this session (the kit's printer, with leaf contracts proved by hand put in): what each Go function computes, and that the call computes it. No condition but those that each theorem names. -/
import Derived.Test.YtlbbkepkincleaaQFnCrashesx0
import Derived.Test.YtlbbkepkincleaaQFnCrashesx1
import Derived.Test.YtlbbkepkincleaaQFnCrashesx2
import Derived.Test.YtlbbkepkincleaaQFnCrashesx4
import Derived.Test.YtlbbkepkincleaaQFnCrashesx6
import Derived.Test.YtlbbkepkincleaaQFnCrashesx7
import Derived.Test.YtlbbkepkincleaaQFnCrashesx8
namespace Go.Proofs.Ytlbbkepkincleaa.QFnCrashes
open Go.RowKit Go.Proofs.YtlbbkepkincleaaW.PrintWords Go.Proofs.YtlbbkepkincleaaW.PrintLast Go.Proofs.YtlbbkepkincleaaW.PrintMore
attribute [local go_sem] max2_int min2_int max_two min_two max_three min_three max_four min_four   -- for this text's walks alone
set_option linter.unusedVariables false
set_option linter.unusedSimpArgs false

/-! ### laws_FnCrashes: function 5 -/
mutual
def laws_FnCrashes.j0 : Nat → List Int → List Int → List Int → Int → List Int → List Int → Bool → List Int → List Int → List Int → List Int → List Int → List Int → List Int → Bool → Int → Bool → Int → List Int → Bool → Option (Bool)
  | 0, _, _, _, _, _, _, _, _, _, _, _, _, _, _, _, _, _, _, _, _ => none
  | k + 1, x5, x6, x7, x8, x9, x10, x11, x12, x13, x15, x16, x17, x18, x19, x20, x26, x34, x35, x36, x229 => if x229 = true then (some false) else (if x34 = true then ((some (([x15, x16] : List (List Int)) : List (List Int))).bind fun y537 => (if 0 ≤ x26 then (if x26 < (y537.length : Int) then ((impl_ReadArea.f k (rd_L2 y537 x26)).bind fun bt541 => (if bt541.2.2 = true then (if bt541.1 = x35 then ((laws_qInts.f k bt541.2.1 x36).bind fun t546 => (if t546 = true then (laws_FnCrashes.j1 k x5 x6 x7 x8 x9 x10 x11 x12 x13 x17 x18 x19 x20 x35) else (some false))) else (some false)) else (some false))) else (none)) else (none))) else (laws_FnCrashes.j1 k x5 x6 x7 x8 x9 x10 x11 x12 x13 x17 x18 x19 x20 x35))
def laws_FnCrashes.j1 : Nat → List Int → List Int → List Int → Int → List Int → List Int → Bool → List Int → List Int → List Int → List Int → List Int → Bool → Int → Option (Bool)
  | 0, _, _, _, _, _, _, _, _, _, _, _, _, _, _ => none
  | k + 1, x5, x6, x7, x8, x9, x10, x11, x12, x13, x17, x18, x19, x20, x35 => if x20 = true then ((impl_RecoverState.f k x18 x19).bind fun bt547 => (if bt547.2.2 = true then (if bt547.1 = (wrap64 (x35 + 1)) then ((laws_qInts.f k bt547.2.1 x17).bind fun t552 => (if t552 = true then (laws_FnCrashes.j2 k x5 x6 x7 x8 x9 x10 x11 x12 x13) else (some false))) else (some false)) else (some false))) else (laws_FnCrashes.j2 k x5 x6 x7 x8 x9 x10 x11 x12 x13)
def laws_FnCrashes.j2 : Nat → List Int → List Int → List Int → Int → List Int → List Int → Bool → List Int → List Int → Option (Bool)
  | 0, _, _, _, _, _, _, _, _, _ => none
  | k + 1, x5, x6, x7, x8, x9, x10, x11, x12, x13 => if x11 = true then ((impl_RecoverState.f k x5 x6).bind fun bt553 => ((spec_RecoverState.f k x5 x6).bind fun bt558 => ((impl_RecoverState.f k x9 x10).bind fun bt563 => ((spec_RecoverState.f k x12 x13).bind fun bt568 => (if (bt553.2.2 != bt558.2.2) = true then (laws_FnCrashes.j3 k x7 x8 bt558.1 bt558.2.1 bt558.2.2 bt568.1 bt568.2.1 bt568.2.2 true) else (if bt553.1 = bt558.1 then ((laws_qInts.f k bt553.2.1 bt558.2.1).bind fun t573 => (if t573 = true then (if (bt563.2.2 != bt568.2.2) = true then (laws_FnCrashes.j3 k x7 x8 bt558.1 bt558.2.1 bt558.2.2 bt568.1 bt568.2.1 bt568.2.2 true) else (if bt563.1 = bt568.1 then ((laws_qInts.f k bt563.2.1 bt568.2.1).bind fun t574 => (laws_FnCrashes.j3 k x7 x8 bt558.1 bt558.2.1 bt558.2.2 bt568.1 bt568.2.1 bt568.2.2 (!t574))) else (laws_FnCrashes.j3 k x7 x8 bt558.1 bt558.2.1 bt558.2.2 bt568.1 bt568.2.1 bt568.2.2 true))) else (laws_FnCrashes.j3 k x7 x8 bt558.1 bt558.2.1 bt558.2.2 bt568.1 bt568.2.1 bt568.2.2 true))) else (laws_FnCrashes.j3 k x7 x8 bt558.1 bt558.2.1 bt558.2.2 bt568.1 bt568.2.1 bt568.2.2 true))))))) else (some true)
def laws_FnCrashes.j3 : Nat → List Int → Int → Int → List Int → Bool → Int → List Int → Bool → Bool → Option (Bool)
  | 0, _, _, _, _, _, _, _, _, _ => none
  | k + 1, x7, x8, x48, x49, x50, x54, x55, x56, x337 => if x337 = true then (some false) else (if x8 = 16 then (if x56 = true then (if x54 = (wrap64 (x48 + 1)) then ((laws_qInts.f k x55 x7).bind fun t575 => (some t575)) else (some false)) else (some false)) else (if (x56 == x50) = true then (if x54 = x48 then ((laws_qInts.f k x55 x49).bind fun t576 => (some t576)) else (some false)) else (some false)))
end
def laws_FnCrashes.f (k : Nat) (l0 : List Int) (l1 : List Int) : Option (Bool) := if (wrap64 ((l0.length : Int) + (l1.length : Int))) > 1048576 then (some true) else ((spec_DrawCrashAt.f k l0).bind fun bt467 => ((impl_CrashAt.f k bt467.1 bt467.2.1 bt467.2.2.1 bt467.2.2.2).bind fun bt477 => ((spec_CrashAt.f k bt467.1 bt467.2.1 bt467.2.2.1 bt467.2.2.2).bind fun bt484 => ((spec_DrawWriteState.f k l1).bind fun bt491 => ((impl_WriteState.f k bt491.1 bt491.2.1 bt491.2.2).bind fun bt500 => ((spec_WriteState.f k bt491.1 bt491.2.1 bt491.2.2).bind fun bt507 => ((impl_NewestArea.f k bt491.1 bt491.2.1).bind fun bt514 => ((spec_NewestArea.f k bt491.1 bt491.2.1).bind fun bt516 => ((impl_StatesLeft.f k bt491.1 bt491.2.1).bind fun bt518 => ((spec_StatesLeft.f k bt491.1 bt491.2.1).bind fun bt520 => ((impl_RecoverState.f k bt491.1 bt491.2.1).bind fun bt522 => ((spec_RecoverState.f k bt491.1 bt491.2.1).bind fun bt527 => (if (bt477.2.2 != bt484.2.2) = true then (laws_FnCrashes.j0 k bt467.1 bt467.2.1 bt467.2.2.1 bt467.2.2.2 bt477.1 bt477.2.1 bt477.2.2 bt484.1 bt484.2.1 bt491.1 bt491.2.1 bt491.2.2 bt500.1 bt500.2.1 bt500.2.2 bt516.1 bt522.2.2 bt527.1 bt527.2.1 true) else ((laws_qInts.f k bt477.1 bt484.1).bind fun t532 => (if t532 = true then ((laws_qInts.f k bt477.2.1 bt484.2.1).bind fun t533 => (if t533 = true then (if (bt500.2.2 != bt507.2.2) = true then (laws_FnCrashes.j0 k bt467.1 bt467.2.1 bt467.2.2.1 bt467.2.2.2 bt477.1 bt477.2.1 bt477.2.2 bt484.1 bt484.2.1 bt491.1 bt491.2.1 bt491.2.2 bt500.1 bt500.2.1 bt500.2.2 bt516.1 bt522.2.2 bt527.1 bt527.2.1 true) else ((laws_qInts.f k bt500.1 bt507.1).bind fun t534 => (if t534 = true then ((laws_qInts.f k bt500.2.1 bt507.2.1).bind fun t535 => (if t535 = true then (if (bt514.2 != bt516.2) = true then (laws_FnCrashes.j0 k bt467.1 bt467.2.1 bt467.2.2.1 bt467.2.2.2 bt477.1 bt477.2.1 bt477.2.2 bt484.1 bt484.2.1 bt491.1 bt491.2.1 bt491.2.2 bt500.1 bt500.2.1 bt500.2.2 bt516.1 bt522.2.2 bt527.1 bt527.2.1 true) else (if bt514.1 = bt516.1 then (if (bt518.2 != bt520.2) = true then (laws_FnCrashes.j0 k bt467.1 bt467.2.1 bt467.2.2.1 bt467.2.2.2 bt477.1 bt477.2.1 bt477.2.2 bt484.1 bt484.2.1 bt491.1 bt491.2.1 bt491.2.2 bt500.1 bt500.2.1 bt500.2.2 bt516.1 bt522.2.2 bt527.1 bt527.2.1 true) else (if bt518.1 = bt520.1 then (if (bt522.2.2 != bt527.2.2) = true then (laws_FnCrashes.j0 k bt467.1 bt467.2.1 bt467.2.2.1 bt467.2.2.2 bt477.1 bt477.2.1 bt477.2.2 bt484.1 bt484.2.1 bt491.1 bt491.2.1 bt491.2.2 bt500.1 bt500.2.1 bt500.2.2 bt516.1 bt522.2.2 bt527.1 bt527.2.1 true) else (if bt522.1 = bt527.1 then ((laws_qInts.f k bt522.2.1 bt527.2.1).bind fun t536 => (if t536 = true then (if (bt514.2 != bt522.2.2) = true then (laws_FnCrashes.j0 k bt467.1 bt467.2.1 bt467.2.2.1 bt467.2.2.2 bt477.1 bt477.2.1 bt477.2.2 bt484.1 bt484.2.1 bt491.1 bt491.2.1 bt491.2.2 bt500.1 bt500.2.1 bt500.2.2 bt516.1 bt522.2.2 bt527.1 bt527.2.1 true) else (if bt518.2 = true then (laws_FnCrashes.j0 k bt467.1 bt467.2.1 bt467.2.2.1 bt467.2.2.2 bt477.1 bt477.2.1 bt477.2.2 bt484.1 bt484.2.1 bt491.1 bt491.2.1 bt491.2.2 bt500.1 bt500.2.1 bt500.2.2 bt516.1 bt522.2.2 bt527.1 bt527.2.1 (bt522.2.2 != (decide (bt520.1 > 0)))) else (laws_FnCrashes.j0 k bt467.1 bt467.2.1 bt467.2.2.1 bt467.2.2.2 bt477.1 bt477.2.1 bt477.2.2 bt484.1 bt484.2.1 bt491.1 bt491.2.1 bt491.2.2 bt500.1 bt500.2.1 bt500.2.2 bt516.1 bt522.2.2 bt527.1 bt527.2.1 (bt522.2.2 != false)))) else (laws_FnCrashes.j0 k bt467.1 bt467.2.1 bt467.2.2.1 bt467.2.2.2 bt477.1 bt477.2.1 bt477.2.2 bt484.1 bt484.2.1 bt491.1 bt491.2.1 bt491.2.2 bt500.1 bt500.2.1 bt500.2.2 bt516.1 bt522.2.2 bt527.1 bt527.2.1 true))) else (laws_FnCrashes.j0 k bt467.1 bt467.2.1 bt467.2.2.1 bt467.2.2.2 bt477.1 bt477.2.1 bt477.2.2 bt484.1 bt484.2.1 bt491.1 bt491.2.1 bt491.2.2 bt500.1 bt500.2.1 bt500.2.2 bt516.1 bt522.2.2 bt527.1 bt527.2.1 true))) else (laws_FnCrashes.j0 k bt467.1 bt467.2.1 bt467.2.2.1 bt467.2.2.2 bt477.1 bt477.2.1 bt477.2.2 bt484.1 bt484.2.1 bt491.1 bt491.2.1 bt491.2.2 bt500.1 bt500.2.1 bt500.2.2 bt516.1 bt522.2.2 bt527.1 bt527.2.1 true))) else (laws_FnCrashes.j0 k bt467.1 bt467.2.1 bt467.2.2.1 bt467.2.2.2 bt477.1 bt477.2.1 bt477.2.2 bt484.1 bt484.2.1 bt491.1 bt491.2.1 bt491.2.2 bt500.1 bt500.2.1 bt500.2.2 bt516.1 bt522.2.2 bt527.1 bt527.2.1 true))) else (laws_FnCrashes.j0 k bt467.1 bt467.2.1 bt467.2.2.1 bt467.2.2.2 bt477.1 bt477.2.1 bt477.2.2 bt484.1 bt484.2.1 bt491.1 bt491.2.1 bt491.2.2 bt500.1 bt500.2.1 bt500.2.2 bt516.1 bt522.2.2 bt527.1 bt527.2.1 true))) else (laws_FnCrashes.j0 k bt467.1 bt467.2.1 bt467.2.2.1 bt467.2.2.2 bt477.1 bt477.2.1 bt477.2.2 bt484.1 bt484.2.1 bt491.1 bt491.2.1 bt491.2.2 bt500.1 bt500.2.1 bt500.2.2 bt516.1 bt522.2.2 bt527.1 bt527.2.1 true)))) else (laws_FnCrashes.j0 k bt467.1 bt467.2.1 bt467.2.2.1 bt467.2.2.2 bt477.1 bt477.2.1 bt477.2.2 bt484.1 bt484.2.1 bt491.1 bt491.2.1 bt491.2.2 bt500.1 bt500.2.1 bt500.2.2 bt516.1 bt522.2.2 bt527.1 bt527.2.1 true))) else (laws_FnCrashes.j0 k bt467.1 bt467.2.1 bt467.2.2.1 bt467.2.2.2 bt477.1 bt477.2.1 bt477.2.2 bt484.1 bt484.2.1 bt491.1 bt491.2.1 bt491.2.2 bt500.1 bt500.2.1 bt500.2.2 bt516.1 bt522.2.2 bt527.1 bt527.2.1 true))))))))))))))))
theorem laws_FnCrashes.mono_l : ∀ k, (∀ y0 y1 y2 y3 y4 y5 y6 y7 y8 y9 y10 y11 y12 y13 y14 y15 y16 y17 y18 y19, LeO (laws_FnCrashes.j0 k y0 y1 y2 y3 y4 y5 y6 y7 y8 y9 y10 y11 y12 y13 y14 y15 y16 y17 y18 y19) (laws_FnCrashes.j0 (k + 1) y0 y1 y2 y3 y4 y5 y6 y7 y8 y9 y10 y11 y12 y13 y14 y15 y16 y17 y18 y19)) ∧ (∀ y0 y1 y2 y3 y4 y5 y6 y7 y8 y9 y10 y11 y12 y13, LeO (laws_FnCrashes.j1 k y0 y1 y2 y3 y4 y5 y6 y7 y8 y9 y10 y11 y12 y13) (laws_FnCrashes.j1 (k + 1) y0 y1 y2 y3 y4 y5 y6 y7 y8 y9 y10 y11 y12 y13)) ∧ (∀ y0 y1 y2 y3 y4 y5 y6 y7 y8, LeO (laws_FnCrashes.j2 k y0 y1 y2 y3 y4 y5 y6 y7 y8) (laws_FnCrashes.j2 (k + 1) y0 y1 y2 y3 y4 y5 y6 y7 y8)) ∧ (∀ y0 y1 y2 y3 y4 y5 y6 y7 y8, LeO (laws_FnCrashes.j3 k y0 y1 y2 y3 y4 y5 y6 y7 y8) (laws_FnCrashes.j3 (k + 1) y0 y1 y2 y3 y4 y5 y6 y7 y8))
  | 0 => ⟨fun _ _ _ _ _ _ _ _ _ _ _ _ _ _ _ _ _ _ _ _ r h => by simp [laws_FnCrashes.j0] at h, fun _ _ _ _ _ _ _ _ _ _ _ _ _ _ r h => by simp [laws_FnCrashes.j1] at h, fun _ _ _ _ _ _ _ _ _ r h => by simp [laws_FnCrashes.j2] at h, fun _ _ _ _ _ _ _ _ _ r h => by simp [laws_FnCrashes.j3] at h⟩
  | k + 1 => by
    obtain ⟨ih0, ih1, ih2, ih3⟩ := laws_FnCrashes.mono_l k
    refine ⟨?_, ?_, ?_, ?_⟩
    · intro y0 y1 y2 y3 y4 y5 y6 y7 y8 y9 y10 y11 y12 y13 y14 y15 y16 y17 y18 y19
      unfold laws_FnCrashes.j0
      repeat' first
     |(with_reducible exact ih0 _ _ _ _ _ _ _ _ _ _ _ _ _ _ _ _ _ _ _ _)
     |(with_reducible exact ih1 _ _ _ _ _ _ _ _ _ _ _ _ _ _)
     |(with_reducible exact ih2 _ _ _ _ _ _ _ _ _)
     |(with_reducible exact ih3 _ _ _ _ _ _ _ _ _)
     |(with_reducible exact impl_CrashAt.mono _ _ _ _ _)
     |(with_reducible exact impl_NewestArea.mono _ _ _)
     |(with_reducible exact impl_ReadArea.mono _ _)
     |(with_reducible exact impl_RecoverState.mono _ _ _)
     |(with_reducible exact impl_StatesLeft.mono _ _ _)
     |(with_reducible exact impl_WriteState.mono _ _ _ _)
     |(with_reducible exact laws_qInts.mono _ _ _)
     |(with_reducible exact spec_CrashAt.mono _ _ _ _ _)
     |(with_reducible exact spec_DrawCrashAt.mono _ _)
     |(with_reducible exact spec_DrawWriteState.mono _ _)
     |(with_reducible exact spec_NewestArea.mono _ _ _)
     |(with_reducible exact spec_RecoverState.mono _ _ _)
     |(with_reducible exact spec_StatesLeft.mono _ _ _)
     |(with_reducible exact spec_WriteState.mono _ _ _ _)
     |(with_reducible exact LeO.refl _)
     |(with_reducible exact LeO.none _)
     |(with_reducible refine LeO.ite ?_ ?_)
     |(with_reducible refine LeO.bind ?_ (fun _ => ?_))
     |exact ih0 _ _ _ _ _ _ _ _ _ _ _ _ _ _ _ _ _ _ _ _
     |exact ih1 _ _ _ _ _ _ _ _ _ _ _ _ _ _
     |exact ih2 _ _ _ _ _ _ _ _ _
     |exact ih3 _ _ _ _ _ _ _ _ _
     |exact impl_CrashAt.mono _ _ _ _ _
     |exact impl_NewestArea.mono _ _ _
     |exact impl_ReadArea.mono _ _
     |exact impl_RecoverState.mono _ _ _
     |exact impl_StatesLeft.mono _ _ _
     |exact impl_WriteState.mono _ _ _ _
     |exact laws_qInts.mono _ _ _
     |exact spec_CrashAt.mono _ _ _ _ _
     |exact spec_DrawCrashAt.mono _ _
     |exact spec_DrawWriteState.mono _ _
     |exact spec_NewestArea.mono _ _ _
     |exact spec_RecoverState.mono _ _ _
     |exact spec_StatesLeft.mono _ _ _
     |exact spec_WriteState.mono _ _ _ _
     |exact LeO.none _
      | refine LeO.ite ?_ ?_
      | refine LeO.bind ?_ (fun _ => ?_)
    · intro y0 y1 y2 y3 y4 y5 y6 y7 y8 y9 y10 y11 y12 y13
      unfold laws_FnCrashes.j1
      repeat' first
     |(with_reducible exact ih0 _ _ _ _ _ _ _ _ _ _ _ _ _ _ _ _ _ _ _ _)
     |(with_reducible exact ih1 _ _ _ _ _ _ _ _ _ _ _ _ _ _)
     |(with_reducible exact ih2 _ _ _ _ _ _ _ _ _)
     |(with_reducible exact ih3 _ _ _ _ _ _ _ _ _)
     |(with_reducible exact impl_CrashAt.mono _ _ _ _ _)
     |(with_reducible exact impl_NewestArea.mono _ _ _)
     |(with_reducible exact impl_ReadArea.mono _ _)
     |(with_reducible exact impl_RecoverState.mono _ _ _)
     |(with_reducible exact impl_StatesLeft.mono _ _ _)
     |(with_reducible exact impl_WriteState.mono _ _ _ _)
     |(with_reducible exact laws_qInts.mono _ _ _)
     |(with_reducible exact spec_CrashAt.mono _ _ _ _ _)
     |(with_reducible exact spec_DrawCrashAt.mono _ _)
     |(with_reducible exact spec_DrawWriteState.mono _ _)
     |(with_reducible exact spec_NewestArea.mono _ _ _)
     |(with_reducible exact spec_RecoverState.mono _ _ _)
     |(with_reducible exact spec_StatesLeft.mono _ _ _)
     |(with_reducible exact spec_WriteState.mono _ _ _ _)
     |(with_reducible exact LeO.refl _)
     |(with_reducible exact LeO.none _)
     |(with_reducible refine LeO.ite ?_ ?_)
     |(with_reducible refine LeO.bind ?_ (fun _ => ?_))
     |exact ih0 _ _ _ _ _ _ _ _ _ _ _ _ _ _ _ _ _ _ _ _
     |exact ih1 _ _ _ _ _ _ _ _ _ _ _ _ _ _
     |exact ih2 _ _ _ _ _ _ _ _ _
     |exact ih3 _ _ _ _ _ _ _ _ _
     |exact impl_CrashAt.mono _ _ _ _ _
     |exact impl_NewestArea.mono _ _ _
     |exact impl_ReadArea.mono _ _
     |exact impl_RecoverState.mono _ _ _
     |exact impl_StatesLeft.mono _ _ _
     |exact impl_WriteState.mono _ _ _ _
     |exact laws_qInts.mono _ _ _
     |exact spec_CrashAt.mono _ _ _ _ _
     |exact spec_DrawCrashAt.mono _ _
     |exact spec_DrawWriteState.mono _ _
     |exact spec_NewestArea.mono _ _ _
     |exact spec_RecoverState.mono _ _ _
     |exact spec_StatesLeft.mono _ _ _
     |exact spec_WriteState.mono _ _ _ _
     |exact LeO.none _
      | refine LeO.ite ?_ ?_
      | refine LeO.bind ?_ (fun _ => ?_)
    · intro y0 y1 y2 y3 y4 y5 y6 y7 y8
      unfold laws_FnCrashes.j2
      repeat' first
     |(with_reducible exact ih0 _ _ _ _ _ _ _ _ _ _ _ _ _ _ _ _ _ _ _ _)
     |(with_reducible exact ih1 _ _ _ _ _ _ _ _ _ _ _ _ _ _)
     |(with_reducible exact ih2 _ _ _ _ _ _ _ _ _)
     |(with_reducible exact ih3 _ _ _ _ _ _ _ _ _)
     |(with_reducible exact impl_CrashAt.mono _ _ _ _ _)
     |(with_reducible exact impl_NewestArea.mono _ _ _)
     |(with_reducible exact impl_ReadArea.mono _ _)
     |(with_reducible exact impl_RecoverState.mono _ _ _)
     |(with_reducible exact impl_StatesLeft.mono _ _ _)
     |(with_reducible exact impl_WriteState.mono _ _ _ _)
     |(with_reducible exact laws_qInts.mono _ _ _)
     |(with_reducible exact spec_CrashAt.mono _ _ _ _ _)
     |(with_reducible exact spec_DrawCrashAt.mono _ _)
     |(with_reducible exact spec_DrawWriteState.mono _ _)
     |(with_reducible exact spec_NewestArea.mono _ _ _)
     |(with_reducible exact spec_RecoverState.mono _ _ _)
     |(with_reducible exact spec_StatesLeft.mono _ _ _)
     |(with_reducible exact spec_WriteState.mono _ _ _ _)
     |(with_reducible exact LeO.refl _)
     |(with_reducible exact LeO.none _)
     |(with_reducible refine LeO.ite ?_ ?_)
     |(with_reducible refine LeO.bind ?_ (fun _ => ?_))
     |exact ih0 _ _ _ _ _ _ _ _ _ _ _ _ _ _ _ _ _ _ _ _
     |exact ih1 _ _ _ _ _ _ _ _ _ _ _ _ _ _
     |exact ih2 _ _ _ _ _ _ _ _ _
     |exact ih3 _ _ _ _ _ _ _ _ _
     |exact impl_CrashAt.mono _ _ _ _ _
     |exact impl_NewestArea.mono _ _ _
     |exact impl_ReadArea.mono _ _
     |exact impl_RecoverState.mono _ _ _
     |exact impl_StatesLeft.mono _ _ _
     |exact impl_WriteState.mono _ _ _ _
     |exact laws_qInts.mono _ _ _
     |exact spec_CrashAt.mono _ _ _ _ _
     |exact spec_DrawCrashAt.mono _ _
     |exact spec_DrawWriteState.mono _ _
     |exact spec_NewestArea.mono _ _ _
     |exact spec_RecoverState.mono _ _ _
     |exact spec_StatesLeft.mono _ _ _
     |exact spec_WriteState.mono _ _ _ _
     |exact LeO.none _
      | refine LeO.ite ?_ ?_
      | refine LeO.bind ?_ (fun _ => ?_)
    · intro y0 y1 y2 y3 y4 y5 y6 y7 y8
      unfold laws_FnCrashes.j3
      repeat' first
     |(with_reducible exact ih0 _ _ _ _ _ _ _ _ _ _ _ _ _ _ _ _ _ _ _ _)
     |(with_reducible exact ih1 _ _ _ _ _ _ _ _ _ _ _ _ _ _)
     |(with_reducible exact ih2 _ _ _ _ _ _ _ _ _)
     |(with_reducible exact ih3 _ _ _ _ _ _ _ _ _)
     |(with_reducible exact impl_CrashAt.mono _ _ _ _ _)
     |(with_reducible exact impl_NewestArea.mono _ _ _)
     |(with_reducible exact impl_ReadArea.mono _ _)
     |(with_reducible exact impl_RecoverState.mono _ _ _)
     |(with_reducible exact impl_StatesLeft.mono _ _ _)
     |(with_reducible exact impl_WriteState.mono _ _ _ _)
     |(with_reducible exact laws_qInts.mono _ _ _)
     |(with_reducible exact spec_CrashAt.mono _ _ _ _ _)
     |(with_reducible exact spec_DrawCrashAt.mono _ _)
     |(with_reducible exact spec_DrawWriteState.mono _ _)
     |(with_reducible exact spec_NewestArea.mono _ _ _)
     |(with_reducible exact spec_RecoverState.mono _ _ _)
     |(with_reducible exact spec_StatesLeft.mono _ _ _)
     |(with_reducible exact spec_WriteState.mono _ _ _ _)
     |(with_reducible exact LeO.refl _)
     |(with_reducible exact LeO.none _)
     |(with_reducible refine LeO.ite ?_ ?_)
     |(with_reducible refine LeO.bind ?_ (fun _ => ?_))
     |exact ih0 _ _ _ _ _ _ _ _ _ _ _ _ _ _ _ _ _ _ _ _
     |exact ih1 _ _ _ _ _ _ _ _ _ _ _ _ _ _
     |exact ih2 _ _ _ _ _ _ _ _ _
     |exact ih3 _ _ _ _ _ _ _ _ _
     |exact impl_CrashAt.mono _ _ _ _ _
     |exact impl_NewestArea.mono _ _ _
     |exact impl_ReadArea.mono _ _
     |exact impl_RecoverState.mono _ _ _
     |exact impl_StatesLeft.mono _ _ _
     |exact impl_WriteState.mono _ _ _ _
     |exact laws_qInts.mono _ _ _
     |exact spec_CrashAt.mono _ _ _ _ _
     |exact spec_DrawCrashAt.mono _ _
     |exact spec_DrawWriteState.mono _ _
     |exact spec_NewestArea.mono _ _ _
     |exact spec_RecoverState.mono _ _ _
     |exact spec_StatesLeft.mono _ _ _
     |exact spec_WriteState.mono _ _ _ _
     |exact LeO.none _
      | refine LeO.ite ?_ ?_
      | refine LeO.bind ?_ (fun _ => ?_)
theorem laws_FnCrashes.mono : ∀ a0 a1 k, LeO (laws_FnCrashes.f k a0 a1) (laws_FnCrashes.f (k + 1) a0 a1) := by
  intro a0 a1 k
  obtain ⟨ih0, ih1, ih2, ih3⟩ := laws_FnCrashes.mono_l k
  unfold laws_FnCrashes.f
  repeat' first
     |(with_reducible exact ih0 _ _ _ _ _ _ _ _ _ _ _ _ _ _ _ _ _ _ _ _)
     |(with_reducible exact ih1 _ _ _ _ _ _ _ _ _ _ _ _ _ _)
     |(with_reducible exact ih2 _ _ _ _ _ _ _ _ _)
     |(with_reducible exact ih3 _ _ _ _ _ _ _ _ _)
     |(with_reducible exact impl_CrashAt.mono _ _ _ _ _)
     |(with_reducible exact impl_NewestArea.mono _ _ _)
     |(with_reducible exact impl_ReadArea.mono _ _)
     |(with_reducible exact impl_RecoverState.mono _ _ _)
     |(with_reducible exact impl_StatesLeft.mono _ _ _)
     |(with_reducible exact impl_WriteState.mono _ _ _ _)
     |(with_reducible exact laws_qInts.mono _ _ _)
     |(with_reducible exact spec_CrashAt.mono _ _ _ _ _)
     |(with_reducible exact spec_DrawCrashAt.mono _ _)
     |(with_reducible exact spec_DrawWriteState.mono _ _)
     |(with_reducible exact spec_NewestArea.mono _ _ _)
     |(with_reducible exact spec_RecoverState.mono _ _ _)
     |(with_reducible exact spec_StatesLeft.mono _ _ _)
     |(with_reducible exact spec_WriteState.mono _ _ _ _)
     |(with_reducible exact LeO.refl _)
     |(with_reducible exact LeO.none _)
     |(with_reducible refine LeO.ite ?_ ?_)
     |(with_reducible refine LeO.bind ?_ (fun _ => ?_))
     |exact ih0 _ _ _ _ _ _ _ _ _ _ _ _ _ _ _ _ _ _ _ _
     |exact ih1 _ _ _ _ _ _ _ _ _ _ _ _ _ _
     |exact ih2 _ _ _ _ _ _ _ _ _
     |exact ih3 _ _ _ _ _ _ _ _ _
     |exact impl_CrashAt.mono _ _ _ _ _
     |exact impl_NewestArea.mono _ _ _
     |exact impl_ReadArea.mono _ _
     |exact impl_RecoverState.mono _ _ _
     |exact impl_StatesLeft.mono _ _ _
     |exact impl_WriteState.mono _ _ _ _
     |exact laws_qInts.mono _ _ _
     |exact spec_CrashAt.mono _ _ _ _ _
     |exact spec_DrawCrashAt.mono _ _
     |exact spec_DrawWriteState.mono _ _
     |exact spec_NewestArea.mono _ _ _
     |exact spec_RecoverState.mono _ _ _
     |exact spec_StatesLeft.mono _ _ _
     |exact spec_WriteState.mono _ _ _ _
     |exact LeO.none _
      | refine LeO.ite ?_ ?_
      | refine LeO.bind ?_ (fun _ => ?_)
theorem laws_FnCrashes.j0_true : ∀ {k y0 y1 y2 y3 y4 y5 y6 y7 y8 y9 y10 y11 y12 y13 y14 y15 y16 y17 y18}, laws_FnCrashes.j0 k y0 y1 y2 y3 y4 y5 y6 y7 y8 y9 y10 y11 y12 y13 y14 y15 y16 y17 y18 true = some true → False := by
  intro k y0 y1 y2 y3 y4 y5 y6 y7 y8 y9 y10 y11 y12 y13 y14 y15 y16 y17 y18 h
  cases k with
  | zero => simp only [laws_FnCrashes.j0] at h; cases h
  | succ k => rw [laws_FnCrashes.j0, if_pos rfl] at h; cases h
theorem laws_FnCrashes.j3_true : ∀ {k y0 y1 y2 y3 y4 y5 y6 y7}, laws_FnCrashes.j3 k y0 y1 y2 y3 y4 y5 y6 y7 true = some true → False := by
  intro k y0 y1 y2 y3 y4 y5 y6 y7 h
  cases k with
  | zero => simp only [laws_FnCrashes.j3] at h; cases h
  | succ k => rw [laws_FnCrashes.j3, if_pos rfl] at h; cases h
set_option maxHeartbeats 40000000 in
set_option maxRecDepth 100000 in
theorem laws_FnCrashes.calls (k : Nat) (A0 : Option Addr) (c0 : Nat) (l0 : List Int) (A1 : Option Addr) (c1 : Nat) (l1 : List Int) (r : Bool) (w : World) (hr0 : Kd.C (Kd.int .u8) w A0 l0.length l0) (hc0 : l0.length ≤ c0) (hr1 : Kd.C (Kd.int .u8) w A1 l1.length l1) (hc1 : l1.length ≤ c1) (h : laws_FnCrashes.f k l0 l1 = some r) (hr_ : r = true) :
    Calls Try.prog 5 #[.slice A0 l0.length c0, .slice A1 l1.length c1] w fun e w' => e = .returned (.bool r) ∧ Below w.heap.size w w' := by
  have HR_ := Aside0.mk hr_
  clear hr_
  have HR0 := Aside0.mk hr0
  have HC0 := Aside0.mk hc0
  clear hr0 hc0
  have HR1 := Aside0.mk hr1
  have HC1 := Aside0.mk hc1
  clear hr1 hc1
  have HB := Aside0.mk (Below.refl w.heap.size w)
  have H : (if (wrap64 ((l0.length : Int) + (l1.length : Int))) > 1048576 then (some true) else ((spec_DrawCrashAt.f k l0).bind fun bt467 => ((impl_CrashAt.f k bt467.1 bt467.2.1 bt467.2.2.1 bt467.2.2.2).bind fun bt477 => ((spec_CrashAt.f k bt467.1 bt467.2.1 bt467.2.2.1 bt467.2.2.2).bind fun bt484 => ((spec_DrawWriteState.f k l1).bind fun bt491 => ((impl_WriteState.f k bt491.1 bt491.2.1 bt491.2.2).bind fun bt500 => ((spec_WriteState.f k bt491.1 bt491.2.1 bt491.2.2).bind fun bt507 => ((impl_NewestArea.f k bt491.1 bt491.2.1).bind fun bt514 => ((spec_NewestArea.f k bt491.1 bt491.2.1).bind fun bt516 => ((impl_StatesLeft.f k bt491.1 bt491.2.1).bind fun bt518 => ((spec_StatesLeft.f k bt491.1 bt491.2.1).bind fun bt520 => ((impl_RecoverState.f k bt491.1 bt491.2.1).bind fun bt522 => ((spec_RecoverState.f k bt491.1 bt491.2.1).bind fun bt527 => (if (bt477.2.2 != bt484.2.2) = true then (laws_FnCrashes.j0 k bt467.1 bt467.2.1 bt467.2.2.1 bt467.2.2.2 bt477.1 bt477.2.1 bt477.2.2 bt484.1 bt484.2.1 bt491.1 bt491.2.1 bt491.2.2 bt500.1 bt500.2.1 bt500.2.2 bt516.1 bt522.2.2 bt527.1 bt527.2.1 true) else ((laws_qInts.f k bt477.1 bt484.1).bind fun t532 => (if t532 = true then ((laws_qInts.f k bt477.2.1 bt484.2.1).bind fun t533 => (if t533 = true then (if (bt500.2.2 != bt507.2.2) = true then (laws_FnCrashes.j0 k bt467.1 bt467.2.1 bt467.2.2.1 bt467.2.2.2 bt477.1 bt477.2.1 bt477.2.2 bt484.1 bt484.2.1 bt491.1 bt491.2.1 bt491.2.2 bt500.1 bt500.2.1 bt500.2.2 bt516.1 bt522.2.2 bt527.1 bt527.2.1 true) else ((laws_qInts.f k bt500.1 bt507.1).bind fun t534 => (if t534 = true then ((laws_qInts.f k bt500.2.1 bt507.2.1).bind fun t535 => (if t535 = true then (if (bt514.2 != bt516.2) = true then (laws_FnCrashes.j0 k bt467.1 bt467.2.1 bt467.2.2.1 bt467.2.2.2 bt477.1 bt477.2.1 bt477.2.2 bt484.1 bt484.2.1 bt491.1 bt491.2.1 bt491.2.2 bt500.1 bt500.2.1 bt500.2.2 bt516.1 bt522.2.2 bt527.1 bt527.2.1 true) else (if bt514.1 = bt516.1 then (if (bt518.2 != bt520.2) = true then (laws_FnCrashes.j0 k bt467.1 bt467.2.1 bt467.2.2.1 bt467.2.2.2 bt477.1 bt477.2.1 bt477.2.2 bt484.1 bt484.2.1 bt491.1 bt491.2.1 bt491.2.2 bt500.1 bt500.2.1 bt500.2.2 bt516.1 bt522.2.2 bt527.1 bt527.2.1 true) else (if bt518.1 = bt520.1 then (if (bt522.2.2 != bt527.2.2) = true then (laws_FnCrashes.j0 k bt467.1 bt467.2.1 bt467.2.2.1 bt467.2.2.2 bt477.1 bt477.2.1 bt477.2.2 bt484.1 bt484.2.1 bt491.1 bt491.2.1 bt491.2.2 bt500.1 bt500.2.1 bt500.2.2 bt516.1 bt522.2.2 bt527.1 bt527.2.1 true) else (if bt522.1 = bt527.1 then ((laws_qInts.f k bt522.2.1 bt527.2.1).bind fun t536 => (if t536 = true then (if (bt514.2 != bt522.2.2) = true then (laws_FnCrashes.j0 k bt467.1 bt467.2.1 bt467.2.2.1 bt467.2.2.2 bt477.1 bt477.2.1 bt477.2.2 bt484.1 bt484.2.1 bt491.1 bt491.2.1 bt491.2.2 bt500.1 bt500.2.1 bt500.2.2 bt516.1 bt522.2.2 bt527.1 bt527.2.1 true) else (if bt518.2 = true then (laws_FnCrashes.j0 k bt467.1 bt467.2.1 bt467.2.2.1 bt467.2.2.2 bt477.1 bt477.2.1 bt477.2.2 bt484.1 bt484.2.1 bt491.1 bt491.2.1 bt491.2.2 bt500.1 bt500.2.1 bt500.2.2 bt516.1 bt522.2.2 bt527.1 bt527.2.1 (bt522.2.2 != (decide (bt520.1 > 0)))) else (laws_FnCrashes.j0 k bt467.1 bt467.2.1 bt467.2.2.1 bt467.2.2.2 bt477.1 bt477.2.1 bt477.2.2 bt484.1 bt484.2.1 bt491.1 bt491.2.1 bt491.2.2 bt500.1 bt500.2.1 bt500.2.2 bt516.1 bt522.2.2 bt527.1 bt527.2.1 (bt522.2.2 != false)))) else (laws_FnCrashes.j0 k bt467.1 bt467.2.1 bt467.2.2.1 bt467.2.2.2 bt477.1 bt477.2.1 bt477.2.2 bt484.1 bt484.2.1 bt491.1 bt491.2.1 bt491.2.2 bt500.1 bt500.2.1 bt500.2.2 bt516.1 bt522.2.2 bt527.1 bt527.2.1 true))) else (laws_FnCrashes.j0 k bt467.1 bt467.2.1 bt467.2.2.1 bt467.2.2.2 bt477.1 bt477.2.1 bt477.2.2 bt484.1 bt484.2.1 bt491.1 bt491.2.1 bt491.2.2 bt500.1 bt500.2.1 bt500.2.2 bt516.1 bt522.2.2 bt527.1 bt527.2.1 true))) else (laws_FnCrashes.j0 k bt467.1 bt467.2.1 bt467.2.2.1 bt467.2.2.2 bt477.1 bt477.2.1 bt477.2.2 bt484.1 bt484.2.1 bt491.1 bt491.2.1 bt491.2.2 bt500.1 bt500.2.1 bt500.2.2 bt516.1 bt522.2.2 bt527.1 bt527.2.1 true))) else (laws_FnCrashes.j0 k bt467.1 bt467.2.1 bt467.2.2.1 bt467.2.2.2 bt477.1 bt477.2.1 bt477.2.2 bt484.1 bt484.2.1 bt491.1 bt491.2.1 bt491.2.2 bt500.1 bt500.2.1 bt500.2.2 bt516.1 bt522.2.2 bt527.1 bt527.2.1 true))) else (laws_FnCrashes.j0 k bt467.1 bt467.2.1 bt467.2.2.1 bt467.2.2.2 bt477.1 bt477.2.1 bt477.2.2 bt484.1 bt484.2.1 bt491.1 bt491.2.1 bt491.2.2 bt500.1 bt500.2.1 bt500.2.2 bt516.1 bt522.2.2 bt527.1 bt527.2.1 true))) else (laws_FnCrashes.j0 k bt467.1 bt467.2.1 bt467.2.2.1 bt467.2.2.2 bt477.1 bt477.2.1 bt477.2.2 bt484.1 bt484.2.1 bt491.1 bt491.2.1 bt491.2.2 bt500.1 bt500.2.1 bt500.2.2 bt516.1 bt522.2.2 bt527.1 bt527.2.1 true)))) else (laws_FnCrashes.j0 k bt467.1 bt467.2.1 bt467.2.2.1 bt467.2.2.2 bt477.1 bt477.2.1 bt477.2.2 bt484.1 bt484.2.1 bt491.1 bt491.2.1 bt491.2.2 bt500.1 bt500.2.1 bt500.2.2 bt516.1 bt522.2.2 bt527.1 bt527.2.1 true))) else (laws_FnCrashes.j0 k bt467.1 bt467.2.1 bt467.2.2.1 bt467.2.2.2 bt477.1 bt477.2.1 bt477.2.2 bt484.1 bt484.2.1 bt491.1 bt491.2.1 bt491.2.2 bt500.1 bt500.2.1 bt500.2.2 bt516.1 bt522.2.2 bt527.1 bt527.2.1 true))))))))))))))))) = some r := h
  clear h
  by_cases c3 : (wrap64 ((l0.length : Int) + (l1.length : Int))) > 1048576
  · rw [if_pos c3] at H
    have c3b0 : decide (1048576 < (wrap64 ((l0.length : Int) + (l1.length : Int)))) = true := decide_eq_true c3
    clear c3
    obtain rfl := Option.some.inj H
    go_enter Try.func5, Try.ntmps5
    go_wp2
    go_ret
    exact ⟨by first | rfl|(simp [errW_none, errW_some] <;> rfl)|(simp [*, errW_none, errW_some] <;> rfl), by repeat (first|(with_reducible first|exact HB.out|apply below_alloc|apply pw_below_drewN|apply below_drew1)|exact HB.out)⟩
  · rw [if_neg c3] at H
    have c3b0 : decide (1048576 < (wrap64 ((l0.length : Int) + (l1.length : Int)))) = false := decide_eq_false c3
    clear c3
    replace H := Option.bind_eq_some_iff.mp H
    obtain ⟨⟨t467, t468, t469, t470⟩, A40, H⟩ := H
    try dsimp only at H
    have A4 := Aside0.mk A40
    clear A40
    replace H := Option.bind_eq_some_iff.mp H
    obtain ⟨⟨t477, t478, t479⟩, A50, H⟩ := H
    try dsimp only at H
    have A5 := Aside0.mk A50
    clear A50
    replace H := Option.bind_eq_some_iff.mp H
    obtain ⟨⟨t484, t485, t486⟩, A60, H⟩ := H
    try dsimp only at H
    have A6 := Aside0.mk A60
    clear A60
    replace H := Option.bind_eq_some_iff.mp H
    obtain ⟨⟨t491, t492, t493⟩, A70, H⟩ := H
    try dsimp only at H
    have A7 := Aside0.mk A70
    clear A70
    replace H := Option.bind_eq_some_iff.mp H
    obtain ⟨⟨t500, t501, t502⟩, A80, H⟩ := H
    try dsimp only at H
    have A8 := Aside0.mk A80
    clear A80
    replace H := Option.bind_eq_some_iff.mp H
    obtain ⟨⟨t507, t508, t509⟩, A90, H⟩ := H
    try dsimp only at H
    have A9 := Aside0.mk A90
    clear A90
    replace H := Option.bind_eq_some_iff.mp H
    obtain ⟨⟨t514, t515⟩, A100, H⟩ := H
    try dsimp only at H
    have A10 := Aside0.mk A100
    clear A100
    replace H := Option.bind_eq_some_iff.mp H
    obtain ⟨⟨t516, t517⟩, A110, H⟩ := H
    try dsimp only at H
    have A11 := Aside0.mk A110
    clear A110
    replace H := Option.bind_eq_some_iff.mp H
    obtain ⟨⟨t518, t519⟩, A120, H⟩ := H
    try dsimp only at H
    have A12 := Aside0.mk A120
    clear A120
    replace H := Option.bind_eq_some_iff.mp H
    obtain ⟨⟨t520, t521⟩, A130, H⟩ := H
    try dsimp only at H
    have A13 := Aside0.mk A130
    clear A130
    replace H := Option.bind_eq_some_iff.mp H
    obtain ⟨⟨t522, t523, t524⟩, A140, H⟩ := H
    try dsimp only at H
    have A14 := Aside0.mk A140
    clear A140
    replace H := Option.bind_eq_some_iff.mp H
    obtain ⟨⟨t527, t528, t529⟩, A150, H⟩ := H
    try dsimp only at H
    have A15 := Aside0.mk A150
    clear A150
    have HC16 := Aside0.mk H
    clear H
    go_enter Try.func5, Try.ntmps5
    go_upto_region 15 with (first|((with_reducible refine gate_callee (f := 37) rfl ?_); refine goesL_ (some 65) rfl rfl Try.func37 (by kernel_rfl) rfl #[.slice A0 l0.length c0] rfl (by (try simp only [List.map_toArray, List.map_cons, List.map_nil]); first | done | rfl|(simp only [List.length_drop, List.length_take]; rfl)) ?_; (with_reducible refine (spec_DrawCrashAt.calls k _ _ l0 t467 t468 t469 t470 _ ?side1 ?side2 A4.out).mono ?_);(case side1 => repeat (first|exact HR0.out|(with_reducible refine Kd.C_alloc ?_ _)|(with_reducible refine Kd.C_drewN ?_ _)|(with_reducible refine Kd.C_drew ?_)));(case side2 => exact HC0.out); rintro e w17 ⟨v471, v473, v475, rfl, ho0, ho1, ho2, hb⟩; refine ⟨_, rfl, ?_⟩; have n0_ := Aside0.mk (Kd.Q_lower (Kd.Q_mono (ok' := fun _ => True) ho0 (fun _ _ => trivial)) (below_size (by repeat (first|(with_reducible first|exact HB.out|apply below_alloc|apply pw_below_drewN|apply below_drew1)|exact HB.out)))); have n1_ := Aside0.mk (Kd.Q_lower (Kd.Q_mono (ok' := fun _ => True) ho1 (fun _ _ => trivial)) (below_size (by repeat (first|(with_reducible first|exact HB.out|apply below_alloc|apply pw_below_drewN|apply below_drew1)|exact HB.out)))); have n2_ := Aside0.mk (Kd.R_lower (Kd.R_mono (ok' := fun _ => True) ho2 (fun _ _ => trivial)) (below_size (by repeat (first|(with_reducible first|exact HB.out|apply below_alloc|apply pw_below_drewN|apply below_drew1)|exact HB.out)))); have n3_ := Aside0.mk (below_step (by repeat (first|(with_reducible first|exact HB.out|apply below_alloc|apply pw_below_drewN|apply below_drew1)|exact HB.out)) hb); clear HB; have HO472 := n0_; have HO474 := n1_; have HO476 := n2_; have HB := n3_; clear n0_ n1_ n2_ n3_; (try clear hb); (try clear hb2); (try clear hk); (try clear hi); (try clear ho0); (try clear ho1); (try clear ho2); obtain ⟨Ao18, co18, eo18, _⟩ := Kd.Q_slice HO472.out; subst eo18; obtain ⟨Ao19, co19, eo19, _⟩ := Kd.Q_slice HO474.out; subst eo19; obtain ⟨Ao20, co20, eo20⟩ := Kd.R_slice HO476.out; subst eo20)|((with_reducible refine gate_callee (f := 38) rfl ?_); refine goesL_ (some 75) rfl rfl Try.func38 (by kernel_rfl) rfl #[.slice Ao18 t467.length co18, .slice Ao19 t468.length co19, .slice Ao20 t469.length co20, .int .i64 t470] rfl (by (try simp only [List.map_toArray, List.map_cons, List.map_nil]); first | done | rfl|(simp only [List.length_drop, List.length_take]; rfl)) ?_; (with_reducible refine (impl_CrashAt.calls k _ _ t467 _ _ t468 _ _ t469 t470 t477 t478 t479 _ ?side1 ?side2 ?side3 ?side4 ?side5 ?side6 A5.out).mono ?_);(case side1 => repeat (first|exact (Kd.Q_reads' HO472.out).2.2|(with_reducible refine Kd.C_alloc ?_ _)|(with_reducible refine Kd.C_drewN ?_ _)|(with_reducible refine Kd.C_drew ?_)));(case side2 => exact (Kd.Q_reads' HO472.out).2.1);(case side3 => repeat (first|exact (Kd.Q_reads' HO474.out).2.2|(with_reducible refine Kd.C_alloc ?_ _)|(with_reducible refine Kd.C_drewN ?_ _)|(with_reducible refine Kd.C_drew ?_)));(case side4 => exact (Kd.Q_reads' HO474.out).2.1);(case side5 => repeat (first|exact (Kd.R_reads' HO476.out).2.2|(with_reducible refine Kd.C_alloc ?_ _)|(with_reducible refine Kd.C_drewN ?_ _)|(with_reducible refine Kd.C_drew ?_)));(case side6 => exact (Kd.R_reads' HO476.out).2.1); rintro e w21 ⟨v480, v482, rfl, ho0, ho1, hb⟩; refine ⟨_, rfl, ?_⟩; have n0_ := Aside0.mk (Kd.Q_below (by (with_reducible repeat (first|apply Kd.Q_alloc|apply Kd.Q_drewN|apply Kd.Q_drew)); exact HO472.out) hb); have n1_ := Aside0.mk (Kd.Q_below (by (with_reducible repeat (first|apply Kd.Q_alloc|apply Kd.Q_drewN|apply Kd.Q_drew)); exact HO474.out) hb); have n2_ := Aside0.mk (Kd.R_below (by (with_reducible repeat (first|apply Kd.R_alloc|apply Kd.R_drewN|apply Kd.R_drew)); exact HO476.out) hb); have n3_ := Aside0.mk (Kd.R_lower (Kd.R_mono (ok' := fun _ => True) ho0 (fun _ _ => trivial)) (below_size (by repeat (first|(with_reducible first|exact HB.out|apply below_alloc|apply pw_below_drewN|apply below_drew1)|exact HB.out)))); have n4_ := Aside0.mk (Kd.R_lower (Kd.R_mono (ok' := fun _ => True) ho1 (fun _ _ => trivial)) (below_size (by repeat (first|(with_reducible first|exact HB.out|apply below_alloc|apply pw_below_drewN|apply below_drew1)|exact HB.out)))); have n5_ := Aside0.mk (below_step (by repeat (first|(with_reducible first|exact HB.out|apply below_alloc|apply pw_below_drewN|apply below_drew1)|exact HB.out)) hb); clear HO472; clear HO474; clear HO476; clear HB; have HO472 := n0_; have HO474 := n1_; have HO476 := n2_; have HO481 := n3_; have HO483 := n4_; have HB := n5_; clear n0_ n1_ n2_ n3_ n4_ n5_; (try clear hb); (try clear hb2); (try clear hk); (try clear hi); (try clear ho0); (try clear ho1))|((with_reducible refine gate_callee (f := 39) rfl ?_); refine goesL_ (some 84) rfl rfl Try.func39 (by kernel_rfl) rfl #[.slice Ao18 t467.length co18, .slice Ao19 t468.length co19, .slice Ao20 t469.length co20, .int .i64 t470] rfl (by (try simp only [List.map_toArray, List.map_cons, List.map_nil]); first | done | rfl|(simp only [List.length_drop, List.length_take]; rfl)) ?_; (with_reducible refine (spec_CrashAt.calls k _ _ t467 _ _ t468 _ _ t469 t470 t484 t485 t486 _ ?side1 ?side2 ?side3 ?side4 ?side5 ?side6 A6.out).mono ?_);(case side1 => repeat (first|exact (Kd.Q_reads' HO472.out).2.2|(with_reducible refine Kd.C_alloc ?_ _)|(with_reducible refine Kd.C_drewN ?_ _)|(with_reducible refine Kd.C_drew ?_)));(case side2 => exact (Kd.Q_reads' HO472.out).2.1);(case side3 => repeat (first|exact (Kd.Q_reads' HO474.out).2.2|(with_reducible refine Kd.C_alloc ?_ _)|(with_reducible refine Kd.C_drewN ?_ _)|(with_reducible refine Kd.C_drew ?_)));(case side4 => exact (Kd.Q_reads' HO474.out).2.1);(case side5 => repeat (first|exact (Kd.R_reads' HO476.out).2.2|(with_reducible refine Kd.C_alloc ?_ _)|(with_reducible refine Kd.C_drewN ?_ _)|(with_reducible refine Kd.C_drew ?_)));(case side6 => exact (Kd.R_reads' HO476.out).2.1); rintro e w22 ⟨v487, v489, rfl, ho0, ho1, hb⟩; refine ⟨_, rfl, ?_⟩; have n0_ := Aside0.mk (Kd.Q_below (by (with_reducible repeat (first|apply Kd.Q_alloc|apply Kd.Q_drewN|apply Kd.Q_drew)); exact HO472.out) hb); have n1_ := Aside0.mk (Kd.Q_below (by (with_reducible repeat (first|apply Kd.Q_alloc|apply Kd.Q_drewN|apply Kd.Q_drew)); exact HO474.out) hb); have n2_ := Aside0.mk (Kd.R_below (by (with_reducible repeat (first|apply Kd.R_alloc|apply Kd.R_drewN|apply Kd.R_drew)); exact HO476.out) hb); have n3_ := Aside0.mk (Kd.R_below (by (with_reducible repeat (first|apply Kd.R_alloc|apply Kd.R_drewN|apply Kd.R_drew)); exact HO481.out) hb); have n4_ := Aside0.mk (Kd.R_below (by (with_reducible repeat (first|apply Kd.R_alloc|apply Kd.R_drewN|apply Kd.R_drew)); exact HO483.out) hb); have n5_ := Aside0.mk (Kd.R_lower (Kd.R_mono (ok' := fun _ => True) ho0 (fun _ _ => trivial)) (below_size (by repeat (first|(with_reducible first|exact HB.out|apply below_alloc|apply pw_below_drewN|apply below_drew1)|exact HB.out)))); have n6_ := Aside0.mk (Kd.R_lower (Kd.R_mono (ok' := fun _ => True) ho1 (fun _ _ => trivial)) (below_size (by repeat (first|(with_reducible first|exact HB.out|apply below_alloc|apply pw_below_drewN|apply below_drew1)|exact HB.out)))); have n7_ := Aside0.mk (below_step (by repeat (first|(with_reducible first|exact HB.out|apply below_alloc|apply pw_below_drewN|apply below_drew1)|exact HB.out)) hb); clear HO472; clear HO474; clear HO476; clear HO481; clear HO483; clear HB; have HO472 := n0_; have HO474 := n1_; have HO476 := n2_; have HO481 := n3_; have HO483 := n4_; have HO488 := n5_; have HO490 := n6_; have HB := n7_; clear n0_ n1_ n2_ n3_ n4_ n5_ n6_ n7_; (try clear hb); (try clear hb2); (try clear hk); (try clear hi); (try clear ho0); (try clear ho1))|((with_reducible refine gate_callee (f := 40) rfl ?_); refine goesL_ (some 90) rfl rfl Try.func40 (by kernel_rfl) rfl #[.slice A1 l1.length c1] rfl (by (try simp only [List.map_toArray, List.map_cons, List.map_nil]); first | done | rfl|(simp only [List.length_drop, List.length_take]; rfl)) ?_; (with_reducible refine (spec_DrawWriteState.calls k _ _ l1 t491 t492 t493 _ ?side1 ?side2 A7.out).mono ?_);(case side1 => repeat (first|exact (Kd.C_below HR1.out HB.out)|(with_reducible refine Kd.C_alloc ?_ _)|(with_reducible refine Kd.C_drewN ?_ _)|(with_reducible refine Kd.C_drew ?_)));(case side2 => exact HC1.out); rintro e w23 ⟨v494, v496, v498, rfl, ho0, ho1, ho2, hb⟩; refine ⟨_, rfl, ?_⟩; have n0_ := Aside0.mk (Kd.Q_below (by (with_reducible repeat (first|apply Kd.Q_alloc|apply Kd.Q_drewN|apply Kd.Q_drew)); exact HO472.out) hb); have n1_ := Aside0.mk (Kd.Q_below (by (with_reducible repeat (first|apply Kd.Q_alloc|apply Kd.Q_drewN|apply Kd.Q_drew)); exact HO474.out) hb); have n2_ := Aside0.mk (Kd.R_below (by (with_reducible repeat (first|apply Kd.R_alloc|apply Kd.R_drewN|apply Kd.R_drew)); exact HO476.out) hb); have n3_ := Aside0.mk (Kd.R_below (by (with_reducible repeat (first|apply Kd.R_alloc|apply Kd.R_drewN|apply Kd.R_drew)); exact HO481.out) hb); have n4_ := Aside0.mk (Kd.R_below (by (with_reducible repeat (first|apply Kd.R_alloc|apply Kd.R_drewN|apply Kd.R_drew)); exact HO483.out) hb); have n5_ := Aside0.mk (Kd.R_below (by (with_reducible repeat (first|apply Kd.R_alloc|apply Kd.R_drewN|apply Kd.R_drew)); exact HO488.out) hb); have n6_ := Aside0.mk (Kd.R_below (by (with_reducible repeat (first|apply Kd.R_alloc|apply Kd.R_drewN|apply Kd.R_drew)); exact HO490.out) hb); have n7_ := Aside0.mk (Kd.Q_lower (Kd.Q_mono (ok' := fun _ => True) ho0 (fun _ _ => trivial)) (below_size (by repeat (first|(with_reducible first|exact HB.out|apply below_alloc|apply pw_below_drewN|apply below_drew1)|exact HB.out)))); have n8_ := Aside0.mk (Kd.Q_lower (Kd.Q_mono (ok' := fun _ => True) ho1 (fun _ _ => trivial)) (below_size (by repeat (first|(with_reducible first|exact HB.out|apply below_alloc|apply pw_below_drewN|apply below_drew1)|exact HB.out)))); have n9_ := Aside0.mk (Kd.R_lower (Kd.R_mono (ok' := fun _ => True) ho2 (fun _ _ => trivial)) (below_size (by repeat (first|(with_reducible first|exact HB.out|apply below_alloc|apply pw_below_drewN|apply below_drew1)|exact HB.out)))); have n10_ := Aside0.mk (below_step (by repeat (first|(with_reducible first|exact HB.out|apply below_alloc|apply pw_below_drewN|apply below_drew1)|exact HB.out)) hb); clear HO472; clear HO474; clear HO476; clear HO481; clear HO483; clear HO488; clear HO490; clear HB; have HO472 := n0_; have HO474 := n1_; have HO476 := n2_; have HO481 := n3_; have HO483 := n4_; have HO488 := n5_; have HO490 := n6_; have HO495 := n7_; have HO497 := n8_; have HO499 := n9_; have HB := n10_; clear n0_ n1_ n2_ n3_ n4_ n5_ n6_ n7_ n8_ n9_ n10_; (try clear hb); (try clear hb2); (try clear hk); (try clear hi); (try clear ho0); (try clear ho1); (try clear ho2); obtain ⟨Ao24, co24, eo24, _⟩ := Kd.Q_slice HO495.out; subst eo24; obtain ⟨Ao25, co25, eo25, _⟩ := Kd.Q_slice HO497.out; subst eo25; obtain ⟨Ao26, co26, eo26⟩ := Kd.R_slice HO499.out; subst eo26)|((with_reducible refine gate_callee (f := 41) rfl ?_); refine goesL_ (some 98) rfl rfl Try.func41 (by kernel_rfl) rfl #[.slice Ao24 t491.length co24, .slice Ao25 t492.length co25, .slice Ao26 t493.length co26] rfl (by (try simp only [List.map_toArray, List.map_cons, List.map_nil]); first | done | rfl|(simp only [List.length_drop, List.length_take]; rfl)) ?_; (with_reducible refine (impl_WriteState.calls k _ _ t491 _ _ t492 _ _ t493 t500 t501 t502 _ ?side1 ?side2 ?side3 ?side4 ?side5 ?side6 A8.out).mono ?_);(case side1 => repeat (first|exact (Kd.Q_reads' HO495.out).2.2|(with_reducible refine Kd.C_alloc ?_ _)|(with_reducible refine Kd.C_drewN ?_ _)|(with_reducible refine Kd.C_drew ?_)));(case side2 => exact (Kd.Q_reads' HO495.out).2.1);(case side3 => repeat (first|exact (Kd.Q_reads' HO497.out).2.2|(with_reducible refine Kd.C_alloc ?_ _)|(with_reducible refine Kd.C_drewN ?_ _)|(with_reducible refine Kd.C_drew ?_)));(case side4 => exact (Kd.Q_reads' HO497.out).2.1);(case side5 => repeat (first|exact (Kd.R_reads' HO499.out).2.2|(with_reducible refine Kd.C_alloc ?_ _)|(with_reducible refine Kd.C_drewN ?_ _)|(with_reducible refine Kd.C_drew ?_)));(case side6 => exact (Kd.R_reads' HO499.out).2.1); rintro e w27 ⟨v503, v505, rfl, ho0, ho1, hb⟩; refine ⟨_, rfl, ?_⟩; have n0_ := Aside0.mk (Kd.Q_below (by (with_reducible repeat (first|apply Kd.Q_alloc|apply Kd.Q_drewN|apply Kd.Q_drew)); exact HO472.out) hb); have n1_ := Aside0.mk (Kd.Q_below (by (with_reducible repeat (first|apply Kd.Q_alloc|apply Kd.Q_drewN|apply Kd.Q_drew)); exact HO474.out) hb); have n2_ := Aside0.mk (Kd.R_below (by (with_reducible repeat (first|apply Kd.R_alloc|apply Kd.R_drewN|apply Kd.R_drew)); exact HO476.out) hb); have n3_ := Aside0.mk (Kd.R_below (by (with_reducible repeat (first|apply Kd.R_alloc|apply Kd.R_drewN|apply Kd.R_drew)); exact HO481.out) hb); have n4_ := Aside0.mk (Kd.R_below (by (with_reducible repeat (first|apply Kd.R_alloc|apply Kd.R_drewN|apply Kd.R_drew)); exact HO483.out) hb); have n5_ := Aside0.mk (Kd.R_below (by (with_reducible repeat (first|apply Kd.R_alloc|apply Kd.R_drewN|apply Kd.R_drew)); exact HO488.out) hb); have n6_ := Aside0.mk (Kd.R_below (by (with_reducible repeat (first|apply Kd.R_alloc|apply Kd.R_drewN|apply Kd.R_drew)); exact HO490.out) hb); have n7_ := Aside0.mk (Kd.Q_below (by (with_reducible repeat (first|apply Kd.Q_alloc|apply Kd.Q_drewN|apply Kd.Q_drew)); exact HO495.out) hb); have n8_ := Aside0.mk (Kd.Q_below (by (with_reducible repeat (first|apply Kd.Q_alloc|apply Kd.Q_drewN|apply Kd.Q_drew)); exact HO497.out) hb); have n9_ := Aside0.mk (Kd.R_below (by (with_reducible repeat (first|apply Kd.R_alloc|apply Kd.R_drewN|apply Kd.R_drew)); exact HO499.out) hb); have n10_ := Aside0.mk (Kd.R_lower (Kd.R_mono (ok' := fun _ => True) ho0 (fun _ _ => trivial)) (below_size (by repeat (first|(with_reducible first|exact HB.out|apply below_alloc|apply pw_below_drewN|apply below_drew1)|exact HB.out)))); have n11_ := Aside0.mk (Kd.R_lower (Kd.R_mono (ok' := fun _ => True) ho1 (fun _ _ => trivial)) (below_size (by repeat (first|(with_reducible first|exact HB.out|apply below_alloc|apply pw_below_drewN|apply below_drew1)|exact HB.out)))); have n12_ := Aside0.mk (below_step (by repeat (first|(with_reducible first|exact HB.out|apply below_alloc|apply pw_below_drewN|apply below_drew1)|exact HB.out)) hb); clear HO472; clear HO474; clear HO476; clear HO481; clear HO483; clear HO488; clear HO490; clear HO495; clear HO497; clear HO499; clear HB; have HO472 := n0_; have HO474 := n1_; have HO476 := n2_; have HO481 := n3_; have HO483 := n4_; have HO488 := n5_; have HO490 := n6_; have HO495 := n7_; have HO497 := n8_; have HO499 := n9_; have HO504 := n10_; have HO506 := n11_; have HB := n12_; clear n0_ n1_ n2_ n3_ n4_ n5_ n6_ n7_ n8_ n9_ n10_ n11_ n12_; (try clear hb); (try clear hb2); (try clear hk); (try clear hi); (try clear ho0); (try clear ho1))|((with_reducible refine gate_callee (f := 42) rfl ?_); refine goesL_ (some 106) rfl rfl Try.func42 (by kernel_rfl) rfl #[.slice Ao24 t491.length co24, .slice Ao25 t492.length co25, .slice Ao26 t493.length co26] rfl (by (try simp only [List.map_toArray, List.map_cons, List.map_nil]); first | done | rfl|(simp only [List.length_drop, List.length_take]; rfl)) ?_; (with_reducible refine (spec_WriteState.calls k _ _ t491 _ _ t492 _ _ t493 t507 t508 t509 _ ?side1 ?side2 ?side3 ?side4 ?side5 ?side6 A9.out).mono ?_);(case side1 => repeat (first|exact (Kd.Q_reads' HO495.out).2.2|(with_reducible refine Kd.C_alloc ?_ _)|(with_reducible refine Kd.C_drewN ?_ _)|(with_reducible refine Kd.C_drew ?_)));(case side2 => exact (Kd.Q_reads' HO495.out).2.1);(case side3 => repeat (first|exact (Kd.Q_reads' HO497.out).2.2|(with_reducible refine Kd.C_alloc ?_ _)|(with_reducible refine Kd.C_drewN ?_ _)|(with_reducible refine Kd.C_drew ?_)));(case side4 => exact (Kd.Q_reads' HO497.out).2.1);(case side5 => repeat (first|exact (Kd.R_reads' HO499.out).2.2|(with_reducible refine Kd.C_alloc ?_ _)|(with_reducible refine Kd.C_drewN ?_ _)|(with_reducible refine Kd.C_drew ?_)));(case side6 => exact (Kd.R_reads' HO499.out).2.1); rintro e w28 ⟨v510, v512, rfl, ho0, ho1, hb⟩; refine ⟨_, rfl, ?_⟩; have n0_ := Aside0.mk (Kd.Q_below (by (with_reducible repeat (first|apply Kd.Q_alloc|apply Kd.Q_drewN|apply Kd.Q_drew)); exact HO472.out) hb); have n1_ := Aside0.mk (Kd.Q_below (by (with_reducible repeat (first|apply Kd.Q_alloc|apply Kd.Q_drewN|apply Kd.Q_drew)); exact HO474.out) hb); have n2_ := Aside0.mk (Kd.R_below (by (with_reducible repeat (first|apply Kd.R_alloc|apply Kd.R_drewN|apply Kd.R_drew)); exact HO476.out) hb); have n3_ := Aside0.mk (Kd.R_below (by (with_reducible repeat (first|apply Kd.R_alloc|apply Kd.R_drewN|apply Kd.R_drew)); exact HO481.out) hb); have n4_ := Aside0.mk (Kd.R_below (by (with_reducible repeat (first|apply Kd.R_alloc|apply Kd.R_drewN|apply Kd.R_drew)); exact HO483.out) hb); have n5_ := Aside0.mk (Kd.R_below (by (with_reducible repeat (first|apply Kd.R_alloc|apply Kd.R_drewN|apply Kd.R_drew)); exact HO488.out) hb); have n6_ := Aside0.mk (Kd.R_below (by (with_reducible repeat (first|apply Kd.R_alloc|apply Kd.R_drewN|apply Kd.R_drew)); exact HO490.out) hb); have n7_ := Aside0.mk (Kd.Q_below (by (with_reducible repeat (first|apply Kd.Q_alloc|apply Kd.Q_drewN|apply Kd.Q_drew)); exact HO495.out) hb); have n8_ := Aside0.mk (Kd.Q_below (by (with_reducible repeat (first|apply Kd.Q_alloc|apply Kd.Q_drewN|apply Kd.Q_drew)); exact HO497.out) hb); have n9_ := Aside0.mk (Kd.R_below (by (with_reducible repeat (first|apply Kd.R_alloc|apply Kd.R_drewN|apply Kd.R_drew)); exact HO499.out) hb); have n10_ := Aside0.mk (Kd.R_below (by (with_reducible repeat (first|apply Kd.R_alloc|apply Kd.R_drewN|apply Kd.R_drew)); exact HO504.out) hb); have n11_ := Aside0.mk (Kd.R_below (by (with_reducible repeat (first|apply Kd.R_alloc|apply Kd.R_drewN|apply Kd.R_drew)); exact HO506.out) hb); have n12_ := Aside0.mk (Kd.R_lower (Kd.R_mono (ok' := fun _ => True) ho0 (fun _ _ => trivial)) (below_size (by repeat (first|(with_reducible first|exact HB.out|apply below_alloc|apply pw_below_drewN|apply below_drew1)|exact HB.out)))); have n13_ := Aside0.mk (Kd.R_lower (Kd.R_mono (ok' := fun _ => True) ho1 (fun _ _ => trivial)) (below_size (by repeat (first|(with_reducible first|exact HB.out|apply below_alloc|apply pw_below_drewN|apply below_drew1)|exact HB.out)))); have n14_ := Aside0.mk (below_step (by repeat (first|(with_reducible first|exact HB.out|apply below_alloc|apply pw_below_drewN|apply below_drew1)|exact HB.out)) hb); clear HO472; clear HO474; clear HO476; clear HO481; clear HO483; clear HO488; clear HO490; clear HO495; clear HO497; clear HO499; clear HO504; clear HO506; clear HB; have HO472 := n0_; have HO474 := n1_; have HO476 := n2_; have HO481 := n3_; have HO483 := n4_; have HO488 := n5_; have HO490 := n6_; have HO495 := n7_; have HO497 := n8_; have HO499 := n9_; have HO504 := n10_; have HO506 := n11_; have HO511 := n12_; have HO513 := n13_; have HB := n14_; clear n0_ n1_ n2_ n3_ n4_ n5_ n6_ n7_ n8_ n9_ n10_ n11_ n12_ n13_ n14_; (try clear hb); (try clear hb2); (try clear hk); (try clear hi); (try clear ho0); (try clear ho1))|((with_reducible refine gate_callee (f := 43) rfl ?_); refine goesL_ (some 113) rfl rfl Try.func43 (by kernel_rfl) rfl #[.slice Ao24 t491.length co24, .slice Ao25 t492.length co25] rfl (by (try simp only [List.map_toArray, List.map_cons, List.map_nil]); first | done | rfl|(simp only [List.length_drop, List.length_take]; rfl)) ?_; (with_reducible refine (impl_NewestArea.calls k _ _ t491 _ _ t492 t514 t515 _ ?side1 ?side2 ?side3 ?side4 A10.out).mono ?_);(case side1 => repeat (first|exact (Kd.Q_reads' HO495.out).2.2|(with_reducible refine Kd.C_alloc ?_ _)|(with_reducible refine Kd.C_drewN ?_ _)|(with_reducible refine Kd.C_drew ?_)));(case side2 => exact (Kd.Q_reads' HO495.out).2.1);(case side3 => repeat (first|exact (Kd.Q_reads' HO497.out).2.2|(with_reducible refine Kd.C_alloc ?_ _)|(with_reducible refine Kd.C_drewN ?_ _)|(with_reducible refine Kd.C_drew ?_)));(case side4 => exact (Kd.Q_reads' HO497.out).2.1); rintro e w29 ⟨rfl, hb⟩; refine ⟨_, rfl, ?_⟩; have n0_ := Aside0.mk (Kd.Q_below (by (with_reducible repeat (first|apply Kd.Q_alloc|apply Kd.Q_drewN|apply Kd.Q_drew)); exact HO472.out) hb); have n1_ := Aside0.mk (Kd.Q_below (by (with_reducible repeat (first|apply Kd.Q_alloc|apply Kd.Q_drewN|apply Kd.Q_drew)); exact HO474.out) hb); have n2_ := Aside0.mk (Kd.R_below (by (with_reducible repeat (first|apply Kd.R_alloc|apply Kd.R_drewN|apply Kd.R_drew)); exact HO476.out) hb); have n3_ := Aside0.mk (Kd.R_below (by (with_reducible repeat (first|apply Kd.R_alloc|apply Kd.R_drewN|apply Kd.R_drew)); exact HO481.out) hb); have n4_ := Aside0.mk (Kd.R_below (by (with_reducible repeat (first|apply Kd.R_alloc|apply Kd.R_drewN|apply Kd.R_drew)); exact HO483.out) hb); have n5_ := Aside0.mk (Kd.R_below (by (with_reducible repeat (first|apply Kd.R_alloc|apply Kd.R_drewN|apply Kd.R_drew)); exact HO488.out) hb); have n6_ := Aside0.mk (Kd.R_below (by (with_reducible repeat (first|apply Kd.R_alloc|apply Kd.R_drewN|apply Kd.R_drew)); exact HO490.out) hb); have n7_ := Aside0.mk (Kd.Q_below (by (with_reducible repeat (first|apply Kd.Q_alloc|apply Kd.Q_drewN|apply Kd.Q_drew)); exact HO495.out) hb); have n8_ := Aside0.mk (Kd.Q_below (by (with_reducible repeat (first|apply Kd.Q_alloc|apply Kd.Q_drewN|apply Kd.Q_drew)); exact HO497.out) hb); have n9_ := Aside0.mk (Kd.R_below (by (with_reducible repeat (first|apply Kd.R_alloc|apply Kd.R_drewN|apply Kd.R_drew)); exact HO499.out) hb); have n10_ := Aside0.mk (Kd.R_below (by (with_reducible repeat (first|apply Kd.R_alloc|apply Kd.R_drewN|apply Kd.R_drew)); exact HO504.out) hb); have n11_ := Aside0.mk (Kd.R_below (by (with_reducible repeat (first|apply Kd.R_alloc|apply Kd.R_drewN|apply Kd.R_drew)); exact HO506.out) hb); have n12_ := Aside0.mk (Kd.R_below (by (with_reducible repeat (first|apply Kd.R_alloc|apply Kd.R_drewN|apply Kd.R_drew)); exact HO511.out) hb); have n13_ := Aside0.mk (Kd.R_below (by (with_reducible repeat (first|apply Kd.R_alloc|apply Kd.R_drewN|apply Kd.R_drew)); exact HO513.out) hb); have n14_ := Aside0.mk (below_step (by repeat (first|(with_reducible first|exact HB.out|apply below_alloc|apply pw_below_drewN|apply below_drew1)|exact HB.out)) hb); clear HO472; clear HO474; clear HO476; clear HO481; clear HO483; clear HO488; clear HO490; clear HO495; clear HO497; clear HO499; clear HO504; clear HO506; clear HO511; clear HO513; clear HB; have HO472 := n0_; have HO474 := n1_; have HO476 := n2_; have HO481 := n3_; have HO483 := n4_; have HO488 := n5_; have HO490 := n6_; have HO495 := n7_; have HO497 := n8_; have HO499 := n9_; have HO504 := n10_; have HO506 := n11_; have HO511 := n12_; have HO513 := n13_; have HB := n14_; clear n0_ n1_ n2_ n3_ n4_ n5_ n6_ n7_ n8_ n9_ n10_ n11_ n12_ n13_ n14_; (try clear hb); (try clear hb2); (try clear hk); (try clear hi))|((with_reducible refine gate_callee (f := 44) rfl ?_); refine goesL_ (some 119) rfl rfl Try.func44 (by kernel_rfl) rfl #[.slice Ao24 t491.length co24, .slice Ao25 t492.length co25] rfl (by (try simp only [List.map_toArray, List.map_cons, List.map_nil]); first | done | rfl|(simp only [List.length_drop, List.length_take]; rfl)) ?_; (with_reducible refine (spec_NewestArea.calls k _ _ t491 _ _ t492 t516 t517 _ ?side1 ?side2 ?side3 ?side4 A11.out).mono ?_);(case side1 => repeat (first|exact (Kd.Q_reads' HO495.out).2.2|(with_reducible refine Kd.C_alloc ?_ _)|(with_reducible refine Kd.C_drewN ?_ _)|(with_reducible refine Kd.C_drew ?_)));(case side2 => exact (Kd.Q_reads' HO495.out).2.1);(case side3 => repeat (first|exact (Kd.Q_reads' HO497.out).2.2|(with_reducible refine Kd.C_alloc ?_ _)|(with_reducible refine Kd.C_drewN ?_ _)|(with_reducible refine Kd.C_drew ?_)));(case side4 => exact (Kd.Q_reads' HO497.out).2.1); rintro e w30 ⟨rfl, hb⟩; refine ⟨_, rfl, ?_⟩; have n0_ := Aside0.mk (Kd.Q_below (by (with_reducible repeat (first|apply Kd.Q_alloc|apply Kd.Q_drewN|apply Kd.Q_drew)); exact HO472.out) hb); have n1_ := Aside0.mk (Kd.Q_below (by (with_reducible repeat (first|apply Kd.Q_alloc|apply Kd.Q_drewN|apply Kd.Q_drew)); exact HO474.out) hb); have n2_ := Aside0.mk (Kd.R_below (by (with_reducible repeat (first|apply Kd.R_alloc|apply Kd.R_drewN|apply Kd.R_drew)); exact HO476.out) hb); have n3_ := Aside0.mk (Kd.R_below (by (with_reducible repeat (first|apply Kd.R_alloc|apply Kd.R_drewN|apply Kd.R_drew)); exact HO481.out) hb); have n4_ := Aside0.mk (Kd.R_below (by (with_reducible repeat (first|apply Kd.R_alloc|apply Kd.R_drewN|apply Kd.R_drew)); exact HO483.out) hb); have n5_ := Aside0.mk (Kd.R_below (by (with_reducible repeat (first|apply Kd.R_alloc|apply Kd.R_drewN|apply Kd.R_drew)); exact HO488.out) hb); have n6_ := Aside0.mk (Kd.R_below (by (with_reducible repeat (first|apply Kd.R_alloc|apply Kd.R_drewN|apply Kd.R_drew)); exact HO490.out) hb); have n7_ := Aside0.mk (Kd.Q_below (by (with_reducible repeat (first|apply Kd.Q_alloc|apply Kd.Q_drewN|apply Kd.Q_drew)); exact HO495.out) hb); have n8_ := Aside0.mk (Kd.Q_below (by (with_reducible repeat (first|apply Kd.Q_alloc|apply Kd.Q_drewN|apply Kd.Q_drew)); exact HO497.out) hb); have n9_ := Aside0.mk (Kd.R_below (by (with_reducible repeat (first|apply Kd.R_alloc|apply Kd.R_drewN|apply Kd.R_drew)); exact HO499.out) hb); have n10_ := Aside0.mk (Kd.R_below (by (with_reducible repeat (first|apply Kd.R_alloc|apply Kd.R_drewN|apply Kd.R_drew)); exact HO504.out) hb); have n11_ := Aside0.mk (Kd.R_below (by (with_reducible repeat (first|apply Kd.R_alloc|apply Kd.R_drewN|apply Kd.R_drew)); exact HO506.out) hb); have n12_ := Aside0.mk (Kd.R_below (by (with_reducible repeat (first|apply Kd.R_alloc|apply Kd.R_drewN|apply Kd.R_drew)); exact HO511.out) hb); have n13_ := Aside0.mk (Kd.R_below (by (with_reducible repeat (first|apply Kd.R_alloc|apply Kd.R_drewN|apply Kd.R_drew)); exact HO513.out) hb); have n14_ := Aside0.mk (below_step (by repeat (first|(with_reducible first|exact HB.out|apply below_alloc|apply pw_below_drewN|apply below_drew1)|exact HB.out)) hb); clear HO472; clear HO474; clear HO476; clear HO481; clear HO483; clear HO488; clear HO490; clear HO495; clear HO497; clear HO499; clear HO504; clear HO506; clear HO511; clear HO513; clear HB; have HO472 := n0_; have HO474 := n1_; have HO476 := n2_; have HO481 := n3_; have HO483 := n4_; have HO488 := n5_; have HO490 := n6_; have HO495 := n7_; have HO497 := n8_; have HO499 := n9_; have HO504 := n10_; have HO506 := n11_; have HO511 := n12_; have HO513 := n13_; have HB := n14_; clear n0_ n1_ n2_ n3_ n4_ n5_ n6_ n7_ n8_ n9_ n10_ n11_ n12_ n13_ n14_; (try clear hb); (try clear hb2); (try clear hk); (try clear hi))|((with_reducible refine gate_callee (f := 45) rfl ?_); refine goesL_ (some 125) rfl rfl Try.func45 (by kernel_rfl) rfl #[.slice Ao24 t491.length co24, .slice Ao25 t492.length co25] rfl (by (try simp only [List.map_toArray, List.map_cons, List.map_nil]); first | done | rfl|(simp only [List.length_drop, List.length_take]; rfl)) ?_; (with_reducible refine (impl_StatesLeft.calls k _ _ t491 _ _ t492 t518 t519 _ ?side1 ?side2 ?side3 ?side4 A12.out).mono ?_);(case side1 => repeat (first|exact (Kd.Q_reads' HO495.out).2.2|(with_reducible refine Kd.C_alloc ?_ _)|(with_reducible refine Kd.C_drewN ?_ _)|(with_reducible refine Kd.C_drew ?_)));(case side2 => exact (Kd.Q_reads' HO495.out).2.1);(case side3 => repeat (first|exact (Kd.Q_reads' HO497.out).2.2|(with_reducible refine Kd.C_alloc ?_ _)|(with_reducible refine Kd.C_drewN ?_ _)|(with_reducible refine Kd.C_drew ?_)));(case side4 => exact (Kd.Q_reads' HO497.out).2.1); rintro e w31 ⟨rfl, hb⟩; refine ⟨_, rfl, ?_⟩; have n0_ := Aside0.mk (Kd.Q_below (by (with_reducible repeat (first|apply Kd.Q_alloc|apply Kd.Q_drewN|apply Kd.Q_drew)); exact HO472.out) hb); have n1_ := Aside0.mk (Kd.Q_below (by (with_reducible repeat (first|apply Kd.Q_alloc|apply Kd.Q_drewN|apply Kd.Q_drew)); exact HO474.out) hb); have n2_ := Aside0.mk (Kd.R_below (by (with_reducible repeat (first|apply Kd.R_alloc|apply Kd.R_drewN|apply Kd.R_drew)); exact HO476.out) hb); have n3_ := Aside0.mk (Kd.R_below (by (with_reducible repeat (first|apply Kd.R_alloc|apply Kd.R_drewN|apply Kd.R_drew)); exact HO481.out) hb); have n4_ := Aside0.mk (Kd.R_below (by (with_reducible repeat (first|apply Kd.R_alloc|apply Kd.R_drewN|apply Kd.R_drew)); exact HO483.out) hb); have n5_ := Aside0.mk (Kd.R_below (by (with_reducible repeat (first|apply Kd.R_alloc|apply Kd.R_drewN|apply Kd.R_drew)); exact HO488.out) hb); have n6_ := Aside0.mk (Kd.R_below (by (with_reducible repeat (first|apply Kd.R_alloc|apply Kd.R_drewN|apply Kd.R_drew)); exact HO490.out) hb); have n7_ := Aside0.mk (Kd.Q_below (by (with_reducible repeat (first|apply Kd.Q_alloc|apply Kd.Q_drewN|apply Kd.Q_drew)); exact HO495.out) hb); have n8_ := Aside0.mk (Kd.Q_below (by (with_reducible repeat (first|apply Kd.Q_alloc|apply Kd.Q_drewN|apply Kd.Q_drew)); exact HO497.out) hb); have n9_ := Aside0.mk (Kd.R_below (by (with_reducible repeat (first|apply Kd.R_alloc|apply Kd.R_drewN|apply Kd.R_drew)); exact HO499.out) hb); have n10_ := Aside0.mk (Kd.R_below (by (with_reducible repeat (first|apply Kd.R_alloc|apply Kd.R_drewN|apply Kd.R_drew)); exact HO504.out) hb); have n11_ := Aside0.mk (Kd.R_below (by (with_reducible repeat (first|apply Kd.R_alloc|apply Kd.R_drewN|apply Kd.R_drew)); exact HO506.out) hb); have n12_ := Aside0.mk (Kd.R_below (by (with_reducible repeat (first|apply Kd.R_alloc|apply Kd.R_drewN|apply Kd.R_drew)); exact HO511.out) hb); have n13_ := Aside0.mk (Kd.R_below (by (with_reducible repeat (first|apply Kd.R_alloc|apply Kd.R_drewN|apply Kd.R_drew)); exact HO513.out) hb); have n14_ := Aside0.mk (below_step (by repeat (first|(with_reducible first|exact HB.out|apply below_alloc|apply pw_below_drewN|apply below_drew1)|exact HB.out)) hb); clear HO472; clear HO474; clear HO476; clear HO481; clear HO483; clear HO488; clear HO490; clear HO495; clear HO497; clear HO499; clear HO504; clear HO506; clear HO511; clear HO513; clear HB; have HO472 := n0_; have HO474 := n1_; have HO476 := n2_; have HO481 := n3_; have HO483 := n4_; have HO488 := n5_; have HO490 := n6_; have HO495 := n7_; have HO497 := n8_; have HO499 := n9_; have HO504 := n10_; have HO506 := n11_; have HO511 := n12_; have HO513 := n13_; have HB := n14_; clear n0_ n1_ n2_ n3_ n4_ n5_ n6_ n7_ n8_ n9_ n10_ n11_ n12_ n13_ n14_; (try clear hb); (try clear hb2); (try clear hk); (try clear hi))|((with_reducible refine gate_callee (f := 46) rfl ?_); refine goesL_ (some 131) rfl rfl Try.func46 (by kernel_rfl) rfl #[.slice Ao24 t491.length co24, .slice Ao25 t492.length co25] rfl (by (try simp only [List.map_toArray, List.map_cons, List.map_nil]); first | done | rfl|(simp only [List.length_drop, List.length_take]; rfl)) ?_; (with_reducible refine (spec_StatesLeft.calls k _ _ t491 _ _ t492 t520 t521 _ ?side1 ?side2 ?side3 ?side4 A13.out).mono ?_);(case side1 => repeat (first|exact (Kd.Q_reads' HO495.out).2.2|(with_reducible refine Kd.C_alloc ?_ _)|(with_reducible refine Kd.C_drewN ?_ _)|(with_reducible refine Kd.C_drew ?_)));(case side2 => exact (Kd.Q_reads' HO495.out).2.1);(case side3 => repeat (first|exact (Kd.Q_reads' HO497.out).2.2|(with_reducible refine Kd.C_alloc ?_ _)|(with_reducible refine Kd.C_drewN ?_ _)|(with_reducible refine Kd.C_drew ?_)));(case side4 => exact (Kd.Q_reads' HO497.out).2.1); rintro e w32 ⟨rfl, hb⟩; refine ⟨_, rfl, ?_⟩; have n0_ := Aside0.mk (Kd.Q_below (by (with_reducible repeat (first|apply Kd.Q_alloc|apply Kd.Q_drewN|apply Kd.Q_drew)); exact HO472.out) hb); have n1_ := Aside0.mk (Kd.Q_below (by (with_reducible repeat (first|apply Kd.Q_alloc|apply Kd.Q_drewN|apply Kd.Q_drew)); exact HO474.out) hb); have n2_ := Aside0.mk (Kd.R_below (by (with_reducible repeat (first|apply Kd.R_alloc|apply Kd.R_drewN|apply Kd.R_drew)); exact HO476.out) hb); have n3_ := Aside0.mk (Kd.R_below (by (with_reducible repeat (first|apply Kd.R_alloc|apply Kd.R_drewN|apply Kd.R_drew)); exact HO481.out) hb); have n4_ := Aside0.mk (Kd.R_below (by (with_reducible repeat (first|apply Kd.R_alloc|apply Kd.R_drewN|apply Kd.R_drew)); exact HO483.out) hb); have n5_ := Aside0.mk (Kd.R_below (by (with_reducible repeat (first|apply Kd.R_alloc|apply Kd.R_drewN|apply Kd.R_drew)); exact HO488.out) hb); have n6_ := Aside0.mk (Kd.R_below (by (with_reducible repeat (first|apply Kd.R_alloc|apply Kd.R_drewN|apply Kd.R_drew)); exact HO490.out) hb); have n7_ := Aside0.mk (Kd.Q_below (by (with_reducible repeat (first|apply Kd.Q_alloc|apply Kd.Q_drewN|apply Kd.Q_drew)); exact HO495.out) hb); have n8_ := Aside0.mk (Kd.Q_below (by (with_reducible repeat (first|apply Kd.Q_alloc|apply Kd.Q_drewN|apply Kd.Q_drew)); exact HO497.out) hb); have n9_ := Aside0.mk (Kd.R_below (by (with_reducible repeat (first|apply Kd.R_alloc|apply Kd.R_drewN|apply Kd.R_drew)); exact HO499.out) hb); have n10_ := Aside0.mk (Kd.R_below (by (with_reducible repeat (first|apply Kd.R_alloc|apply Kd.R_drewN|apply Kd.R_drew)); exact HO504.out) hb); have n11_ := Aside0.mk (Kd.R_below (by (with_reducible repeat (first|apply Kd.R_alloc|apply Kd.R_drewN|apply Kd.R_drew)); exact HO506.out) hb); have n12_ := Aside0.mk (Kd.R_below (by (with_reducible repeat (first|apply Kd.R_alloc|apply Kd.R_drewN|apply Kd.R_drew)); exact HO511.out) hb); have n13_ := Aside0.mk (Kd.R_below (by (with_reducible repeat (first|apply Kd.R_alloc|apply Kd.R_drewN|apply Kd.R_drew)); exact HO513.out) hb); have n14_ := Aside0.mk (below_step (by repeat (first|(with_reducible first|exact HB.out|apply below_alloc|apply pw_below_drewN|apply below_drew1)|exact HB.out)) hb); clear HO472; clear HO474; clear HO476; clear HO481; clear HO483; clear HO488; clear HO490; clear HO495; clear HO497; clear HO499; clear HO504; clear HO506; clear HO511; clear HO513; clear HB; have HO472 := n0_; have HO474 := n1_; have HO476 := n2_; have HO481 := n3_; have HO483 := n4_; have HO488 := n5_; have HO490 := n6_; have HO495 := n7_; have HO497 := n8_; have HO499 := n9_; have HO504 := n10_; have HO506 := n11_; have HO511 := n12_; have HO513 := n13_; have HB := n14_; clear n0_ n1_ n2_ n3_ n4_ n5_ n6_ n7_ n8_ n9_ n10_ n11_ n12_ n13_ n14_; (try clear hb); (try clear hb2); (try clear hk); (try clear hi))|((with_reducible refine gate_callee (f := 34) rfl ?_); refine goesL_ (some 137) rfl rfl Try.func34 (by kernel_rfl) rfl #[.slice Ao24 t491.length co24, .slice Ao25 t492.length co25] rfl (by (try simp only [List.map_toArray, List.map_cons, List.map_nil]); first | done | rfl|(simp only [List.length_drop, List.length_take]; rfl)) ?_; (with_reducible refine (impl_RecoverState.calls k _ _ t491 _ _ t492 t522 t523 t524 _ ?side1 ?side2 ?side3 ?side4 A14.out).mono ?_);(case side1 => repeat (first|exact (Kd.Q_reads' HO495.out).2.2|(with_reducible refine Kd.C_alloc ?_ _)|(with_reducible refine Kd.C_drewN ?_ _)|(with_reducible refine Kd.C_drew ?_)));(case side2 => exact (Kd.Q_reads' HO495.out).2.1);(case side3 => repeat (first|exact (Kd.Q_reads' HO497.out).2.2|(with_reducible refine Kd.C_alloc ?_ _)|(with_reducible refine Kd.C_drewN ?_ _)|(with_reducible refine Kd.C_drew ?_)));(case side4 => exact (Kd.Q_reads' HO497.out).2.1); rintro e w33 ⟨v525, rfl, ho0, hb⟩; refine ⟨_, rfl, ?_⟩; have n0_ := Aside0.mk (Kd.Q_below (by (with_reducible repeat (first|apply Kd.Q_alloc|apply Kd.Q_drewN|apply Kd.Q_drew)); exact HO472.out) hb); have n1_ := Aside0.mk (Kd.Q_below (by (with_reducible repeat (first|apply Kd.Q_alloc|apply Kd.Q_drewN|apply Kd.Q_drew)); exact HO474.out) hb); have n2_ := Aside0.mk (Kd.R_below (by (with_reducible repeat (first|apply Kd.R_alloc|apply Kd.R_drewN|apply Kd.R_drew)); exact HO476.out) hb); have n3_ := Aside0.mk (Kd.R_below (by (with_reducible repeat (first|apply Kd.R_alloc|apply Kd.R_drewN|apply Kd.R_drew)); exact HO481.out) hb); have n4_ := Aside0.mk (Kd.R_below (by (with_reducible repeat (first|apply Kd.R_alloc|apply Kd.R_drewN|apply Kd.R_drew)); exact HO483.out) hb); have n5_ := Aside0.mk (Kd.R_below (by (with_reducible repeat (first|apply Kd.R_alloc|apply Kd.R_drewN|apply Kd.R_drew)); exact HO488.out) hb); have n6_ := Aside0.mk (Kd.R_below (by (with_reducible repeat (first|apply Kd.R_alloc|apply Kd.R_drewN|apply Kd.R_drew)); exact HO490.out) hb); have n7_ := Aside0.mk (Kd.Q_below (by (with_reducible repeat (first|apply Kd.Q_alloc|apply Kd.Q_drewN|apply Kd.Q_drew)); exact HO495.out) hb); have n8_ := Aside0.mk (Kd.Q_below (by (with_reducible repeat (first|apply Kd.Q_alloc|apply Kd.Q_drewN|apply Kd.Q_drew)); exact HO497.out) hb); have n9_ := Aside0.mk (Kd.R_below (by (with_reducible repeat (first|apply Kd.R_alloc|apply Kd.R_drewN|apply Kd.R_drew)); exact HO499.out) hb); have n10_ := Aside0.mk (Kd.R_below (by (with_reducible repeat (first|apply Kd.R_alloc|apply Kd.R_drewN|apply Kd.R_drew)); exact HO504.out) hb); have n11_ := Aside0.mk (Kd.R_below (by (with_reducible repeat (first|apply Kd.R_alloc|apply Kd.R_drewN|apply Kd.R_drew)); exact HO506.out) hb); have n12_ := Aside0.mk (Kd.R_below (by (with_reducible repeat (first|apply Kd.R_alloc|apply Kd.R_drewN|apply Kd.R_drew)); exact HO511.out) hb); have n13_ := Aside0.mk (Kd.R_below (by (with_reducible repeat (first|apply Kd.R_alloc|apply Kd.R_drewN|apply Kd.R_drew)); exact HO513.out) hb); have n14_ := Aside0.mk (Kd.R_lower ho0 (below_size (by repeat (first|(with_reducible first|exact HB.out|apply below_alloc|apply pw_below_drewN|apply below_drew1)|exact HB.out)))); have n15_ := Aside0.mk (below_step (by repeat (first|(with_reducible first|exact HB.out|apply below_alloc|apply pw_below_drewN|apply below_drew1)|exact HB.out)) hb); clear HO472; clear HO474; clear HO476; clear HO481; clear HO483; clear HO488; clear HO490; clear HO495; clear HO497; clear HO499; clear HO504; clear HO506; clear HO511; clear HO513; clear HB; have HO472 := n0_; have HO474 := n1_; have HO476 := n2_; have HO481 := n3_; have HO483 := n4_; have HO488 := n5_; have HO490 := n6_; have HO495 := n7_; have HO497 := n8_; have HO499 := n9_; have HO504 := n10_; have HO506 := n11_; have HO511 := n12_; have HO513 := n13_; have HO526 := n14_; have HB := n15_; clear n0_ n1_ n2_ n3_ n4_ n5_ n6_ n7_ n8_ n9_ n10_ n11_ n12_ n13_ n14_ n15_; (try clear hb); (try clear hb2); (try clear hk); (try clear hi); (try clear ho0))|((with_reducible refine gate_callee (f := 35) rfl ?_); refine goesL_ (some 144) rfl rfl Try.func35 (by kernel_rfl) rfl #[.slice Ao24 t491.length co24, .slice Ao25 t492.length co25] rfl (by (try simp only [List.map_toArray, List.map_cons, List.map_nil]); first | done | rfl|(simp only [List.length_drop, List.length_take]; rfl)) ?_; (with_reducible refine (spec_RecoverState.calls k _ _ t491 _ _ t492 t527 t528 t529 _ ?side1 ?side2 ?side3 ?side4 A15.out).mono ?_);(case side1 => repeat (first|exact (Kd.Q_reads' HO495.out).2.2|(with_reducible refine Kd.C_alloc ?_ _)|(with_reducible refine Kd.C_drewN ?_ _)|(with_reducible refine Kd.C_drew ?_)));(case side2 => exact (Kd.Q_reads' HO495.out).2.1);(case side3 => repeat (first|exact (Kd.Q_reads' HO497.out).2.2|(with_reducible refine Kd.C_alloc ?_ _)|(with_reducible refine Kd.C_drewN ?_ _)|(with_reducible refine Kd.C_drew ?_)));(case side4 => exact (Kd.Q_reads' HO497.out).2.1); rintro e w34 ⟨v530, rfl, ho0, hb⟩; refine ⟨_, rfl, ?_⟩; have n0_ := Aside0.mk (Kd.Q_below (by (with_reducible repeat (first|apply Kd.Q_alloc|apply Kd.Q_drewN|apply Kd.Q_drew)); exact HO472.out) hb); have n1_ := Aside0.mk (Kd.Q_below (by (with_reducible repeat (first|apply Kd.Q_alloc|apply Kd.Q_drewN|apply Kd.Q_drew)); exact HO474.out) hb); have n2_ := Aside0.mk (Kd.R_below (by (with_reducible repeat (first|apply Kd.R_alloc|apply Kd.R_drewN|apply Kd.R_drew)); exact HO476.out) hb); have n3_ := Aside0.mk (Kd.R_below (by (with_reducible repeat (first|apply Kd.R_alloc|apply Kd.R_drewN|apply Kd.R_drew)); exact HO481.out) hb); have n4_ := Aside0.mk (Kd.R_below (by (with_reducible repeat (first|apply Kd.R_alloc|apply Kd.R_drewN|apply Kd.R_drew)); exact HO483.out) hb); have n5_ := Aside0.mk (Kd.R_below (by (with_reducible repeat (first|apply Kd.R_alloc|apply Kd.R_drewN|apply Kd.R_drew)); exact HO488.out) hb); have n6_ := Aside0.mk (Kd.R_below (by (with_reducible repeat (first|apply Kd.R_alloc|apply Kd.R_drewN|apply Kd.R_drew)); exact HO490.out) hb); have n7_ := Aside0.mk (Kd.Q_below (by (with_reducible repeat (first|apply Kd.Q_alloc|apply Kd.Q_drewN|apply Kd.Q_drew)); exact HO495.out) hb); have n8_ := Aside0.mk (Kd.Q_below (by (with_reducible repeat (first|apply Kd.Q_alloc|apply Kd.Q_drewN|apply Kd.Q_drew)); exact HO497.out) hb); have n9_ := Aside0.mk (Kd.R_below (by (with_reducible repeat (first|apply Kd.R_alloc|apply Kd.R_drewN|apply Kd.R_drew)); exact HO499.out) hb); have n10_ := Aside0.mk (Kd.R_below (by (with_reducible repeat (first|apply Kd.R_alloc|apply Kd.R_drewN|apply Kd.R_drew)); exact HO504.out) hb); have n11_ := Aside0.mk (Kd.R_below (by (with_reducible repeat (first|apply Kd.R_alloc|apply Kd.R_drewN|apply Kd.R_drew)); exact HO506.out) hb); have n12_ := Aside0.mk (Kd.R_below (by (with_reducible repeat (first|apply Kd.R_alloc|apply Kd.R_drewN|apply Kd.R_drew)); exact HO511.out) hb); have n13_ := Aside0.mk (Kd.R_below (by (with_reducible repeat (first|apply Kd.R_alloc|apply Kd.R_drewN|apply Kd.R_drew)); exact HO513.out) hb); have n14_ := Aside0.mk (Kd.R_below (by (with_reducible repeat (first|apply Kd.R_alloc|apply Kd.R_drewN|apply Kd.R_drew)); exact HO526.out) hb); have n15_ := Aside0.mk (Kd.R_lower ho0 (below_size (by repeat (first|(with_reducible first|exact HB.out|apply below_alloc|apply pw_below_drewN|apply below_drew1)|exact HB.out)))); have n16_ := Aside0.mk (below_step (by repeat (first|(with_reducible first|exact HB.out|apply below_alloc|apply pw_below_drewN|apply below_drew1)|exact HB.out)) hb); clear HO472; clear HO474; clear HO476; clear HO481; clear HO483; clear HO488; clear HO490; clear HO495; clear HO497; clear HO499; clear HO504; clear HO506; clear HO511; clear HO513; clear HO526; clear HB; have HO472 := n0_; have HO474 := n1_; have HO476 := n2_; have HO481 := n3_; have HO483 := n4_; have HO488 := n5_; have HO490 := n6_; have HO495 := n7_; have HO497 := n8_; have HO499 := n9_; have HO504 := n10_; have HO506 := n11_; have HO511 := n12_; have HO513 := n13_; have HO526 := n14_; have HO531 := n15_; have HB := n16_; clear n0_ n1_ n2_ n3_ n4_ n5_ n6_ n7_ n8_ n9_ n10_ n11_ n12_ n13_ n14_ n15_ n16_; (try clear hb); (try clear hb2); (try clear hk); (try clear hi); (try clear ho0)))
    (try simp only [Act.put, List.setIfInBounds_toArray, List.set_cons_zero, List.set_cons_succ])
    go_cut [229] (fun v229 wc => ∃ (kq : Nat) (x229_15 : Bool), v229 = .bool x229_15 ∧ Aside0 (laws_FnCrashes.j0 kq t467 t468 t469 t470 t477 t478 t479 t484 t485 t491 t492 t493 t500 t501 t502 t516 t524 t527 t528 x229_15 = some r) ∧ Aside0 (kq ≤ k) ∧ Aside0 (Kd.Q (Kd.int .i64) 3 wc w.heap.size (fun _ => True) (.slice Ao18 t467.length co18) t467) ∧ Aside0 (Kd.Q (Kd.int .i64) 3 wc w.heap.size (fun _ => True) (.slice Ao19 t468.length co19) t468) ∧ Aside0 (Kd.R (Kd.int .i64) 3 wc w.heap.size (fun _ => True) (.slice Ao20 t469.length co20) t469) ∧ Aside0 (Kd.R (Kd.int .i64) 3 wc w.heap.size (fun _ => True) v480 t477) ∧ Aside0 (Kd.R (Kd.int .i64) 3 wc w.heap.size (fun _ => True) v482 t478) ∧ Aside0 (Kd.R (Kd.int .i64) 3 wc w.heap.size (fun _ => True) v487 t484) ∧ Aside0 (Kd.R (Kd.int .i64) 3 wc w.heap.size (fun _ => True) v489 t485) ∧ Aside0 (Kd.Q (Kd.int .i64) 3 wc w.heap.size (fun _ => True) (.slice Ao24 t491.length co24) t491) ∧ Aside0 (Kd.Q (Kd.int .i64) 3 wc w.heap.size (fun _ => True) (.slice Ao25 t492.length co25) t492) ∧ Aside0 (Kd.R (Kd.int .i64) 3 wc w.heap.size (fun _ => True) (.slice Ao26 t493.length co26) t493) ∧ Aside0 (Kd.R (Kd.int .i64) 3 wc w.heap.size (fun _ => True) v503 t500) ∧ Aside0 (Kd.R (Kd.int .i64) 3 wc w.heap.size (fun _ => True) v505 t501) ∧ Aside0 (Kd.R (Kd.int .i64) 3 wc w.heap.size (fun _ => True) v530 t528) ∧ Aside0 (Below w.heap.size w wc))
    case first =>
      as_aux_lemma =>
       have H := HC16.out
       clear HC16
       by_cases c35 : (t479 != t486) = true
       · rw [if_pos c35] at H
         have c35b0 : (t479 != t486) = true := c35
         (try (have c35b1 : decide (t479 = t486) = false := by simpa using c35))
         (try (have c35b2 : (t479 == t486) = false := by simpa using c35))
         (try (have c35b3 : ¬ (t479 = t486) := by simpa using c35))
         clear c35
         (first|rw [c35b0]|(simp only [i64_w, i32_w]; rw [c35b0]) | skip)
         have H' := Aside0.mk H
         clear H
         go_wp2
         all_goals
          go_meet
          case rel => exact ⟨_, (true), (by first | rfl|(simp;done)|(simp [*];done)), H', ⟨by first | omega|exact Nat.le_refl _⟩, ⟨by (with_reducible repeat (first|apply Kd.Q_alloc|apply Kd.Q_drewN|apply Kd.Q_drew)); exact HO472.out⟩, ⟨by (with_reducible repeat (first|apply Kd.Q_alloc|apply Kd.Q_drewN|apply Kd.Q_drew)); exact HO474.out⟩, ⟨by (with_reducible repeat (first|apply Kd.R_alloc|apply Kd.R_drewN|apply Kd.R_drew)); exact HO476.out⟩, ⟨by (with_reducible repeat (first|apply Kd.R_alloc|apply Kd.R_drewN|apply Kd.R_drew)); exact HO481.out⟩, ⟨by (with_reducible repeat (first|apply Kd.R_alloc|apply Kd.R_drewN|apply Kd.R_drew)); exact HO483.out⟩, ⟨by (with_reducible repeat (first|apply Kd.R_alloc|apply Kd.R_drewN|apply Kd.R_drew)); exact HO488.out⟩, ⟨by (with_reducible repeat (first|apply Kd.R_alloc|apply Kd.R_drewN|apply Kd.R_drew)); exact HO490.out⟩, ⟨by (with_reducible repeat (first|apply Kd.Q_alloc|apply Kd.Q_drewN|apply Kd.Q_drew)); exact HO495.out⟩, ⟨by (with_reducible repeat (first|apply Kd.Q_alloc|apply Kd.Q_drewN|apply Kd.Q_drew)); exact HO497.out⟩, ⟨by (with_reducible repeat (first|apply Kd.R_alloc|apply Kd.R_drewN|apply Kd.R_drew)); exact HO499.out⟩, ⟨by (with_reducible repeat (first|apply Kd.R_alloc|apply Kd.R_drewN|apply Kd.R_drew)); exact HO504.out⟩, ⟨by (with_reducible repeat (first|apply Kd.R_alloc|apply Kd.R_drewN|apply Kd.R_drew)); exact HO506.out⟩, ⟨by (with_reducible repeat (first|apply Kd.R_alloc|apply Kd.R_drewN|apply Kd.R_drew)); exact HO531.out⟩, ⟨by repeat (first|(with_reducible first|exact HB.out|apply below_alloc|apply pw_below_drewN|apply below_drew1)|exact HB.out)⟩⟩
       · rw [if_neg c35] at H
         have c35b0 : (t479 != t486) = false := by simpa using c35
         (try (have c35b1 : decide (t479 = t486) = true := by simpa using c35))
         (try (have c35b2 : (t479 == t486) = true := by simpa using c35))
         clear c35
         (first|rw [c35b0]|(simp only [i64_w, i32_w]; rw [c35b0]) | skip)
         replace H := Option.bind_eq_some_iff.mp H
         obtain ⟨t532, A360, H⟩ := H
         try dsimp only at H
         have A36 := Aside0.mk A360
         clear A360
         by_cases c37 : t532 = true
         · subst c37
           have H1 : ((laws_qInts.f k t478 t485).bind fun t533 => (if t533 = true then (if (t502 != t509) = true then (laws_FnCrashes.j0 k t467 t468 t469 t470 t477 t478 t479 t484 t485 t491 t492 t493 t500 t501 t502 t516 t524 t527 t528 true) else ((laws_qInts.f k t500 t507).bind fun t534 => (if t534 = true then ((laws_qInts.f k t501 t508).bind fun t535 => (if t535 = true then (if (t515 != t517) = true then (laws_FnCrashes.j0 k t467 t468 t469 t470 t477 t478 t479 t484 t485 t491 t492 t493 t500 t501 t502 t516 t524 t527 t528 true) else (if t514 = t516 then (if (t519 != t521) = true then (laws_FnCrashes.j0 k t467 t468 t469 t470 t477 t478 t479 t484 t485 t491 t492 t493 t500 t501 t502 t516 t524 t527 t528 true) else (if t518 = t520 then (if (t524 != t529) = true then (laws_FnCrashes.j0 k t467 t468 t469 t470 t477 t478 t479 t484 t485 t491 t492 t493 t500 t501 t502 t516 t524 t527 t528 true) else (if t522 = t527 then ((laws_qInts.f k t523 t528).bind fun t536 => (if t536 = true then (if (t515 != t524) = true then (laws_FnCrashes.j0 k t467 t468 t469 t470 t477 t478 t479 t484 t485 t491 t492 t493 t500 t501 t502 t516 t524 t527 t528 true) else (if t519 = true then (laws_FnCrashes.j0 k t467 t468 t469 t470 t477 t478 t479 t484 t485 t491 t492 t493 t500 t501 t502 t516 t524 t527 t528 (t524 != (decide (t520 > 0)))) else (laws_FnCrashes.j0 k t467 t468 t469 t470 t477 t478 t479 t484 t485 t491 t492 t493 t500 t501 t502 t516 t524 t527 t528 (t524 != false)))) else (laws_FnCrashes.j0 k t467 t468 t469 t470 t477 t478 t479 t484 t485 t491 t492 t493 t500 t501 t502 t516 t524 t527 t528 true))) else (laws_FnCrashes.j0 k t467 t468 t469 t470 t477 t478 t479 t484 t485 t491 t492 t493 t500 t501 t502 t516 t524 t527 t528 true))) else (laws_FnCrashes.j0 k t467 t468 t469 t470 t477 t478 t479 t484 t485 t491 t492 t493 t500 t501 t502 t516 t524 t527 t528 true))) else (laws_FnCrashes.j0 k t467 t468 t469 t470 t477 t478 t479 t484 t485 t491 t492 t493 t500 t501 t502 t516 t524 t527 t528 true))) else (laws_FnCrashes.j0 k t467 t468 t469 t470 t477 t478 t479 t484 t485 t491 t492 t493 t500 t501 t502 t516 t524 t527 t528 true))) else (laws_FnCrashes.j0 k t467 t468 t469 t470 t477 t478 t479 t484 t485 t491 t492 t493 t500 t501 t502 t516 t524 t527 t528 true)))) else (laws_FnCrashes.j0 k t467 t468 t469 t470 t477 t478 t479 t484 t485 t491 t492 t493 t500 t501 t502 t516 t524 t527 t528 true))) = some r := by rw [if_pos rfl] at H; exact H
           clear H
           have H := H1
           clear H1
           replace H := Option.bind_eq_some_iff.mp H
           obtain ⟨t533, A380, H⟩ := H
           try dsimp only at H
           have A38 := Aside0.mk A380
           clear A380
           by_cases c39 : t533 = true
           · subst c39
             have H1 : (if (t502 != t509) = true then (laws_FnCrashes.j0 k t467 t468 t469 t470 t477 t478 t479 t484 t485 t491 t492 t493 t500 t501 t502 t516 t524 t527 t528 true) else ((laws_qInts.f k t500 t507).bind fun t534 => (if t534 = true then ((laws_qInts.f k t501 t508).bind fun t535 => (if t535 = true then (if (t515 != t517) = true then (laws_FnCrashes.j0 k t467 t468 t469 t470 t477 t478 t479 t484 t485 t491 t492 t493 t500 t501 t502 t516 t524 t527 t528 true) else (if t514 = t516 then (if (t519 != t521) = true then (laws_FnCrashes.j0 k t467 t468 t469 t470 t477 t478 t479 t484 t485 t491 t492 t493 t500 t501 t502 t516 t524 t527 t528 true) else (if t518 = t520 then (if (t524 != t529) = true then (laws_FnCrashes.j0 k t467 t468 t469 t470 t477 t478 t479 t484 t485 t491 t492 t493 t500 t501 t502 t516 t524 t527 t528 true) else (if t522 = t527 then ((laws_qInts.f k t523 t528).bind fun t536 => (if t536 = true then (if (t515 != t524) = true then (laws_FnCrashes.j0 k t467 t468 t469 t470 t477 t478 t479 t484 t485 t491 t492 t493 t500 t501 t502 t516 t524 t527 t528 true) else (if t519 = true then (laws_FnCrashes.j0 k t467 t468 t469 t470 t477 t478 t479 t484 t485 t491 t492 t493 t500 t501 t502 t516 t524 t527 t528 (t524 != (decide (t520 > 0)))) else (laws_FnCrashes.j0 k t467 t468 t469 t470 t477 t478 t479 t484 t485 t491 t492 t493 t500 t501 t502 t516 t524 t527 t528 (t524 != false)))) else (laws_FnCrashes.j0 k t467 t468 t469 t470 t477 t478 t479 t484 t485 t491 t492 t493 t500 t501 t502 t516 t524 t527 t528 true))) else (laws_FnCrashes.j0 k t467 t468 t469 t470 t477 t478 t479 t484 t485 t491 t492 t493 t500 t501 t502 t516 t524 t527 t528 true))) else (laws_FnCrashes.j0 k t467 t468 t469 t470 t477 t478 t479 t484 t485 t491 t492 t493 t500 t501 t502 t516 t524 t527 t528 true))) else (laws_FnCrashes.j0 k t467 t468 t469 t470 t477 t478 t479 t484 t485 t491 t492 t493 t500 t501 t502 t516 t524 t527 t528 true))) else (laws_FnCrashes.j0 k t467 t468 t469 t470 t477 t478 t479 t484 t485 t491 t492 t493 t500 t501 t502 t516 t524 t527 t528 true))) else (laws_FnCrashes.j0 k t467 t468 t469 t470 t477 t478 t479 t484 t485 t491 t492 t493 t500 t501 t502 t516 t524 t527 t528 true)))) = some r := by rw [if_pos rfl] at H; exact H
             clear H
             have H := H1
             clear H1
             by_cases c40 : (t502 != t509) = true
             · rw [if_pos c40] at H
               have c40b0 : (t502 != t509) = true := c40
               (try (have c40b1 : decide (t502 = t509) = false := by simpa using c40))
               (try (have c40b2 : (t502 == t509) = false := by simpa using c40))
               (try (have c40b3 : ¬ (t502 = t509) := by simpa using c40))
               clear c40
               exact (laws_FnCrashes.j0_true (H.trans (congrArg some HR_.out))).elim
             · rw [if_neg c40] at H
               have c40b0 : (t502 != t509) = false := by simpa using c40
               (try (have c40b1 : decide (t502 = t509) = true := by simpa using c40))
               (try (have c40b2 : (t502 == t509) = true := by simpa using c40))
               clear c40
               replace H := Option.bind_eq_some_iff.mp H
               obtain ⟨t534, A450, H⟩ := H
               try dsimp only at H
               have A45 := Aside0.mk A450
               clear A450
               by_cases c46 : t534 = true
               · subst c46
                 have H1 : ((laws_qInts.f k t501 t508).bind fun t535 => (if t535 = true then (if (t515 != t517) = true then (laws_FnCrashes.j0 k t467 t468 t469 t470 t477 t478 t479 t484 t485 t491 t492 t493 t500 t501 t502 t516 t524 t527 t528 true) else (if t514 = t516 then (if (t519 != t521) = true then (laws_FnCrashes.j0 k t467 t468 t469 t470 t477 t478 t479 t484 t485 t491 t492 t493 t500 t501 t502 t516 t524 t527 t528 true) else (if t518 = t520 then (if (t524 != t529) = true then (laws_FnCrashes.j0 k t467 t468 t469 t470 t477 t478 t479 t484 t485 t491 t492 t493 t500 t501 t502 t516 t524 t527 t528 true) else (if t522 = t527 then ((laws_qInts.f k t523 t528).bind fun t536 => (if t536 = true then (if (t515 != t524) = true then (laws_FnCrashes.j0 k t467 t468 t469 t470 t477 t478 t479 t484 t485 t491 t492 t493 t500 t501 t502 t516 t524 t527 t528 true) else (if t519 = true then (laws_FnCrashes.j0 k t467 t468 t469 t470 t477 t478 t479 t484 t485 t491 t492 t493 t500 t501 t502 t516 t524 t527 t528 (t524 != (decide (t520 > 0)))) else (laws_FnCrashes.j0 k t467 t468 t469 t470 t477 t478 t479 t484 t485 t491 t492 t493 t500 t501 t502 t516 t524 t527 t528 (t524 != false)))) else (laws_FnCrashes.j0 k t467 t468 t469 t470 t477 t478 t479 t484 t485 t491 t492 t493 t500 t501 t502 t516 t524 t527 t528 true))) else (laws_FnCrashes.j0 k t467 t468 t469 t470 t477 t478 t479 t484 t485 t491 t492 t493 t500 t501 t502 t516 t524 t527 t528 true))) else (laws_FnCrashes.j0 k t467 t468 t469 t470 t477 t478 t479 t484 t485 t491 t492 t493 t500 t501 t502 t516 t524 t527 t528 true))) else (laws_FnCrashes.j0 k t467 t468 t469 t470 t477 t478 t479 t484 t485 t491 t492 t493 t500 t501 t502 t516 t524 t527 t528 true))) else (laws_FnCrashes.j0 k t467 t468 t469 t470 t477 t478 t479 t484 t485 t491 t492 t493 t500 t501 t502 t516 t524 t527 t528 true))) = some r := by rw [if_pos rfl] at H; exact H
                 clear H
                 have H := H1
                 clear H1
                 replace H := Option.bind_eq_some_iff.mp H
                 obtain ⟨t535, A470, H⟩ := H
                 try dsimp only at H
                 have A47 := Aside0.mk A470
                 clear A470
                 by_cases c48 : t535 = true
                 · subst c48
                   have H1 : (if (t515 != t517) = true then (laws_FnCrashes.j0 k t467 t468 t469 t470 t477 t478 t479 t484 t485 t491 t492 t493 t500 t501 t502 t516 t524 t527 t528 true) else (if t514 = t516 then (if (t519 != t521) = true then (laws_FnCrashes.j0 k t467 t468 t469 t470 t477 t478 t479 t484 t485 t491 t492 t493 t500 t501 t502 t516 t524 t527 t528 true) else (if t518 = t520 then (if (t524 != t529) = true then (laws_FnCrashes.j0 k t467 t468 t469 t470 t477 t478 t479 t484 t485 t491 t492 t493 t500 t501 t502 t516 t524 t527 t528 true) else (if t522 = t527 then ((laws_qInts.f k t523 t528).bind fun t536 => (if t536 = true then (if (t515 != t524) = true then (laws_FnCrashes.j0 k t467 t468 t469 t470 t477 t478 t479 t484 t485 t491 t492 t493 t500 t501 t502 t516 t524 t527 t528 true) else (if t519 = true then (laws_FnCrashes.j0 k t467 t468 t469 t470 t477 t478 t479 t484 t485 t491 t492 t493 t500 t501 t502 t516 t524 t527 t528 (t524 != (decide (t520 > 0)))) else (laws_FnCrashes.j0 k t467 t468 t469 t470 t477 t478 t479 t484 t485 t491 t492 t493 t500 t501 t502 t516 t524 t527 t528 (t524 != false)))) else (laws_FnCrashes.j0 k t467 t468 t469 t470 t477 t478 t479 t484 t485 t491 t492 t493 t500 t501 t502 t516 t524 t527 t528 true))) else (laws_FnCrashes.j0 k t467 t468 t469 t470 t477 t478 t479 t484 t485 t491 t492 t493 t500 t501 t502 t516 t524 t527 t528 true))) else (laws_FnCrashes.j0 k t467 t468 t469 t470 t477 t478 t479 t484 t485 t491 t492 t493 t500 t501 t502 t516 t524 t527 t528 true))) else (laws_FnCrashes.j0 k t467 t468 t469 t470 t477 t478 t479 t484 t485 t491 t492 t493 t500 t501 t502 t516 t524 t527 t528 true))) = some r := by rw [if_pos rfl] at H; exact H
                   clear H
                   have H := H1
                   clear H1
                   by_cases c49 : (t515 != t517) = true
                   · rw [if_pos c49] at H
                     have c49b0 : (t515 != t517) = true := c49
                     (try (have c49b1 : decide (t515 = t517) = false := by simpa using c49))
                     (try (have c49b2 : (t515 == t517) = false := by simpa using c49))
                     (try (have c49b3 : ¬ (t515 = t517) := by simpa using c49))
                     clear c49
                     exact (laws_FnCrashes.j0_true (H.trans (congrArg some HR_.out))).elim
                   · rw [if_neg c49] at H
                     have c49b0 : (t515 != t517) = false := by simpa using c49
                     (try (have c49b1 : decide (t515 = t517) = true := by simpa using c49))
                     (try (have c49b2 : (t515 == t517) = true := by simpa using c49))
                     clear c49
                     by_cases c58 : t514 = t516
                     · rw [if_pos c58] at H
                       have c58b0 : (t514 == t516) = true := beq_iff_eq.mpr c58
                       have c58b1 : (t514 != t516) = false := bne_eq_false_iff_eq.mpr c58
                       clear c58
                       by_cases c59 : (t519 != t521) = true
                       · rw [if_pos c59] at H
                         have c59b0 : (t519 != t521) = true := c59
                         (try (have c59b1 : decide (t519 = t521) = false := by simpa using c59))
                         (try (have c59b2 : (t519 == t521) = false := by simpa using c59))
                         (try (have c59b3 : ¬ (t519 = t521) := by simpa using c59))
                         clear c59
                         exact (laws_FnCrashes.j0_true (H.trans (congrArg some HR_.out))).elim
                       · rw [if_neg c59] at H
                         have c59b0 : (t519 != t521) = false := by simpa using c59
                         (try (have c59b1 : decide (t519 = t521) = true := by simpa using c59))
                         (try (have c59b2 : (t519 == t521) = true := by simpa using c59))
                         clear c59
                         by_cases c68 : t518 = t520
                         · rw [if_pos c68] at H
                           have c68b0 : (t518 == t520) = true := beq_iff_eq.mpr c68
                           have c68b1 : (t518 != t520) = false := bne_eq_false_iff_eq.mpr c68
                           clear c68
                           by_cases c69 : (t524 != t529) = true
                           · rw [if_pos c69] at H
                             have c69b0 : (t524 != t529) = true := c69
                             (try (have c69b1 : decide (t524 = t529) = false := by simpa using c69))
                             (try (have c69b2 : (t524 == t529) = false := by simpa using c69))
                             (try (have c69b3 : ¬ (t524 = t529) := by simpa using c69))
                             clear c69
                             exact (laws_FnCrashes.j0_true (H.trans (congrArg some HR_.out))).elim
                           · rw [if_neg c69] at H
                             have c69b0 : (t524 != t529) = false := by simpa using c69
                             (try (have c69b1 : decide (t524 = t529) = true := by simpa using c69))
                             (try (have c69b2 : (t524 == t529) = true := by simpa using c69))
                             clear c69
                             by_cases c78 : t522 = t527
                             · rw [if_pos c78] at H
                               have c78b0 : (t522 == t527) = true := beq_iff_eq.mpr c78
                               have c78b1 : (t522 != t527) = false := bne_eq_false_iff_eq.mpr c78
                               clear c78
                               replace H := Option.bind_eq_some_iff.mp H
                               obtain ⟨t536, A790, H⟩ := H
                               try dsimp only at H
                               have A79 := Aside0.mk A790
                               clear A790
                               by_cases c80 : t536 = true
                               · subst c80
                                 have H1 : (if (t515 != t524) = true then (laws_FnCrashes.j0 k t467 t468 t469 t470 t477 t478 t479 t484 t485 t491 t492 t493 t500 t501 t502 t516 t524 t527 t528 true) else (if t519 = true then (laws_FnCrashes.j0 k t467 t468 t469 t470 t477 t478 t479 t484 t485 t491 t492 t493 t500 t501 t502 t516 t524 t527 t528 (t524 != (decide (t520 > 0)))) else (laws_FnCrashes.j0 k t467 t468 t469 t470 t477 t478 t479 t484 t485 t491 t492 t493 t500 t501 t502 t516 t524 t527 t528 (t524 != false)))) = some r := by rw [if_pos rfl] at H; exact H
                                 clear H
                                 have H := H1
                                 clear H1
                                 by_cases c81 : (t515 != t524) = true
                                 · rw [if_pos c81] at H
                                   have c81b0 : (t515 != t524) = true := c81
                                   (try (have c81b1 : decide (t515 = t524) = false := by simpa using c81))
                                   (try (have c81b2 : (t515 == t524) = false := by simpa using c81))
                                   (try (have c81b3 : ¬ (t515 = t524) := by simpa using c81))
                                   clear c81
                                   exact (laws_FnCrashes.j0_true (H.trans (congrArg some HR_.out))).elim
                                 · rw [if_neg c81] at H
                                   have c81b0 : (t515 != t524) = false := by simpa using c81
                                   (try (have c81b1 : decide (t515 = t524) = true := by simpa using c81))
                                   (try (have c81b2 : (t515 == t524) = true := by simpa using c81))
                                   clear c81
                                   by_cases c92 : t519 = true
                                   · subst c92
                                     have H1 : (laws_FnCrashes.j0 k t467 t468 t469 t470 t477 t478 t479 t484 t485 t491 t492 t493 t500 t501 t502 t516 t524 t527 t528 (t524 != (decide (t520 > 0)))) = some r := by rw [if_pos rfl] at H; exact H
                                     clear H
                                     have H := H1
                                     clear H1
                                     have H' := Aside0.mk H
                                     clear H
                                     obtain ⟨Ao93, co93, eo93⟩ := Kd.R_slice HO481.out
                                     subst eo93
                                     obtain ⟨Ao94, co94, eo94⟩ := Kd.R_slice HO488.out
                                     subst eo94
                                     go_wp2_with (first|(go_at_call 20; (with_reducible refine (laws_qInts.calls k _ _ t477 _ _ t484 true _ ?side1 ?side2 ?side3 ?side4 A36.out).mono ?_);(case side1 => repeat (first|exact (Kd.R_reads' HO481.out).2.2|(with_reducible refine Kd.C_alloc ?_ _)|(with_reducible refine Kd.C_drewN ?_ _)|(with_reducible refine Kd.C_drew ?_)));(case side2 => exact (Kd.R_reads' HO481.out).2.1);(case side3 => repeat (first|exact (Kd.R_reads' HO488.out).2.2|(with_reducible refine Kd.C_alloc ?_ _)|(with_reducible refine Kd.C_drewN ?_ _)|(with_reducible refine Kd.C_drew ?_)));(case side4 => exact (Kd.R_reads' HO488.out).2.1); rintro e w' ⟨rfl, ⟨nd, rfl⟩⟩; obtain ⟨Ao95, co95, eo95⟩ := Kd.R_slice HO483.out; subst eo95; obtain ⟨Ao96, co96, eo96⟩ := Kd.R_slice HO490.out; subst eo96)|(go_at_call 20; (with_reducible refine (laws_qInts.calls k _ _ t478 _ _ t485 true _ ?side1 ?side2 ?side3 ?side4 A38.out).mono ?_);(case side1 => repeat (first|exact (Kd.R_reads' HO483.out).2.2|(with_reducible refine Kd.C_alloc ?_ _)|(with_reducible refine Kd.C_drewN ?_ _)|(with_reducible refine Kd.C_drew ?_)));(case side2 => exact (Kd.R_reads' HO483.out).2.1);(case side3 => repeat (first|exact (Kd.R_reads' HO490.out).2.2|(with_reducible refine Kd.C_alloc ?_ _)|(with_reducible refine Kd.C_drewN ?_ _)|(with_reducible refine Kd.C_drew ?_)));(case side4 => exact (Kd.R_reads' HO490.out).2.1); rintro e w' ⟨rfl, ⟨nd, rfl⟩⟩; obtain ⟨Ao97, co97, eo97⟩ := Kd.R_slice HO504.out; subst eo97; obtain ⟨Ao98, co98, eo98⟩ := Kd.R_slice HO511.out; subst eo98)|(go_at_call 20; (with_reducible refine (laws_qInts.calls k _ _ t500 _ _ t507 true _ ?side1 ?side2 ?side3 ?side4 A45.out).mono ?_);(case side1 => repeat (first|exact (Kd.R_reads' HO504.out).2.2|(with_reducible refine Kd.C_alloc ?_ _)|(with_reducible refine Kd.C_drewN ?_ _)|(with_reducible refine Kd.C_drew ?_)));(case side2 => exact (Kd.R_reads' HO504.out).2.1);(case side3 => repeat (first|exact (Kd.R_reads' HO511.out).2.2|(with_reducible refine Kd.C_alloc ?_ _)|(with_reducible refine Kd.C_drewN ?_ _)|(with_reducible refine Kd.C_drew ?_)));(case side4 => exact (Kd.R_reads' HO511.out).2.1); rintro e w' ⟨rfl, ⟨nd, rfl⟩⟩; obtain ⟨Ao99, co99, eo99⟩ := Kd.R_slice HO506.out; subst eo99; obtain ⟨Ao100, co100, eo100⟩ := Kd.R_slice HO513.out; subst eo100)|(go_at_call 20; (with_reducible refine (laws_qInts.calls k _ _ t501 _ _ t508 true _ ?side1 ?side2 ?side3 ?side4 A47.out).mono ?_);(case side1 => repeat (first|exact (Kd.R_reads' HO506.out).2.2|(with_reducible refine Kd.C_alloc ?_ _)|(with_reducible refine Kd.C_drewN ?_ _)|(with_reducible refine Kd.C_drew ?_)));(case side2 => exact (Kd.R_reads' HO506.out).2.1);(case side3 => repeat (first|exact (Kd.R_reads' HO513.out).2.2|(with_reducible refine Kd.C_alloc ?_ _)|(with_reducible refine Kd.C_drewN ?_ _)|(with_reducible refine Kd.C_drew ?_)));(case side4 => exact (Kd.R_reads' HO513.out).2.1); rintro e w' ⟨rfl, ⟨nd, rfl⟩⟩; obtain ⟨Ao101, co101, eo101⟩ := Kd.R_slice HO526.out; subst eo101; obtain ⟨Ao102, co102, eo102⟩ := Kd.R_slice HO531.out; subst eo102)|(go_at_call 20; (with_reducible refine (laws_qInts.calls k _ _ t523 _ _ t528 true _ ?side1 ?side2 ?side3 ?side4 A79.out).mono ?_);(case side1 => repeat (first|exact (Kd.R_reads' HO526.out).2.2|(with_reducible refine Kd.C_alloc ?_ _)|(with_reducible refine Kd.C_drewN ?_ _)|(with_reducible refine Kd.C_drew ?_)));(case side2 => exact (Kd.R_reads' HO526.out).2.1);(case side3 => repeat (first|exact (Kd.R_reads' HO531.out).2.2|(with_reducible refine Kd.C_alloc ?_ _)|(with_reducible refine Kd.C_drewN ?_ _)|(with_reducible refine Kd.C_drew ?_)));(case side4 => exact (Kd.R_reads' HO531.out).2.1); rintro e w' ⟨rfl, ⟨nd, rfl⟩⟩))
                                     all_goals
                                      go_meet
                                      case rel => exact ⟨_, ((t524 != (decide (t520 > 0)))), (by first | rfl|(simp;done)|(simp [*];done)), H', ⟨by first | omega|exact Nat.le_refl _⟩, ⟨by (with_reducible repeat (first|apply Kd.Q_alloc|apply Kd.Q_drewN|apply Kd.Q_drew)); exact HO472.out⟩, ⟨by (with_reducible repeat (first|apply Kd.Q_alloc|apply Kd.Q_drewN|apply Kd.Q_drew)); exact HO474.out⟩, ⟨by (with_reducible repeat (first|apply Kd.R_alloc|apply Kd.R_drewN|apply Kd.R_drew)); exact HO476.out⟩, ⟨by (with_reducible repeat (first|apply Kd.R_alloc|apply Kd.R_drewN|apply Kd.R_drew)); exact HO481.out⟩, ⟨by (with_reducible repeat (first|apply Kd.R_alloc|apply Kd.R_drewN|apply Kd.R_drew)); exact HO483.out⟩, ⟨by (with_reducible repeat (first|apply Kd.R_alloc|apply Kd.R_drewN|apply Kd.R_drew)); exact HO488.out⟩, ⟨by (with_reducible repeat (first|apply Kd.R_alloc|apply Kd.R_drewN|apply Kd.R_drew)); exact HO490.out⟩, ⟨by (with_reducible repeat (first|apply Kd.Q_alloc|apply Kd.Q_drewN|apply Kd.Q_drew)); exact HO495.out⟩, ⟨by (with_reducible repeat (first|apply Kd.Q_alloc|apply Kd.Q_drewN|apply Kd.Q_drew)); exact HO497.out⟩, ⟨by (with_reducible repeat (first|apply Kd.R_alloc|apply Kd.R_drewN|apply Kd.R_drew)); exact HO499.out⟩, ⟨by (with_reducible repeat (first|apply Kd.R_alloc|apply Kd.R_drewN|apply Kd.R_drew)); exact HO504.out⟩, ⟨by (with_reducible repeat (first|apply Kd.R_alloc|apply Kd.R_drewN|apply Kd.R_drew)); exact HO506.out⟩, ⟨by (with_reducible repeat (first|apply Kd.R_alloc|apply Kd.R_drewN|apply Kd.R_drew)); exact HO531.out⟩, ⟨by repeat (first|(with_reducible first|exact HB.out|apply below_alloc|apply pw_below_drewN|apply below_drew1)|exact HB.out)⟩⟩
                                   · replace c92 := Bool.eq_false_iff.mpr c92
                                     subst c92
                                     have H1 : (laws_FnCrashes.j0 k t467 t468 t469 t470 t477 t478 t479 t484 t485 t491 t492 t493 t500 t501 t502 t516 t524 t527 t528 (t524 != false)) = some r := by rw [if_neg (show ¬ (false = true) by decide)] at H; exact H
                                     clear H
                                     have H := H1
                                     clear H1
                                     have H' := Aside0.mk H
                                     clear H
                                     obtain ⟨Ao103, co103, eo103⟩ := Kd.R_slice HO481.out
                                     subst eo103
                                     obtain ⟨Ao104, co104, eo104⟩ := Kd.R_slice HO488.out
                                     subst eo104
                                     go_wp2_with (first|(go_at_call 20; (with_reducible refine (laws_qInts.calls k _ _ t477 _ _ t484 true _ ?side1 ?side2 ?side3 ?side4 A36.out).mono ?_);(case side1 => repeat (first|exact (Kd.R_reads' HO481.out).2.2|(with_reducible refine Kd.C_alloc ?_ _)|(with_reducible refine Kd.C_drewN ?_ _)|(with_reducible refine Kd.C_drew ?_)));(case side2 => exact (Kd.R_reads' HO481.out).2.1);(case side3 => repeat (first|exact (Kd.R_reads' HO488.out).2.2|(with_reducible refine Kd.C_alloc ?_ _)|(with_reducible refine Kd.C_drewN ?_ _)|(with_reducible refine Kd.C_drew ?_)));(case side4 => exact (Kd.R_reads' HO488.out).2.1); rintro e w' ⟨rfl, ⟨nd, rfl⟩⟩; obtain ⟨Ao105, co105, eo105⟩ := Kd.R_slice HO483.out; subst eo105; obtain ⟨Ao106, co106, eo106⟩ := Kd.R_slice HO490.out; subst eo106)|(go_at_call 20; (with_reducible refine (laws_qInts.calls k _ _ t478 _ _ t485 true _ ?side1 ?side2 ?side3 ?side4 A38.out).mono ?_);(case side1 => repeat (first|exact (Kd.R_reads' HO483.out).2.2|(with_reducible refine Kd.C_alloc ?_ _)|(with_reducible refine Kd.C_drewN ?_ _)|(with_reducible refine Kd.C_drew ?_)));(case side2 => exact (Kd.R_reads' HO483.out).2.1);(case side3 => repeat (first|exact (Kd.R_reads' HO490.out).2.2|(with_reducible refine Kd.C_alloc ?_ _)|(with_reducible refine Kd.C_drewN ?_ _)|(with_reducible refine Kd.C_drew ?_)));(case side4 => exact (Kd.R_reads' HO490.out).2.1); rintro e w' ⟨rfl, ⟨nd, rfl⟩⟩; obtain ⟨Ao107, co107, eo107⟩ := Kd.R_slice HO504.out; subst eo107; obtain ⟨Ao108, co108, eo108⟩ := Kd.R_slice HO511.out; subst eo108)|(go_at_call 20; (with_reducible refine (laws_qInts.calls k _ _ t500 _ _ t507 true _ ?side1 ?side2 ?side3 ?side4 A45.out).mono ?_);(case side1 => repeat (first|exact (Kd.R_reads' HO504.out).2.2|(with_reducible refine Kd.C_alloc ?_ _)|(with_reducible refine Kd.C_drewN ?_ _)|(with_reducible refine Kd.C_drew ?_)));(case side2 => exact (Kd.R_reads' HO504.out).2.1);(case side3 => repeat (first|exact (Kd.R_reads' HO511.out).2.2|(with_reducible refine Kd.C_alloc ?_ _)|(with_reducible refine Kd.C_drewN ?_ _)|(with_reducible refine Kd.C_drew ?_)));(case side4 => exact (Kd.R_reads' HO511.out).2.1); rintro e w' ⟨rfl, ⟨nd, rfl⟩⟩; obtain ⟨Ao109, co109, eo109⟩ := Kd.R_slice HO506.out; subst eo109; obtain ⟨Ao110, co110, eo110⟩ := Kd.R_slice HO513.out; subst eo110)|(go_at_call 20; (with_reducible refine (laws_qInts.calls k _ _ t501 _ _ t508 true _ ?side1 ?side2 ?side3 ?side4 A47.out).mono ?_);(case side1 => repeat (first|exact (Kd.R_reads' HO506.out).2.2|(with_reducible refine Kd.C_alloc ?_ _)|(with_reducible refine Kd.C_drewN ?_ _)|(with_reducible refine Kd.C_drew ?_)));(case side2 => exact (Kd.R_reads' HO506.out).2.1);(case side3 => repeat (first|exact (Kd.R_reads' HO513.out).2.2|(with_reducible refine Kd.C_alloc ?_ _)|(with_reducible refine Kd.C_drewN ?_ _)|(with_reducible refine Kd.C_drew ?_)));(case side4 => exact (Kd.R_reads' HO513.out).2.1); rintro e w' ⟨rfl, ⟨nd, rfl⟩⟩; obtain ⟨Ao111, co111, eo111⟩ := Kd.R_slice HO526.out; subst eo111; obtain ⟨Ao112, co112, eo112⟩ := Kd.R_slice HO531.out; subst eo112)|(go_at_call 20; (with_reducible refine (laws_qInts.calls k _ _ t523 _ _ t528 true _ ?side1 ?side2 ?side3 ?side4 A79.out).mono ?_);(case side1 => repeat (first|exact (Kd.R_reads' HO526.out).2.2|(with_reducible refine Kd.C_alloc ?_ _)|(with_reducible refine Kd.C_drewN ?_ _)|(with_reducible refine Kd.C_drew ?_)));(case side2 => exact (Kd.R_reads' HO526.out).2.1);(case side3 => repeat (first|exact (Kd.R_reads' HO531.out).2.2|(with_reducible refine Kd.C_alloc ?_ _)|(with_reducible refine Kd.C_drewN ?_ _)|(with_reducible refine Kd.C_drew ?_)));(case side4 => exact (Kd.R_reads' HO531.out).2.1); rintro e w' ⟨rfl, ⟨nd, rfl⟩⟩))
                                     all_goals
                                      go_meet
                                      case rel => exact ⟨_, ((t524 != false)), (by first | rfl|(simp;done)|(simp [*];done)), H', ⟨by first | omega|exact Nat.le_refl _⟩, ⟨by (with_reducible repeat (first|apply Kd.Q_alloc|apply Kd.Q_drewN|apply Kd.Q_drew)); exact HO472.out⟩, ⟨by (with_reducible repeat (first|apply Kd.Q_alloc|apply Kd.Q_drewN|apply Kd.Q_drew)); exact HO474.out⟩, ⟨by (with_reducible repeat (first|apply Kd.R_alloc|apply Kd.R_drewN|apply Kd.R_drew)); exact HO476.out⟩, ⟨by (with_reducible repeat (first|apply Kd.R_alloc|apply Kd.R_drewN|apply Kd.R_drew)); exact HO481.out⟩, ⟨by (with_reducible repeat (first|apply Kd.R_alloc|apply Kd.R_drewN|apply Kd.R_drew)); exact HO483.out⟩, ⟨by (with_reducible repeat (first|apply Kd.R_alloc|apply Kd.R_drewN|apply Kd.R_drew)); exact HO488.out⟩, ⟨by (with_reducible repeat (first|apply Kd.R_alloc|apply Kd.R_drewN|apply Kd.R_drew)); exact HO490.out⟩, ⟨by (with_reducible repeat (first|apply Kd.Q_alloc|apply Kd.Q_drewN|apply Kd.Q_drew)); exact HO495.out⟩, ⟨by (with_reducible repeat (first|apply Kd.Q_alloc|apply Kd.Q_drewN|apply Kd.Q_drew)); exact HO497.out⟩, ⟨by (with_reducible repeat (first|apply Kd.R_alloc|apply Kd.R_drewN|apply Kd.R_drew)); exact HO499.out⟩, ⟨by (with_reducible repeat (first|apply Kd.R_alloc|apply Kd.R_drewN|apply Kd.R_drew)); exact HO504.out⟩, ⟨by (with_reducible repeat (first|apply Kd.R_alloc|apply Kd.R_drewN|apply Kd.R_drew)); exact HO506.out⟩, ⟨by (with_reducible repeat (first|apply Kd.R_alloc|apply Kd.R_drewN|apply Kd.R_drew)); exact HO531.out⟩, ⟨by repeat (first|(with_reducible first|exact HB.out|apply below_alloc|apply pw_below_drewN|apply below_drew1)|exact HB.out)⟩⟩
                               · replace c80 := Bool.eq_false_iff.mpr c80
                                 subst c80
                                 have H1 : (laws_FnCrashes.j0 k t467 t468 t469 t470 t477 t478 t479 t484 t485 t491 t492 t493 t500 t501 t502 t516 t524 t527 t528 true) = some r := by rw [if_neg (show ¬ (false = true) by decide)] at H; exact H
                                 clear H
                                 have H := H1
                                 clear H1
                                 exact (laws_FnCrashes.j0_true (H.trans (congrArg some HR_.out))).elim
                             · rw [if_neg c78] at H
                               have c78b0 : (t522 == t527) = false := beq_eq_false_iff_ne.mpr c78
                               have c78b1 : (t522 != t527) = true := bne_iff_ne.mpr c78
                               exact (laws_FnCrashes.j0_true (H.trans (congrArg some HR_.out))).elim
                         · rw [if_neg c68] at H
                           have c68b0 : (t518 == t520) = false := beq_eq_false_iff_ne.mpr c68
                           have c68b1 : (t518 != t520) = true := bne_iff_ne.mpr c68
                           exact (laws_FnCrashes.j0_true (H.trans (congrArg some HR_.out))).elim
                     · rw [if_neg c58] at H
                       have c58b0 : (t514 == t516) = false := beq_eq_false_iff_ne.mpr c58
                       have c58b1 : (t514 != t516) = true := bne_iff_ne.mpr c58
                       exact (laws_FnCrashes.j0_true (H.trans (congrArg some HR_.out))).elim
                 · replace c48 := Bool.eq_false_iff.mpr c48
                   subst c48
                   have H1 : (laws_FnCrashes.j0 k t467 t468 t469 t470 t477 t478 t479 t484 t485 t491 t492 t493 t500 t501 t502 t516 t524 t527 t528 true) = some r := by rw [if_neg (show ¬ (false = true) by decide)] at H; exact H
                   clear H
                   have H := H1
                   clear H1
                   exact (laws_FnCrashes.j0_true (H.trans (congrArg some HR_.out))).elim
               · replace c46 := Bool.eq_false_iff.mpr c46
                 subst c46
                 have H1 : (laws_FnCrashes.j0 k t467 t468 t469 t470 t477 t478 t479 t484 t485 t491 t492 t493 t500 t501 t502 t516 t524 t527 t528 true) = some r := by rw [if_neg (show ¬ (false = true) by decide)] at H; exact H
                 clear H
                 have H := H1
                 clear H1
                 exact (laws_FnCrashes.j0_true (H.trans (congrArg some HR_.out))).elim
           · replace c39 := Bool.eq_false_iff.mpr c39
             subst c39
             have H1 : (laws_FnCrashes.j0 k t467 t468 t469 t470 t477 t478 t479 t484 t485 t491 t492 t493 t500 t501 t502 t516 t524 t527 t528 true) = some r := by rw [if_neg (show ¬ (false = true) by decide)] at H; exact H
             clear H
             have H := H1
             clear H1
             exact (laws_FnCrashes.j0_true (H.trans (congrArg some HR_.out))).elim
         · replace c37 := Bool.eq_false_iff.mpr c37
           subst c37
           have H1 : (laws_FnCrashes.j0 k t467 t468 t469 t470 t477 t478 t479 t484 t485 t491 t492 t493 t500 t501 t502 t516 t524 t527 t528 true) = some r := by rw [if_neg (show ¬ (false = true) by decide)] at H; exact H
           clear H
           have H := H1
           clear H1
           exact (laws_FnCrashes.j0_true (H.trans (congrArg some HR_.out))).elim
    case rest =>
      as_aux_lemma =>
       clear HC16
       try clear c1
       try clear p2
       try clear c3
       try clear c3b0
       try clear c4
       try clear c5
       try clear c6
       try clear p6
       try clear c7
       try clear c8
       try clear c9
       try clear c34
       try clear c35
       try clear c35b0
       try clear c35b1
       try clear c35b2
       try clear c37
       try clear c38
       try clear c39
       try clear c40
       try clear c40b0
       try clear c40b1
       try clear c40b2
       try clear c41
       try clear c42
       try clear c43
       try clear c44
       try clear c45
       try clear c46
       try clear c48
       try clear c49
       try clear c49b0
       try clear c49b1
       try clear c49b2
       try clear c58
       try clear c58b0
       try clear c58b1
       try clear c59
       try clear c59b0
       try clear c59b1
       try clear c59b2
       try clear p64
       try clear c68
       try clear c68b0
       try clear c68b1
       try clear c69
       try clear c69b0
       try clear c69b1
       try clear c69b2
       try clear c78
       try clear c78b0
       try clear c78b1
       try clear c80
       try clear c81
       try clear c81b0
       try clear c81b1
       try clear c81b2
       try clear c92
       obtain ⟨kq, x229_15, rfl, HA, HJ15, HO_5, HO_6, HO_7, HO_9, HO_10, HO_12, HO_13, HO_15, HO_16, HO_17, HO_18, HO_19, HO_36, HB⟩ := hcut
       cases kq with
       | zero => exact absurd HA.out (by simp [laws_FnCrashes.j0])
       | succ kj15 =>
         have H := HA.out
         clear HA
         simp only [laws_FnCrashes.j0] at H
         by_cases c167 : x229_15 = true
         · subst c167
           have H1 : (some false) = some r := by rw [if_pos rfl] at H; exact H
           clear H
           have H := H1
           clear H1
           exact absurd ((Option.some.inj H).trans HR_.out) (by decide)
         · replace c167 := Bool.eq_false_iff.mpr c167
           subst c167
           have H1 : (if t524 = true then ((some (([t491, t492] : List (List Int)) : List (List Int))).bind fun y537 => (if 0 ≤ t516 then (if t516 < (y537.length : Int) then ((impl_ReadArea.f kj15 (rd_L2 y537 t516)).bind fun bt541 => (if bt541.2.2 = true then (if bt541.1 = t527 then ((laws_qInts.f kj15 bt541.2.1 t528).bind fun t546 => (if t546 = true then (laws_FnCrashes.j1 kj15 t467 t468 t469 t470 t477 t478 t479 t484 t485 t493 t500 t501 t502 t527) else (some false))) else (some false)) else (some false))) else (none)) else (none))) else (laws_FnCrashes.j1 kj15 t467 t468 t469 t470 t477 t478 t479 t484 t485 t493 t500 t501 t502 t527)) = some r := by rw [if_neg (show ¬ (false = true) by decide)] at H; exact H
           clear H
           have H := H1
           clear H1
           have HC168 := Aside0.mk H
           clear H
           go_upto_if 230 with (fail)
           go_cut [] (fun wc => ∃ (kq : Nat), Aside0 (laws_FnCrashes.j1 kq t467 t468 t469 t470 t477 t478 t479 t484 t485 t493 t500 t501 t502 t527 = some r) ∧ Aside0 (kq ≤ kj15) ∧ Aside0 (Kd.Q (Kd.int .i64) 3 wc w.heap.size (fun _ => True) (.slice Ao18 t467.length co18) t467) ∧ Aside0 (Kd.Q (Kd.int .i64) 3 wc w.heap.size (fun _ => True) (.slice Ao19 t468.length co19) t468) ∧ Aside0 (Kd.R (Kd.int .i64) 3 wc w.heap.size (fun _ => True) (.slice Ao20 t469.length co20) t469) ∧ Aside0 (Kd.R (Kd.int .i64) 3 wc w.heap.size (fun _ => True) v480 t477) ∧ Aside0 (Kd.R (Kd.int .i64) 3 wc w.heap.size (fun _ => True) v482 t478) ∧ Aside0 (Kd.R (Kd.int .i64) 3 wc w.heap.size (fun _ => True) v487 t484) ∧ Aside0 (Kd.R (Kd.int .i64) 3 wc w.heap.size (fun _ => True) v489 t485) ∧ Aside0 (Kd.R (Kd.int .i64) 3 wc w.heap.size (fun _ => True) (.slice Ao26 t493.length co26) t493) ∧ Aside0 (Kd.R (Kd.int .i64) 3 wc w.heap.size (fun _ => True) v503 t500) ∧ Aside0 (Kd.R (Kd.int .i64) 3 wc w.heap.size (fun _ => True) v505 t501) ∧ Aside0 (Below w.heap.size w wc))
           case first =>
             as_aux_lemma =>
              have H := HC168.out
              clear HC168
              by_cases c169 : t524 = true
              · subst c169
                have H1 : ((some (([t491, t492] : List (List Int)) : List (List Int))).bind fun y537 => (if 0 ≤ t516 then (if t516 < (y537.length : Int) then ((impl_ReadArea.f kj15 (rd_L2 y537 t516)).bind fun bt541 => (if bt541.2.2 = true then (if bt541.1 = t527 then ((laws_qInts.f kj15 bt541.2.1 t528).bind fun t546 => (if t546 = true then (laws_FnCrashes.j1 kj15 t467 t468 t469 t470 t477 t478 t479 t484 t485 t493 t500 t501 t502 t527) else (some false))) else (some false)) else (some false))) else (none)) else (none))) = some r := by rw [if_pos rfl] at H; exact H
                clear H
                have H := H1
                clear H1
                obtain ⟨y537, hy537⟩ : ∃ y_ : List (List Int), y_ = (([t491, t492] : List (List Int))) := ⟨_, rfl⟩
                replace H : (if 0 ≤ t516 then (if t516 < (y537.length : Int) then ((impl_ReadArea.f kj15 (rd_L2 y537 t516)).bind fun bt541 => (if bt541.2.2 = true then (if bt541.1 = t527 then ((laws_qInts.f kj15 bt541.2.1 t528).bind fun t546 => (if t546 = true then (laws_FnCrashes.j1 kj15 t467 t468 t469 t470 t477 t478 t479 t484 t485 t493 t500 t501 t502 t527) else (some false))) else (some false)) else (some false))) else (none)) else (none)) = some r := by first|(rw [hy537]; with_reducible exact H)|(have H2_ := (Option.bind_some _ _).symm.trans H; rw [hy537]; with_reducible exact H2_)|(have H2_ := (Option.bind_some _ _).symm.trans H; with_reducible exact H2_) | with_reducible exact H|(rw [hy537]; exact H)|exact H
                have Ny537 := Aside0.mk hy537
                clear hy537
                by_cases c170 : 0 ≤ t516
                · rw [if_pos c170] at H
                  have c170b0 : decide (0 ≤ t516) = true := decide_eq_true c170
                  clear c170
                  (first|rw [c170b0]|(simp only [i64_w, i32_w]; rw [c170b0]) | skip)
                  by_cases c171 : t516 < (y537.length : Int)
                  · rw [if_pos c171] at H
                    have c171b0 : decide (t516 < (y537.length : Int)) = true := decide_eq_true c171
                    clear c171
                    replace H := Option.bind_eq_some_iff.mp H
                    obtain ⟨⟨t541, t542, t543⟩, A1720, H⟩ := H
                    try dsimp only at H
                    have A172 := Aside0.mk A1720
                    clear A1720
                    by_cases c173 : t543 = true
                    · subst c173
                      have H1 : (if t541 = t527 then ((laws_qInts.f kj15 t542 t528).bind fun t546 => (if t546 = true then (laws_FnCrashes.j1 kj15 t467 t468 t469 t470 t477 t478 t479 t484 t485 t493 t500 t501 t502 t527) else (some false))) else (some false)) = some r := by rw [if_pos rfl] at H; exact H
                      clear H
                      have H := H1
                      clear H1
                      by_cases c174 : t541 = t527
                      · rw [if_pos c174] at H
                        have c174b0 : (t541 == t527) = true := beq_iff_eq.mpr c174
                        have c174b1 : (t541 != t527) = false := bne_eq_false_iff_eq.mpr c174
                        clear c174
                        replace H := Option.bind_eq_some_iff.mp H
                        obtain ⟨t546, A1750, H⟩ := H
                        try dsimp only at H
                        have A175 := Aside0.mk A1750
                        clear A1750
                        by_cases c176 : t546 = true
                        · subst c176
                          have H1 : (laws_FnCrashes.j1 kj15 t467 t468 t469 t470 t477 t478 t479 t484 t485 t493 t500 t501 t502 t527) = some r := by rw [if_pos rfl] at H; exact H
                          clear H
                          have H := H1
                          clear H1
                          have H' := Aside0.mk H
                          clear H
                          go_wp2_with (first|((with_reducible refine gate_dst (N := 233) rfl ?_); refine Kd.N_lit (Kd.slice 3 (Kd.int .i64)) _ 37 ?hg (N' := 233) ?hd (xs := ([t491, t492] : List (List Int))) (inner := [.slice Ao24 t491.length co24, .slice Ao25 t492.length co25]) (ok := (fun _ => True)) (okp := (fun _ => True)) ?hr ?hp (fun _ hk => hk) ((show ∀ k_, wc.heap.size ≤ k_ → (fun _ => True) k_ from fun k_ hk => trivial) _ (Nat.le_refl _)) (Below.refl _ _) (Nat.le_refl _) (by simp) ?_;(case hd => rfl);(case hg => rfl);(case hr => first|(go_simp;done)|(go_simp; rfl));(case hp => exact (Reps.one (show Kd.FK (Kd.slice 3 (Kd.int .i64)) _ _ t491 [.slice Ao24 t491.length co24] from (Kd.FK_slice_mk (Kd.Q_reads' (Kd.Q_mono (ok' := (fun _ => True)) (HO_15.out) (fun k_ hk => trivial))).2.1 (Kd.Q_F (Kd.Q_mono (ok' := (fun _ => True)) (HO_15.out) (fun k_ hk => trivial))))) (Reps.one (show Kd.FK (Kd.slice 3 (Kd.int .i64)) _ _ t492 [.slice Ao25 t492.length co25] from (Kd.FK_slice_mk (Kd.Q_reads' (Kd.Q_mono (ok' := (fun _ => True)) (HO_16.out) (fun k_ hk => trivial))).2.1 (Kd.Q_F (Kd.Q_mono (ok' := (fun _ => True)) (HO_16.out) (fun k_ hk => trivial))))) (Reps.none _ _)))); intro v538 w177 ho178 hb hg_ hnew_; clear hg_ hnew_; (first|rw [← Ny537.out] at ho178|(simp only [Int.reduceToNat] at ho178; rw [← Ny537.out] at ho178)); have n0_ := Aside0.mk (Kd.Q_below (by (with_reducible repeat (first|apply Kd.Q_alloc|apply Kd.Q_drewN|apply Kd.Q_drew)); exact HO_5.out) hb); have n1_ := Aside0.mk (Kd.Q_below (by (with_reducible repeat (first|apply Kd.Q_alloc|apply Kd.Q_drewN|apply Kd.Q_drew)); exact HO_6.out) hb); have n2_ := Aside0.mk (Kd.R_below (by (with_reducible repeat (first|apply Kd.R_alloc|apply Kd.R_drewN|apply Kd.R_drew)); exact HO_7.out) hb); have n3_ := Aside0.mk (Kd.R_below (by (with_reducible repeat (first|apply Kd.R_alloc|apply Kd.R_drewN|apply Kd.R_drew)); exact HO_9.out) hb); have n4_ := Aside0.mk (Kd.R_below (by (with_reducible repeat (first|apply Kd.R_alloc|apply Kd.R_drewN|apply Kd.R_drew)); exact HO_10.out) hb); have n5_ := Aside0.mk (Kd.R_below (by (with_reducible repeat (first|apply Kd.R_alloc|apply Kd.R_drewN|apply Kd.R_drew)); exact HO_12.out) hb); have n6_ := Aside0.mk (Kd.R_below (by (with_reducible repeat (first|apply Kd.R_alloc|apply Kd.R_drewN|apply Kd.R_drew)); exact HO_13.out) hb); have n7_ := Aside0.mk (Kd.R_below (by (with_reducible repeat (first|apply Kd.R_alloc|apply Kd.R_drewN|apply Kd.R_drew)); exact HO_17.out) hb); have n8_ := Aside0.mk (Kd.R_below (by (with_reducible repeat (first|apply Kd.R_alloc|apply Kd.R_drewN|apply Kd.R_drew)); exact HO_18.out) hb); have n9_ := Aside0.mk (Kd.R_below (by (with_reducible repeat (first|apply Kd.R_alloc|apply Kd.R_drewN|apply Kd.R_drew)); exact HO_19.out) hb); have n10_ := Aside0.mk (Kd.R_below (by (with_reducible repeat (first|apply Kd.R_alloc|apply Kd.R_drewN|apply Kd.R_drew)); exact HO_36.out) hb); have n11_ := Aside0.mk (Kd.N_lower ho178 (below_size (by repeat (first|(with_reducible first|exact HB.out|apply below_alloc|apply pw_below_drewN|apply below_drew1)|exact HB.out)))); have n12_ := Aside0.mk (below_step (by repeat (first|(with_reducible first|exact HB.out|apply below_alloc|apply pw_below_drewN|apply below_drew1)|exact HB.out)) hb); clear HO_5; clear HO_6; clear HO_7; clear HO_9; clear HO_10; clear HO_12; clear HO_13; clear HO_17; clear HO_18; clear HO_19; clear HO_36; clear HB; clear HO_15; clear HO_16; have HO_5 := n0_; have HO_6 := n1_; have HO_7 := n2_; have HO_9 := n3_; have HO_10 := n4_; have HO_12 := n5_; have HO_13 := n6_; have HO_17 := n7_; have HO_18 := n8_; have HO_19 := n9_; have HO_36 := n10_; have HO539 := n11_; have HB := n12_; clear n0_ n1_ n2_ n3_ n4_ n5_ n6_ n7_ n8_ n9_ n10_ n11_ n12_; clear hb ho178; obtain ⟨Ao179, co179, eo179⟩ := Kd.N_slice HO539.out; subst eo179; have p540 : 0 ≤ (t516 : Int) := of_decide_eq_true (by first|(with_reducible assumption) | assumption); have q540 : t516 < (y537.length : Int) := of_decide_eq_true (by first|(with_reducible assumption) | assumption); obtain ⟨ad540, A540_0, c540_0, e540, hx540_0, hl540_0, hi540_0⟩ := at_L2 (Kd.N_reads' HO539.out).2.2 t516 p540 q540; cases e540; obtain ⟨ce540, hce540, hMe540, hcc540⟩ := Kd.N_get HO539.out [] t516 p540 (by first|exact q540|exact of_decide_eq_true (by first|(with_reducible assumption) | assumption)|(have e_ := (Kd.N_reads' HO539.out).1; omega)); obtain ⟨ua540_0, uc540_0, rfl, ul540_0, ge540_0⟩ := Kd.FK_slice_open hMe540; have hv540_0 := hcc540 0 _ rfl; rw [Nat.add_zero, show ((Kd.slice 3 (Kd.int .i64))).sz = 1 from rfl, Nat.mul_one] at hv540_0; replace hv540_0 := Option.some.inj (hv540_0.symm.trans hx540_0); injection hv540_0 with hva_ hvn_ hvc_; rw [hva_] at ge540_0; rw [hvc_] at ul540_0; have HL540_0 := Aside0.mk (show Kd.V (Kd.int .i64) 3 _ w.heap.size _ _ (rd_L2 y537 t516) from Kd.V_mk ul540_0 ge540_0); clear hva_ hvn_ hvc_ ge540_0 ul540_0; clear hcc540 hce540; have HR540_0 := Aside0.mk hi540_0; have HC540_0 := Aside0.mk hl540_0; clear hi540_0 hl540_0; replace p540 := eq_true p540; replace q540 := eq_true q540)|((with_reducible refine gate_callee (f := 32) rfl ?_); refine goesL_ (some 239) rfl rfl Try.func32 (by kernel_rfl) rfl #[.slice A540_0 (rd_L2 y537 t516).length c540_0] rfl (by (try simp only [List.map_toArray, List.map_cons, List.map_nil]); first | done | rfl|(simp only [List.length_drop, List.length_take]; rfl)) ?_; (with_reducible refine (impl_ReadArea.calls kj15 _ _ (rd_L2 y537 t516) t541 t542 true _ ?side1 ?side2 A172.out).mono ?_);(case side1 => repeat (first|exact (by repeat (first|(with_reducible exact HR540_0.out)|(with_reducible refine Kd.C_alloc ?_ _)|(with_reducible refine Kd.C_drewN ?_ _)|(with_reducible refine Kd.C_drew ?_)|exact HR540_0.out))|(with_reducible refine Kd.C_alloc ?_ _)|(with_reducible refine Kd.C_drewN ?_ _)|(with_reducible refine Kd.C_drew ?_)));(case side2 => exact HC540_0.out); rintro e w180 ⟨v544, rfl, ho0, hb⟩; refine ⟨_, rfl, ?_⟩; have n0_ := Aside0.mk (Kd.Q_below (by (with_reducible repeat (first|apply Kd.Q_alloc|apply Kd.Q_drewN|apply Kd.Q_drew)); exact HO_5.out) hb); have n1_ := Aside0.mk (Kd.Q_below (by (with_reducible repeat (first|apply Kd.Q_alloc|apply Kd.Q_drewN|apply Kd.Q_drew)); exact HO_6.out) hb); have n2_ := Aside0.mk (Kd.R_below (by (with_reducible repeat (first|apply Kd.R_alloc|apply Kd.R_drewN|apply Kd.R_drew)); exact HO_7.out) hb); have n3_ := Aside0.mk (Kd.R_below (by (with_reducible repeat (first|apply Kd.R_alloc|apply Kd.R_drewN|apply Kd.R_drew)); exact HO_9.out) hb); have n4_ := Aside0.mk (Kd.R_below (by (with_reducible repeat (first|apply Kd.R_alloc|apply Kd.R_drewN|apply Kd.R_drew)); exact HO_10.out) hb); have n5_ := Aside0.mk (Kd.R_below (by (with_reducible repeat (first|apply Kd.R_alloc|apply Kd.R_drewN|apply Kd.R_drew)); exact HO_12.out) hb); have n6_ := Aside0.mk (Kd.R_below (by (with_reducible repeat (first|apply Kd.R_alloc|apply Kd.R_drewN|apply Kd.R_drew)); exact HO_13.out) hb); have n7_ := Aside0.mk (Kd.R_below (by (with_reducible repeat (first|apply Kd.R_alloc|apply Kd.R_drewN|apply Kd.R_drew)); exact HO_17.out) hb); have n8_ := Aside0.mk (Kd.R_below (by (with_reducible repeat (first|apply Kd.R_alloc|apply Kd.R_drewN|apply Kd.R_drew)); exact HO_18.out) hb); have n9_ := Aside0.mk (Kd.R_below (by (with_reducible repeat (first|apply Kd.R_alloc|apply Kd.R_drewN|apply Kd.R_drew)); exact HO_19.out) hb); have n10_ := Aside0.mk (Kd.R_below (by (with_reducible repeat (first|apply Kd.R_alloc|apply Kd.R_drewN|apply Kd.R_drew)); exact HO_36.out) hb); have n11_ := Aside0.mk (Kd.N_below (by (with_reducible repeat (first|apply Kd.N_alloc|apply Kd.N_drewN|apply Kd.N_drew)); exact HO539.out) hb); have n12_ := Aside0.mk (Kd.V_below (by (with_reducible repeat (first|apply Kd.V_alloc|apply Kd.V_drewN|apply Kd.V_drew)); exact HL540_0.out) hb); have n13_ := Aside0.mk (Kd.R_lower ho0 (below_size (by repeat (first|(with_reducible first|exact HB.out|apply below_alloc|apply pw_below_drewN|apply below_drew1)|exact HB.out)))); have n14_ := Aside0.mk (Kd.C_below (by repeat (first|(with_reducible exact HR540_0.out)|(with_reducible refine Kd.C_alloc ?_ _)|(with_reducible refine Kd.C_drewN ?_ _)|(with_reducible refine Kd.C_drew ?_)|exact HR540_0.out)) hb); have n15_ := Aside0.mk (below_step (by repeat (first|(with_reducible first|exact HB.out|apply below_alloc|apply pw_below_drewN|apply below_drew1)|exact HB.out)) hb); clear HO_5; clear HO_6; clear HO_7; clear HO_9; clear HO_10; clear HO_12; clear HO_13; clear HO_17; clear HO_18; clear HO_19; clear HO_36; clear HO539; clear HL540_0; clear HR540_0; clear HB; have HO_5 := n0_; have HO_6 := n1_; have HO_7 := n2_; have HO_9 := n3_; have HO_10 := n4_; have HO_12 := n5_; have HO_13 := n6_; have HO_17 := n7_; have HO_18 := n8_; have HO_19 := n9_; have HO_36 := n10_; have HO539 := n11_; have HL540_0 := n12_; have HO545 := n13_; have HR540_0 := n14_; have HB := n15_; clear n0_ n1_ n2_ n3_ n4_ n5_ n6_ n7_ n8_ n9_ n10_ n11_ n12_ n13_ n14_ n15_; (try clear hb); (try clear hb2); (try clear hk); (try clear hi); (try clear ho0); obtain ⟨Ao181, co181, eo181⟩ := Kd.R_slice HO545.out; subst eo181; obtain ⟨Ao182, co182, eo182⟩ := Kd.R_slice HO_36.out; subst eo182)|(go_at_call 20; (with_reducible refine (laws_qInts.calls kj15 _ _ t542 _ _ t528 true _ ?side1 ?side2 ?side3 ?side4 A175.out).mono ?_);(case side1 => repeat (first|exact (Kd.R_reads' HO545.out).2.2|(with_reducible refine Kd.C_alloc ?_ _)|(with_reducible refine Kd.C_drewN ?_ _)|(with_reducible refine Kd.C_drew ?_)));(case side2 => exact (Kd.R_reads' HO545.out).2.1);(case side3 => repeat (first|exact (Kd.R_reads' HO_36.out).2.2|(with_reducible refine Kd.C_alloc ?_ _)|(with_reducible refine Kd.C_drewN ?_ _)|(with_reducible refine Kd.C_drew ?_)));(case side4 => exact (Kd.R_reads' HO_36.out).2.1); rintro e w' ⟨rfl, ⟨nd, rfl⟩⟩))
                          all_goals
                           go_meet
                           case rel => exact ⟨_, H', ⟨by have := HJ15.out; first | omega|exact Nat.le_refl _⟩, ⟨by (with_reducible repeat (first|apply Kd.Q_alloc|apply Kd.Q_drewN|apply Kd.Q_drew)); exact HO_5.out⟩, ⟨by (with_reducible repeat (first|apply Kd.Q_alloc|apply Kd.Q_drewN|apply Kd.Q_drew)); exact HO_6.out⟩, ⟨by (with_reducible repeat (first|apply Kd.R_alloc|apply Kd.R_drewN|apply Kd.R_drew)); exact HO_7.out⟩, ⟨by (with_reducible repeat (first|apply Kd.R_alloc|apply Kd.R_drewN|apply Kd.R_drew)); exact HO_9.out⟩, ⟨by (with_reducible repeat (first|apply Kd.R_alloc|apply Kd.R_drewN|apply Kd.R_drew)); exact HO_10.out⟩, ⟨by (with_reducible repeat (first|apply Kd.R_alloc|apply Kd.R_drewN|apply Kd.R_drew)); exact HO_12.out⟩, ⟨by (with_reducible repeat (first|apply Kd.R_alloc|apply Kd.R_drewN|apply Kd.R_drew)); exact HO_13.out⟩, ⟨by (with_reducible repeat (first|apply Kd.R_alloc|apply Kd.R_drewN|apply Kd.R_drew)); exact HO_17.out⟩, ⟨by (with_reducible repeat (first|apply Kd.R_alloc|apply Kd.R_drewN|apply Kd.R_drew)); exact HO_18.out⟩, ⟨by (with_reducible repeat (first|apply Kd.R_alloc|apply Kd.R_drewN|apply Kd.R_drew)); exact HO_19.out⟩, ⟨by repeat (first|(with_reducible first|exact HB.out|apply below_alloc|apply pw_below_drewN|apply below_drew1)|exact HB.out)⟩⟩
                        · replace c176 := Bool.eq_false_iff.mpr c176
                          subst c176
                          have H1 : (some false) = some r := by rw [if_neg (show ¬ (false = true) by decide)] at H; exact H
                          clear H
                          have H := H1
                          clear H1
                          exact absurd ((Option.some.inj H).trans HR_.out) (by decide)
                      · rw [if_neg c174] at H
                        have c174b0 : (t541 == t527) = false := beq_eq_false_iff_ne.mpr c174
                        have c174b1 : (t541 != t527) = true := bne_iff_ne.mpr c174
                        exact absurd ((Option.some.inj H).trans HR_.out) (by decide)
                    · replace c173 := Bool.eq_false_iff.mpr c173
                      subst c173
                      have H1 : (some false) = some r := by rw [if_neg (show ¬ (false = true) by decide)] at H; exact H
                      clear H
                      have H := H1
                      clear H1
                      exact absurd ((Option.some.inj H).trans HR_.out) (by decide)
                  · rw [if_neg c171] at H
                    exact absurd H (by simp)
                · rw [if_neg c170] at H
                  exact absurd H (by simp)
              · replace c169 := Bool.eq_false_iff.mpr c169
                subst c169
                have H1 : (laws_FnCrashes.j1 kj15 t467 t468 t469 t470 t477 t478 t479 t484 t485 t493 t500 t501 t502 t527) = some r := by rw [if_neg (show ¬ (false = true) by decide)] at H; exact H
                clear H
                have H := H1
                clear H1
                have H' := Aside0.mk H
                clear H
                go_wp2
                all_goals
                 go_meet
                 case rel => exact ⟨_, H', ⟨by have := HJ15.out; first | omega|exact Nat.le_refl _⟩, ⟨by (with_reducible repeat (first|apply Kd.Q_alloc|apply Kd.Q_drewN|apply Kd.Q_drew)); exact HO_5.out⟩, ⟨by (with_reducible repeat (first|apply Kd.Q_alloc|apply Kd.Q_drewN|apply Kd.Q_drew)); exact HO_6.out⟩, ⟨by (with_reducible repeat (first|apply Kd.R_alloc|apply Kd.R_drewN|apply Kd.R_drew)); exact HO_7.out⟩, ⟨by (with_reducible repeat (first|apply Kd.R_alloc|apply Kd.R_drewN|apply Kd.R_drew)); exact HO_9.out⟩, ⟨by (with_reducible repeat (first|apply Kd.R_alloc|apply Kd.R_drewN|apply Kd.R_drew)); exact HO_10.out⟩, ⟨by (with_reducible repeat (first|apply Kd.R_alloc|apply Kd.R_drewN|apply Kd.R_drew)); exact HO_12.out⟩, ⟨by (with_reducible repeat (first|apply Kd.R_alloc|apply Kd.R_drewN|apply Kd.R_drew)); exact HO_13.out⟩, ⟨by (with_reducible repeat (first|apply Kd.R_alloc|apply Kd.R_drewN|apply Kd.R_drew)); exact HO_17.out⟩, ⟨by (with_reducible repeat (first|apply Kd.R_alloc|apply Kd.R_drewN|apply Kd.R_drew)); exact HO_18.out⟩, ⟨by (with_reducible repeat (first|apply Kd.R_alloc|apply Kd.R_drewN|apply Kd.R_drew)); exact HO_19.out⟩, ⟨by repeat (first|(with_reducible first|exact HB.out|apply below_alloc|apply pw_below_drewN|apply below_drew1)|exact HB.out)⟩⟩
           case rest =>
             as_aux_lemma =>
              clear HC168
              try clear c1
              try clear p2
              try clear c3
              try clear c3b0
              try clear c4
              try clear c5
              try clear p5
              try clear q5
              try clear hx5
              try clear c6
              try clear p6
              try clear c7
              try clear c8
              try clear c9
              try clear c16
              try clear c17
              try clear c32
              try clear c34
              try clear c35
              try clear c35b0
              try clear c35b1
              try clear c35b2
              try clear c37
              try clear c38
              try clear c39
              try clear c40
              try clear c40b0
              try clear c40b1
              try clear c40b2
              try clear c41
              try clear c42
              try clear c43
              try clear c44
              try clear c45
              try clear c46
              try clear c48
              try clear c49
              try clear c49b0
              try clear c49b1
              try clear c49b2
              try clear c54
              try clear p54
              try clear q54
              try clear hx54
              try clear c58
              try clear c58b0
              try clear c58b1
              try clear c59
              try clear c59b0
              try clear c59b1
              try clear c59b2
              try clear p64
              try clear c68
              try clear c68b0
              try clear c68b1
              try clear c69
              try clear c69b0
              try clear c69b1
              try clear c69b2
              try clear c78
              try clear c78b0
              try clear c78b1
              try clear c80
              try clear c81
              try clear c81b0
              try clear c81b1
              try clear c81b2
              try clear c92
              try clear c167
              try clear c169
              try clear c170
              try clear c170b0
              try clear c171
              try clear c171b0
              try clear c173
              try clear c174
              try clear c174b0
              try clear c174b1
              try clear c176
              try clear hx540_0
              try clear p2
              try clear p540
              try clear p6
              try clear p64
              try clear q540
              obtain ⟨kq, HA, HJ167, HO_5, HO_6, HO_7, HO_9, HO_10, HO_12, HO_13, HO_17, HO_18, HO_19, HB⟩ := hcut
              cases kq with
              | zero => exact absurd HA.out (by simp [laws_FnCrashes.j1])
              | succ kj167 =>
                have H := HA.out
                clear HA
                simp only [laws_FnCrashes.j1] at H
                have HC197 := Aside0.mk H
                clear H
                go_upto_if 256 with (fail)
                go_cut [] (fun wc => ∃ (kq : Nat), Aside0 (laws_FnCrashes.j2 kq t467 t468 t469 t470 t477 t478 t479 t484 t485 = some r) ∧ Aside0 (kq ≤ kj167) ∧ Aside0 (Kd.Q (Kd.int .i64) 3 wc w.heap.size (fun _ => True) (.slice Ao18 t467.length co18) t467) ∧ Aside0 (Kd.Q (Kd.int .i64) 3 wc w.heap.size (fun _ => True) (.slice Ao19 t468.length co19) t468) ∧ Aside0 (Kd.R (Kd.int .i64) 3 wc w.heap.size (fun _ => True) (.slice Ao20 t469.length co20) t469) ∧ Aside0 (Kd.R (Kd.int .i64) 3 wc w.heap.size (fun _ => True) v480 t477) ∧ Aside0 (Kd.R (Kd.int .i64) 3 wc w.heap.size (fun _ => True) v482 t478) ∧ Aside0 (Kd.R (Kd.int .i64) 3 wc w.heap.size (fun _ => True) v487 t484) ∧ Aside0 (Kd.R (Kd.int .i64) 3 wc w.heap.size (fun _ => True) v489 t485) ∧ Aside0 (Below w.heap.size w wc))
                case first =>
                  as_aux_lemma =>
                   have H := HC197.out
                   clear HC197
                   by_cases c198 : t502 = true
                   · subst c198
                     have H1 : ((impl_RecoverState.f kj167 t500 t501).bind fun bt547 => (if bt547.2.2 = true then (if bt547.1 = (wrap64 (t527 + 1)) then ((laws_qInts.f kj167 bt547.2.1 t493).bind fun t552 => (if t552 = true then (laws_FnCrashes.j2 kj167 t467 t468 t469 t470 t477 t478 t479 t484 t485) else (some false))) else (some false)) else (some false))) = some r := by rw [if_pos rfl] at H; exact H
                     clear H
                     have H := H1
                     clear H1
                     replace H := Option.bind_eq_some_iff.mp H
                     obtain ⟨⟨t547, t548, t549⟩, A1990, H⟩ := H
                     try dsimp only at H
                     have A199 := Aside0.mk A1990
                     clear A1990
                     by_cases c200 : t549 = true
                     · subst c200
                       have H1 : (if t547 = (wrap64 (t527 + 1)) then ((laws_qInts.f kj167 t548 t493).bind fun t552 => (if t552 = true then (laws_FnCrashes.j2 kj167 t467 t468 t469 t470 t477 t478 t479 t484 t485) else (some false))) else (some false)) = some r := by rw [if_pos rfl] at H; exact H
                       clear H
                       have H := H1
                       clear H1
                       by_cases c201 : t547 = (wrap64 (t527 + 1))
                       · rw [if_pos c201] at H
                         have c201b0 : (t547 == (wrap64 (t527 + 1))) = true := beq_iff_eq.mpr c201
                         have c201b1 : (t547 != (wrap64 (t527 + 1))) = false := bne_eq_false_iff_eq.mpr c201
                         clear c201
                         (first|rw [c201b0]|(simp only [i64_w, i32_w]; rw [c201b0]) | skip)
                         replace H := Option.bind_eq_some_iff.mp H
                         obtain ⟨t552, A2020, H⟩ := H
                         try dsimp only at H
                         have A202 := Aside0.mk A2020
                         clear A2020
                         by_cases c203 : t552 = true
                         · subst c203
                           have H1 : (laws_FnCrashes.j2 kj167 t467 t468 t469 t470 t477 t478 t479 t484 t485) = some r := by rw [if_pos rfl] at H; exact H
                           clear H
                           have H := H1
                           clear H1
                           have H' := Aside0.mk H
                           clear H
                           obtain ⟨Ao204, co204, eo204⟩ := Kd.R_slice HO_18.out
                           subst eo204
                           obtain ⟨Ao205, co205, eo205⟩ := Kd.R_slice HO_19.out
                           subst eo205
                           go_wp2_with (first|((with_reducible refine gate_callee (f := 34) rfl ?_); refine goesL_ (some 260) rfl rfl Try.func34 (by kernel_rfl) rfl #[.slice Ao204 t500.length co204, .slice Ao205 t501.length co205] rfl (by (try simp only [List.map_toArray, List.map_cons, List.map_nil]); first | done | rfl|(simp only [List.length_drop, List.length_take]; rfl)) ?_; (with_reducible refine (impl_RecoverState.calls kj167 _ _ t500 _ _ t501 t547 t548 true _ ?side1 ?side2 ?side3 ?side4 A199.out).mono ?_);(case side1 => repeat (first|exact (Kd.R_reads' HO_18.out).2.2|(with_reducible refine Kd.C_alloc ?_ _)|(with_reducible refine Kd.C_drewN ?_ _)|(with_reducible refine Kd.C_drew ?_)));(case side2 => exact (Kd.R_reads' HO_18.out).2.1);(case side3 => repeat (first|exact (Kd.R_reads' HO_19.out).2.2|(with_reducible refine Kd.C_alloc ?_ _)|(with_reducible refine Kd.C_drewN ?_ _)|(with_reducible refine Kd.C_drew ?_)));(case side4 => exact (Kd.R_reads' HO_19.out).2.1); rintro e w206 ⟨v550, rfl, ho0, hb⟩; refine ⟨_, rfl, ?_⟩; have n0_ := Aside0.mk (Kd.Q_below (by (with_reducible repeat (first|apply Kd.Q_alloc|apply Kd.Q_drewN|apply Kd.Q_drew)); exact HO_5.out) hb); have n1_ := Aside0.mk (Kd.Q_below (by (with_reducible repeat (first|apply Kd.Q_alloc|apply Kd.Q_drewN|apply Kd.Q_drew)); exact HO_6.out) hb); have n2_ := Aside0.mk (Kd.R_below (by (with_reducible repeat (first|apply Kd.R_alloc|apply Kd.R_drewN|apply Kd.R_drew)); exact HO_7.out) hb); have n3_ := Aside0.mk (Kd.R_below (by (with_reducible repeat (first|apply Kd.R_alloc|apply Kd.R_drewN|apply Kd.R_drew)); exact HO_9.out) hb); have n4_ := Aside0.mk (Kd.R_below (by (with_reducible repeat (first|apply Kd.R_alloc|apply Kd.R_drewN|apply Kd.R_drew)); exact HO_10.out) hb); have n5_ := Aside0.mk (Kd.R_below (by (with_reducible repeat (first|apply Kd.R_alloc|apply Kd.R_drewN|apply Kd.R_drew)); exact HO_12.out) hb); have n6_ := Aside0.mk (Kd.R_below (by (with_reducible repeat (first|apply Kd.R_alloc|apply Kd.R_drewN|apply Kd.R_drew)); exact HO_13.out) hb); have n7_ := Aside0.mk (Kd.R_below (by (with_reducible repeat (first|apply Kd.R_alloc|apply Kd.R_drewN|apply Kd.R_drew)); exact HO_17.out) hb); have n8_ := Aside0.mk (Kd.R_below (by (with_reducible repeat (first|apply Kd.R_alloc|apply Kd.R_drewN|apply Kd.R_drew)); exact HO_18.out) hb); have n9_ := Aside0.mk (Kd.R_below (by (with_reducible repeat (first|apply Kd.R_alloc|apply Kd.R_drewN|apply Kd.R_drew)); exact HO_19.out) hb); have n10_ := Aside0.mk (Kd.R_lower ho0 (below_size (by repeat (first|(with_reducible first|exact HB.out|apply below_alloc|apply pw_below_drewN|apply below_drew1)|exact HB.out)))); have n11_ := Aside0.mk (below_step (by repeat (first|(with_reducible first|exact HB.out|apply below_alloc|apply pw_below_drewN|apply below_drew1)|exact HB.out)) hb); clear HO_5; clear HO_6; clear HO_7; clear HO_9; clear HO_10; clear HO_12; clear HO_13; clear HO_17; clear HO_18; clear HO_19; clear HB; have HO_5 := n0_; have HO_6 := n1_; have HO_7 := n2_; have HO_9 := n3_; have HO_10 := n4_; have HO_12 := n5_; have HO_13 := n6_; have HO_17 := n7_; have HO_18 := n8_; have HO_19 := n9_; have HO551 := n10_; have HB := n11_; clear n0_ n1_ n2_ n3_ n4_ n5_ n6_ n7_ n8_ n9_ n10_ n11_; (try clear hb); (try clear hb2); (try clear hk); (try clear hi); (try clear ho0); obtain ⟨Ao207, co207, eo207⟩ := Kd.R_slice HO551.out; subst eo207)|(go_at_call 20; (with_reducible refine (laws_qInts.calls kj167 _ _ t548 _ _ t493 true _ ?side1 ?side2 ?side3 ?side4 A202.out).mono ?_);(case side1 => repeat (first|exact (Kd.R_reads' HO551.out).2.2|(with_reducible refine Kd.C_alloc ?_ _)|(with_reducible refine Kd.C_drewN ?_ _)|(with_reducible refine Kd.C_drew ?_)));(case side2 => exact (Kd.R_reads' HO551.out).2.1);(case side3 => repeat (first|exact (Kd.R_reads' HO_17.out).2.2|(with_reducible refine Kd.C_alloc ?_ _)|(with_reducible refine Kd.C_drewN ?_ _)|(with_reducible refine Kd.C_drew ?_)));(case side4 => exact (Kd.R_reads' HO_17.out).2.1); rintro e w' ⟨rfl, ⟨nd, rfl⟩⟩))
                           all_goals
                            go_meet
                            case rel => exact ⟨_, H', ⟨by have := HJ15.out; have := HJ167.out; first | omega|exact Nat.le_refl _⟩, ⟨by (with_reducible repeat (first|apply Kd.Q_alloc|apply Kd.Q_drewN|apply Kd.Q_drew)); exact HO_5.out⟩, ⟨by (with_reducible repeat (first|apply Kd.Q_alloc|apply Kd.Q_drewN|apply Kd.Q_drew)); exact HO_6.out⟩, ⟨by (with_reducible repeat (first|apply Kd.R_alloc|apply Kd.R_drewN|apply Kd.R_drew)); exact HO_7.out⟩, ⟨by (with_reducible repeat (first|apply Kd.R_alloc|apply Kd.R_drewN|apply Kd.R_drew)); exact HO_9.out⟩, ⟨by (with_reducible repeat (first|apply Kd.R_alloc|apply Kd.R_drewN|apply Kd.R_drew)); exact HO_10.out⟩, ⟨by (with_reducible repeat (first|apply Kd.R_alloc|apply Kd.R_drewN|apply Kd.R_drew)); exact HO_12.out⟩, ⟨by (with_reducible repeat (first|apply Kd.R_alloc|apply Kd.R_drewN|apply Kd.R_drew)); exact HO_13.out⟩, ⟨by repeat (first|(with_reducible first|exact HB.out|apply below_alloc|apply pw_below_drewN|apply below_drew1)|exact HB.out)⟩⟩
                         · replace c203 := Bool.eq_false_iff.mpr c203
                           subst c203
                           have H1 : (some false) = some r := by rw [if_neg (show ¬ (false = true) by decide)] at H; exact H
                           clear H
                           have H := H1
                           clear H1
                           exact absurd ((Option.some.inj H).trans HR_.out) (by decide)
                       · rw [if_neg c201] at H
                         have c201b0 : (t547 == (wrap64 (t527 + 1))) = false := beq_eq_false_iff_ne.mpr c201
                         have c201b1 : (t547 != (wrap64 (t527 + 1))) = true := bne_iff_ne.mpr c201
                         (first|rw [c201b0]|(simp only [i64_w, i32_w]; rw [c201b0]) | skip)
                         exact absurd ((Option.some.inj H).trans HR_.out) (by decide)
                     · replace c200 := Bool.eq_false_iff.mpr c200
                       subst c200
                       have H1 : (some false) = some r := by rw [if_neg (show ¬ (false = true) by decide)] at H; exact H
                       clear H
                       have H := H1
                       clear H1
                       exact absurd ((Option.some.inj H).trans HR_.out) (by decide)
                   · replace c198 := Bool.eq_false_iff.mpr c198
                     subst c198
                     have H1 : (laws_FnCrashes.j2 kj167 t467 t468 t469 t470 t477 t478 t479 t484 t485) = some r := by rw [if_neg (show ¬ (false = true) by decide)] at H; exact H
                     clear H
                     have H := H1
                     clear H1
                     have H' := Aside0.mk H
                     clear H
                     go_wp2
                     all_goals
                      go_meet
                      case rel => exact ⟨_, H', ⟨by have := HJ15.out; have := HJ167.out; first | omega|exact Nat.le_refl _⟩, ⟨by (with_reducible repeat (first|apply Kd.Q_alloc|apply Kd.Q_drewN|apply Kd.Q_drew)); exact HO_5.out⟩, ⟨by (with_reducible repeat (first|apply Kd.Q_alloc|apply Kd.Q_drewN|apply Kd.Q_drew)); exact HO_6.out⟩, ⟨by (with_reducible repeat (first|apply Kd.R_alloc|apply Kd.R_drewN|apply Kd.R_drew)); exact HO_7.out⟩, ⟨by (with_reducible repeat (first|apply Kd.R_alloc|apply Kd.R_drewN|apply Kd.R_drew)); exact HO_9.out⟩, ⟨by (with_reducible repeat (first|apply Kd.R_alloc|apply Kd.R_drewN|apply Kd.R_drew)); exact HO_10.out⟩, ⟨by (with_reducible repeat (first|apply Kd.R_alloc|apply Kd.R_drewN|apply Kd.R_drew)); exact HO_12.out⟩, ⟨by (with_reducible repeat (first|apply Kd.R_alloc|apply Kd.R_drewN|apply Kd.R_drew)); exact HO_13.out⟩, ⟨by repeat (first|(with_reducible first|exact HB.out|apply below_alloc|apply pw_below_drewN|apply below_drew1)|exact HB.out)⟩⟩
                case rest =>
                  as_aux_lemma =>
                   clear HC197
                   try clear c1
                   try clear c2
                   try clear p2
                   try clear c3
                   try clear c3b0
                   try clear c4
                   try clear c5
                   try clear p5
                   try clear q5
                   try clear hx5
                   try clear c6
                   try clear p6
                   try clear c7
                   try clear c8
                   try clear c9
                   try clear c16
                   try clear c17
                   try clear c19
                   try clear c20
                   try clear c32
                   try clear c34
                   try clear c35
                   try clear c35b0
                   try clear c35b1
                   try clear c35b2
                   try clear c37
                   try clear c38
                   try clear c39
                   try clear c40
                   try clear c40b0
                   try clear c40b1
                   try clear c40b2
                   try clear c41
                   try clear c42
                   try clear c43
                   try clear c44
                   try clear c45
                   try clear c46
                   try clear c48
                   try clear c49
                   try clear c49b0
                   try clear c49b1
                   try clear c49b2
                   try clear c54
                   try clear p54
                   try clear q54
                   try clear hx54
                   try clear c58
                   try clear c58b0
                   try clear c58b1
                   try clear c59
                   try clear c59b0
                   try clear c59b1
                   try clear c59b2
                   try clear p64
                   try clear c68
                   try clear c68b0
                   try clear c68b1
                   try clear c69
                   try clear c69b0
                   try clear c69b1
                   try clear c69b2
                   try clear c78
                   try clear c78b0
                   try clear c78b1
                   try clear c80
                   try clear c81
                   try clear c81b0
                   try clear c81b1
                   try clear c81b2
                   try clear c92
                   try clear c167
                   try clear c169
                   try clear c170
                   try clear c170b0
                   try clear c171
                   try clear c171b0
                   try clear c173
                   try clear c174
                   try clear c174b0
                   try clear c174b1
                   try clear c176
                   try clear c198
                   try clear c200
                   try clear c201
                   try clear c201b0
                   try clear c201b1
                   try clear c203
                   try clear hx540_0
                   try clear p2
                   try clear p5
                   try clear p54
                   try clear p540
                   try clear p6
                   try clear p64
                   try clear q5
                   try clear q54
                   try clear q540
                   obtain ⟨kq, HA, HJ196, HO_5, HO_6, HO_7, HO_9, HO_10, HO_12, HO_13, HB⟩ := hcut
                   cases kq with
                   | zero => exact absurd HA.out (by simp [laws_FnCrashes.j2])
                   | succ kj196 =>
                     have H := HA.out
                     clear HA
                     simp only [laws_FnCrashes.j2] at H
                     by_cases c218 : t479 = true
                     · subst c218
                       have H1 : ((impl_RecoverState.f kj196 t467 t468).bind fun bt553 => ((spec_RecoverState.f kj196 t467 t468).bind fun bt558 => ((impl_RecoverState.f kj196 t477 t478).bind fun bt563 => ((spec_RecoverState.f kj196 t484 t485).bind fun bt568 => (if (bt553.2.2 != bt558.2.2) = true then (laws_FnCrashes.j3 kj196 t469 t470 bt558.1 bt558.2.1 bt558.2.2 bt568.1 bt568.2.1 bt568.2.2 true) else (if bt553.1 = bt558.1 then ((laws_qInts.f kj196 bt553.2.1 bt558.2.1).bind fun t573 => (if t573 = true then (if (bt563.2.2 != bt568.2.2) = true then (laws_FnCrashes.j3 kj196 t469 t470 bt558.1 bt558.2.1 bt558.2.2 bt568.1 bt568.2.1 bt568.2.2 true) else (if bt563.1 = bt568.1 then ((laws_qInts.f kj196 bt563.2.1 bt568.2.1).bind fun t574 => (laws_FnCrashes.j3 kj196 t469 t470 bt558.1 bt558.2.1 bt558.2.2 bt568.1 bt568.2.1 bt568.2.2 (!t574))) else (laws_FnCrashes.j3 kj196 t469 t470 bt558.1 bt558.2.1 bt558.2.2 bt568.1 bt568.2.1 bt568.2.2 true))) else (laws_FnCrashes.j3 kj196 t469 t470 bt558.1 bt558.2.1 bt558.2.2 bt568.1 bt568.2.1 bt568.2.2 true))) else (laws_FnCrashes.j3 kj196 t469 t470 bt558.1 bt558.2.1 bt558.2.2 bt568.1 bt568.2.1 bt568.2.2 true))))))) = some r := by rw [if_pos rfl] at H; exact H
                       clear H
                       have H := H1
                       clear H1
                       replace H := Option.bind_eq_some_iff.mp H
                       obtain ⟨⟨t553, t554, t555⟩, A2190, H⟩ := H
                       try dsimp only at H
                       have A219 := Aside0.mk A2190
                       clear A2190
                       replace H := Option.bind_eq_some_iff.mp H
                       obtain ⟨⟨t558, t559, t560⟩, A2200, H⟩ := H
                       try dsimp only at H
                       have A220 := Aside0.mk A2200
                       clear A2200
                       replace H := Option.bind_eq_some_iff.mp H
                       obtain ⟨⟨t563, t564, t565⟩, A2210, H⟩ := H
                       try dsimp only at H
                       have A221 := Aside0.mk A2210
                       clear A2210
                       replace H := Option.bind_eq_some_iff.mp H
                       obtain ⟨⟨t568, t569, t570⟩, A2220, H⟩ := H
                       try dsimp only at H
                       have A222 := Aside0.mk A2220
                       clear A2220
                       have HC223 := Aside0.mk H
                       clear H
                       go_upto_region 32 with (first|((with_reducible refine gate_callee (f := 34) rfl ?_); refine goesL_ (some 283) rfl rfl Try.func34 (by kernel_rfl) rfl #[.slice Ao18 t467.length co18, .slice Ao19 t468.length co19] rfl (by (try simp only [List.map_toArray, List.map_cons, List.map_nil]); first | done | rfl|(simp only [List.length_drop, List.length_take]; rfl)) ?_; (with_reducible refine (impl_RecoverState.calls kj196 _ _ t467 _ _ t468 t553 t554 t555 _ ?side1 ?side2 ?side3 ?side4 A219.out).mono ?_);(case side1 => repeat (first|exact (Kd.Q_reads' HO_5.out).2.2|(with_reducible refine Kd.C_alloc ?_ _)|(with_reducible refine Kd.C_drewN ?_ _)|(with_reducible refine Kd.C_drew ?_)));(case side2 => exact (Kd.Q_reads' HO_5.out).2.1);(case side3 => repeat (first|exact (Kd.Q_reads' HO_6.out).2.2|(with_reducible refine Kd.C_alloc ?_ _)|(with_reducible refine Kd.C_drewN ?_ _)|(with_reducible refine Kd.C_drew ?_)));(case side4 => exact (Kd.Q_reads' HO_6.out).2.1); rintro e w224 ⟨v556, rfl, ho0, hb⟩; refine ⟨_, rfl, ?_⟩; have n0_ := Aside0.mk (Kd.Q_below (by (with_reducible repeat (first|apply Kd.Q_alloc|apply Kd.Q_drewN|apply Kd.Q_drew)); exact HO_5.out) hb); have n1_ := Aside0.mk (Kd.Q_below (by (with_reducible repeat (first|apply Kd.Q_alloc|apply Kd.Q_drewN|apply Kd.Q_drew)); exact HO_6.out) hb); have n2_ := Aside0.mk (Kd.R_below (by (with_reducible repeat (first|apply Kd.R_alloc|apply Kd.R_drewN|apply Kd.R_drew)); exact HO_7.out) hb); have n3_ := Aside0.mk (Kd.R_below (by (with_reducible repeat (first|apply Kd.R_alloc|apply Kd.R_drewN|apply Kd.R_drew)); exact HO_9.out) hb); have n4_ := Aside0.mk (Kd.R_below (by (with_reducible repeat (first|apply Kd.R_alloc|apply Kd.R_drewN|apply Kd.R_drew)); exact HO_10.out) hb); have n5_ := Aside0.mk (Kd.R_below (by (with_reducible repeat (first|apply Kd.R_alloc|apply Kd.R_drewN|apply Kd.R_drew)); exact HO_12.out) hb); have n6_ := Aside0.mk (Kd.R_below (by (with_reducible repeat (first|apply Kd.R_alloc|apply Kd.R_drewN|apply Kd.R_drew)); exact HO_13.out) hb); have n7_ := Aside0.mk (Kd.R_lower ho0 (below_size (by repeat (first|(with_reducible first|exact HB.out|apply below_alloc|apply pw_below_drewN|apply below_drew1)|exact HB.out)))); have n8_ := Aside0.mk (below_step (by repeat (first|(with_reducible first|exact HB.out|apply below_alloc|apply pw_below_drewN|apply below_drew1)|exact HB.out)) hb); clear HO_5; clear HO_6; clear HO_7; clear HO_9; clear HO_10; clear HO_12; clear HO_13; clear HB; have HO_5 := n0_; have HO_6 := n1_; have HO_7 := n2_; have HO_9 := n3_; have HO_10 := n4_; have HO_12 := n5_; have HO_13 := n6_; have HO557 := n7_; have HB := n8_; clear n0_ n1_ n2_ n3_ n4_ n5_ n6_ n7_ n8_; (try clear hb); (try clear hb2); (try clear hk); (try clear hi); (try clear ho0))|((with_reducible refine gate_callee (f := 35) rfl ?_); refine goesL_ (some 290) rfl rfl Try.func35 (by kernel_rfl) rfl #[.slice Ao18 t467.length co18, .slice Ao19 t468.length co19] rfl (by (try simp only [List.map_toArray, List.map_cons, List.map_nil]); first | done | rfl|(simp only [List.length_drop, List.length_take]; rfl)) ?_; (with_reducible refine (spec_RecoverState.calls kj196 _ _ t467 _ _ t468 t558 t559 t560 _ ?side1 ?side2 ?side3 ?side4 A220.out).mono ?_);(case side1 => repeat (first|exact (Kd.Q_reads' HO_5.out).2.2|(with_reducible refine Kd.C_alloc ?_ _)|(with_reducible refine Kd.C_drewN ?_ _)|(with_reducible refine Kd.C_drew ?_)));(case side2 => exact (Kd.Q_reads' HO_5.out).2.1);(case side3 => repeat (first|exact (Kd.Q_reads' HO_6.out).2.2|(with_reducible refine Kd.C_alloc ?_ _)|(with_reducible refine Kd.C_drewN ?_ _)|(with_reducible refine Kd.C_drew ?_)));(case side4 => exact (Kd.Q_reads' HO_6.out).2.1); rintro e w225 ⟨v561, rfl, ho0, hb⟩; refine ⟨_, rfl, ?_⟩; have n0_ := Aside0.mk (Kd.Q_below (by (with_reducible repeat (first|apply Kd.Q_alloc|apply Kd.Q_drewN|apply Kd.Q_drew)); exact HO_5.out) hb); have n1_ := Aside0.mk (Kd.Q_below (by (with_reducible repeat (first|apply Kd.Q_alloc|apply Kd.Q_drewN|apply Kd.Q_drew)); exact HO_6.out) hb); have n2_ := Aside0.mk (Kd.R_below (by (with_reducible repeat (first|apply Kd.R_alloc|apply Kd.R_drewN|apply Kd.R_drew)); exact HO_7.out) hb); have n3_ := Aside0.mk (Kd.R_below (by (with_reducible repeat (first|apply Kd.R_alloc|apply Kd.R_drewN|apply Kd.R_drew)); exact HO_9.out) hb); have n4_ := Aside0.mk (Kd.R_below (by (with_reducible repeat (first|apply Kd.R_alloc|apply Kd.R_drewN|apply Kd.R_drew)); exact HO_10.out) hb); have n5_ := Aside0.mk (Kd.R_below (by (with_reducible repeat (first|apply Kd.R_alloc|apply Kd.R_drewN|apply Kd.R_drew)); exact HO_12.out) hb); have n6_ := Aside0.mk (Kd.R_below (by (with_reducible repeat (first|apply Kd.R_alloc|apply Kd.R_drewN|apply Kd.R_drew)); exact HO_13.out) hb); have n7_ := Aside0.mk (Kd.R_below (by (with_reducible repeat (first|apply Kd.R_alloc|apply Kd.R_drewN|apply Kd.R_drew)); exact HO557.out) hb); have n8_ := Aside0.mk (Kd.R_lower ho0 (below_size (by repeat (first|(with_reducible first|exact HB.out|apply below_alloc|apply pw_below_drewN|apply below_drew1)|exact HB.out)))); have n9_ := Aside0.mk (below_step (by repeat (first|(with_reducible first|exact HB.out|apply below_alloc|apply pw_below_drewN|apply below_drew1)|exact HB.out)) hb); clear HO_5; clear HO_6; clear HO_7; clear HO_9; clear HO_10; clear HO_12; clear HO_13; clear HO557; clear HB; have HO_5 := n0_; have HO_6 := n1_; have HO_7 := n2_; have HO_9 := n3_; have HO_10 := n4_; have HO_12 := n5_; have HO_13 := n6_; have HO557 := n7_; have HO562 := n8_; have HB := n9_; clear n0_ n1_ n2_ n3_ n4_ n5_ n6_ n7_ n8_ n9_; (try clear hb); (try clear hb2); (try clear hk); (try clear hi); (try clear ho0); obtain ⟨Ao226, co226, eo226⟩ := Kd.R_slice HO_9.out; subst eo226; obtain ⟨Ao227, co227, eo227⟩ := Kd.R_slice HO_10.out; subst eo227)|((with_reducible refine gate_callee (f := 34) rfl ?_); refine goesL_ (some 297) rfl rfl Try.func34 (by kernel_rfl) rfl #[.slice Ao226 t477.length co226, .slice Ao227 t478.length co227] rfl (by (try simp only [List.map_toArray, List.map_cons, List.map_nil]); first | done | rfl|(simp only [List.length_drop, List.length_take]; rfl)) ?_; (with_reducible refine (impl_RecoverState.calls kj196 _ _ t477 _ _ t478 t563 t564 t565 _ ?side1 ?side2 ?side3 ?side4 A221.out).mono ?_);(case side1 => repeat (first|exact (Kd.R_reads' HO_9.out).2.2|(with_reducible refine Kd.C_alloc ?_ _)|(with_reducible refine Kd.C_drewN ?_ _)|(with_reducible refine Kd.C_drew ?_)));(case side2 => exact (Kd.R_reads' HO_9.out).2.1);(case side3 => repeat (first|exact (Kd.R_reads' HO_10.out).2.2|(with_reducible refine Kd.C_alloc ?_ _)|(with_reducible refine Kd.C_drewN ?_ _)|(with_reducible refine Kd.C_drew ?_)));(case side4 => exact (Kd.R_reads' HO_10.out).2.1); rintro e w228 ⟨v566, rfl, ho0, hb⟩; refine ⟨_, rfl, ?_⟩; have n0_ := Aside0.mk (Kd.Q_below (by (with_reducible repeat (first|apply Kd.Q_alloc|apply Kd.Q_drewN|apply Kd.Q_drew)); exact HO_5.out) hb); have n1_ := Aside0.mk (Kd.Q_below (by (with_reducible repeat (first|apply Kd.Q_alloc|apply Kd.Q_drewN|apply Kd.Q_drew)); exact HO_6.out) hb); have n2_ := Aside0.mk (Kd.R_below (by (with_reducible repeat (first|apply Kd.R_alloc|apply Kd.R_drewN|apply Kd.R_drew)); exact HO_7.out) hb); have n3_ := Aside0.mk (Kd.R_below (by (with_reducible repeat (first|apply Kd.R_alloc|apply Kd.R_drewN|apply Kd.R_drew)); exact HO_9.out) hb); have n4_ := Aside0.mk (Kd.R_below (by (with_reducible repeat (first|apply Kd.R_alloc|apply Kd.R_drewN|apply Kd.R_drew)); exact HO_10.out) hb); have n5_ := Aside0.mk (Kd.R_below (by (with_reducible repeat (first|apply Kd.R_alloc|apply Kd.R_drewN|apply Kd.R_drew)); exact HO_12.out) hb); have n6_ := Aside0.mk (Kd.R_below (by (with_reducible repeat (first|apply Kd.R_alloc|apply Kd.R_drewN|apply Kd.R_drew)); exact HO_13.out) hb); have n7_ := Aside0.mk (Kd.R_below (by (with_reducible repeat (first|apply Kd.R_alloc|apply Kd.R_drewN|apply Kd.R_drew)); exact HO557.out) hb); have n8_ := Aside0.mk (Kd.R_below (by (with_reducible repeat (first|apply Kd.R_alloc|apply Kd.R_drewN|apply Kd.R_drew)); exact HO562.out) hb); have n9_ := Aside0.mk (Kd.R_lower ho0 (below_size (by repeat (first|(with_reducible first|exact HB.out|apply below_alloc|apply pw_below_drewN|apply below_drew1)|exact HB.out)))); have n10_ := Aside0.mk (below_step (by repeat (first|(with_reducible first|exact HB.out|apply below_alloc|apply pw_below_drewN|apply below_drew1)|exact HB.out)) hb); clear HO_5; clear HO_6; clear HO_7; clear HO_9; clear HO_10; clear HO_12; clear HO_13; clear HO557; clear HO562; clear HB; have HO_5 := n0_; have HO_6 := n1_; have HO_7 := n2_; have HO_9 := n3_; have HO_10 := n4_; have HO_12 := n5_; have HO_13 := n6_; have HO557 := n7_; have HO562 := n8_; have HO567 := n9_; have HB := n10_; clear n0_ n1_ n2_ n3_ n4_ n5_ n6_ n7_ n8_ n9_ n10_; (try clear hb); (try clear hb2); (try clear hk); (try clear hi); (try clear ho0); obtain ⟨Ao229, co229, eo229⟩ := Kd.R_slice HO_12.out; subst eo229; obtain ⟨Ao230, co230, eo230⟩ := Kd.R_slice HO_13.out; subst eo230)|((with_reducible refine gate_callee (f := 35) rfl ?_); refine goesL_ (some 304) rfl rfl Try.func35 (by kernel_rfl) rfl #[.slice Ao229 t484.length co229, .slice Ao230 t485.length co230] rfl (by (try simp only [List.map_toArray, List.map_cons, List.map_nil]); first | done | rfl|(simp only [List.length_drop, List.length_take]; rfl)) ?_; (with_reducible refine (spec_RecoverState.calls kj196 _ _ t484 _ _ t485 t568 t569 t570 _ ?side1 ?side2 ?side3 ?side4 A222.out).mono ?_);(case side1 => repeat (first|exact (Kd.R_reads' HO_12.out).2.2|(with_reducible refine Kd.C_alloc ?_ _)|(with_reducible refine Kd.C_drewN ?_ _)|(with_reducible refine Kd.C_drew ?_)));(case side2 => exact (Kd.R_reads' HO_12.out).2.1);(case side3 => repeat (first|exact (Kd.R_reads' HO_13.out).2.2|(with_reducible refine Kd.C_alloc ?_ _)|(with_reducible refine Kd.C_drewN ?_ _)|(with_reducible refine Kd.C_drew ?_)));(case side4 => exact (Kd.R_reads' HO_13.out).2.1); rintro e w231 ⟨v571, rfl, ho0, hb⟩; refine ⟨_, rfl, ?_⟩; have n0_ := Aside0.mk (Kd.Q_below (by (with_reducible repeat (first|apply Kd.Q_alloc|apply Kd.Q_drewN|apply Kd.Q_drew)); exact HO_5.out) hb); have n1_ := Aside0.mk (Kd.Q_below (by (with_reducible repeat (first|apply Kd.Q_alloc|apply Kd.Q_drewN|apply Kd.Q_drew)); exact HO_6.out) hb); have n2_ := Aside0.mk (Kd.R_below (by (with_reducible repeat (first|apply Kd.R_alloc|apply Kd.R_drewN|apply Kd.R_drew)); exact HO_7.out) hb); have n3_ := Aside0.mk (Kd.R_below (by (with_reducible repeat (first|apply Kd.R_alloc|apply Kd.R_drewN|apply Kd.R_drew)); exact HO_9.out) hb); have n4_ := Aside0.mk (Kd.R_below (by (with_reducible repeat (first|apply Kd.R_alloc|apply Kd.R_drewN|apply Kd.R_drew)); exact HO_10.out) hb); have n5_ := Aside0.mk (Kd.R_below (by (with_reducible repeat (first|apply Kd.R_alloc|apply Kd.R_drewN|apply Kd.R_drew)); exact HO_12.out) hb); have n6_ := Aside0.mk (Kd.R_below (by (with_reducible repeat (first|apply Kd.R_alloc|apply Kd.R_drewN|apply Kd.R_drew)); exact HO_13.out) hb); have n7_ := Aside0.mk (Kd.R_below (by (with_reducible repeat (first|apply Kd.R_alloc|apply Kd.R_drewN|apply Kd.R_drew)); exact HO557.out) hb); have n8_ := Aside0.mk (Kd.R_below (by (with_reducible repeat (first|apply Kd.R_alloc|apply Kd.R_drewN|apply Kd.R_drew)); exact HO562.out) hb); have n9_ := Aside0.mk (Kd.R_below (by (with_reducible repeat (first|apply Kd.R_alloc|apply Kd.R_drewN|apply Kd.R_drew)); exact HO567.out) hb); have n10_ := Aside0.mk (Kd.R_lower ho0 (below_size (by repeat (first|(with_reducible first|exact HB.out|apply below_alloc|apply pw_below_drewN|apply below_drew1)|exact HB.out)))); have n11_ := Aside0.mk (below_step (by repeat (first|(with_reducible first|exact HB.out|apply below_alloc|apply pw_below_drewN|apply below_drew1)|exact HB.out)) hb); clear HO_5; clear HO_6; clear HO_7; clear HO_9; clear HO_10; clear HO_12; clear HO_13; clear HO557; clear HO562; clear HO567; clear HB; have HO_5 := n0_; have HO_6 := n1_; have HO_7 := n2_; have HO_9 := n3_; have HO_10 := n4_; have HO_12 := n5_; have HO_13 := n6_; have HO557 := n7_; have HO562 := n8_; have HO567 := n9_; have HO572 := n10_; have HB := n11_; clear n0_ n1_ n2_ n3_ n4_ n5_ n6_ n7_ n8_ n9_ n10_ n11_; (try clear hb); (try clear hb2); (try clear hk); (try clear hi); (try clear ho0)))
                       (try simp only [Act.put, List.setIfInBounds_toArray, List.set_cons_zero, List.set_cons_succ])
                       go_cut [337] (fun v337 wc => ∃ (kq : Nat) (x337_222 : Bool), v337 = .bool x337_222 ∧ Aside0 (laws_FnCrashes.j3 kq t469 t470 t558 t559 t560 t568 t569 t570 x337_222 = some r) ∧ Aside0 (kq ≤ kj196) ∧ Aside0 (Kd.R (Kd.int .i64) 3 wc w.heap.size (fun _ => True) (.slice Ao20 t469.length co20) t469) ∧ Aside0 (Kd.R (Kd.int .i64) 3 wc w.heap.size (fun _ => True) v561 t559) ∧ Aside0 (Kd.R (Kd.int .i64) 3 wc w.heap.size (fun _ => True) v571 t569) ∧ Aside0 (Below w.heap.size w wc))
                       case first =>
                         as_aux_lemma =>
                          have H := HC223.out
                          clear HC223
                          by_cases c232 : (t555 != t560) = true
                          · rw [if_pos c232] at H
                            have c232b0 : (t555 != t560) = true := c232
                            (try (have c232b1 : decide (t555 = t560) = false := by simpa using c232))
                            (try (have c232b2 : (t555 == t560) = false := by simpa using c232))
                            (try (have c232b3 : ¬ (t555 = t560) := by simpa using c232))
                            clear c232
                            (first|rw [c232b0]|(simp only [i64_w, i32_w]; rw [c232b0]) | skip)
                            have H' := Aside0.mk H
                            clear H
                            go_wp2
                            all_goals
                             go_meet
                             case rel => exact ⟨_, (true), (by first | rfl|(simp;done)|(simp [*];done)), H', ⟨by have := HJ15.out; have := HJ167.out; have := HJ196.out; first | omega|exact Nat.le_refl _⟩, ⟨by (with_reducible repeat (first|apply Kd.R_alloc|apply Kd.R_drewN|apply Kd.R_drew)); exact HO_7.out⟩, ⟨by (with_reducible repeat (first|apply Kd.R_alloc|apply Kd.R_drewN|apply Kd.R_drew)); exact HO562.out⟩, ⟨by (with_reducible repeat (first|apply Kd.R_alloc|apply Kd.R_drewN|apply Kd.R_drew)); exact HO572.out⟩, ⟨by repeat (first|(with_reducible first|exact HB.out|apply below_alloc|apply pw_below_drewN|apply below_drew1)|exact HB.out)⟩⟩
                          · rw [if_neg c232] at H
                            have c232b0 : (t555 != t560) = false := by simpa using c232
                            (try (have c232b1 : decide (t555 = t560) = true := by simpa using c232))
                            (try (have c232b2 : (t555 == t560) = true := by simpa using c232))
                            clear c232
                            (first|rw [c232b0]|(simp only [i64_w, i32_w]; rw [c232b0]) | skip)
                            by_cases c233 : t553 = t558
                            · rw [if_pos c233] at H
                              have c233b0 : (t553 == t558) = true := beq_iff_eq.mpr c233
                              have c233b1 : (t553 != t558) = false := bne_eq_false_iff_eq.mpr c233
                              clear c233
                              replace H := Option.bind_eq_some_iff.mp H
                              obtain ⟨t573, A2340, H⟩ := H
                              try dsimp only at H
                              have A234 := Aside0.mk A2340
                              clear A2340
                              by_cases c235 : t573 = true
                              · subst c235
                                have H1 : (if (t565 != t570) = true then (laws_FnCrashes.j3 kj196 t469 t470 t558 t559 t560 t568 t569 t570 true) else (if t563 = t568 then ((laws_qInts.f kj196 t564 t569).bind fun t574 => (laws_FnCrashes.j3 kj196 t469 t470 t558 t559 t560 t568 t569 t570 (!t574))) else (laws_FnCrashes.j3 kj196 t469 t470 t558 t559 t560 t568 t569 t570 true))) = some r := by rw [if_pos rfl] at H; exact H
                                clear H
                                have H := H1
                                clear H1
                                by_cases c236 : (t565 != t570) = true
                                · rw [if_pos c236] at H
                                  have c236b0 : (t565 != t570) = true := c236
                                  (try (have c236b1 : decide (t565 = t570) = false := by simpa using c236))
                                  (try (have c236b2 : (t565 == t570) = false := by simpa using c236))
                                  (try (have c236b3 : ¬ (t565 = t570) := by simpa using c236))
                                  clear c236
                                  exact (laws_FnCrashes.j3_true (H.trans (congrArg some HR_.out))).elim
                                · rw [if_neg c236] at H
                                  have c236b0 : (t565 != t570) = false := by simpa using c236
                                  (try (have c236b1 : decide (t565 = t570) = true := by simpa using c236))
                                  (try (have c236b2 : (t565 == t570) = true := by simpa using c236))
                                  clear c236
                                  by_cases c239 : t563 = t568
                                  · rw [if_pos c239] at H
                                    have c239b0 : (t563 == t568) = true := beq_iff_eq.mpr c239
                                    have c239b1 : (t563 != t568) = false := bne_eq_false_iff_eq.mpr c239
                                    clear c239
                                    replace H := Option.bind_eq_some_iff.mp H
                                    obtain ⟨t574, A2400, H⟩ := H
                                    try dsimp only at H
                                    have A240 := Aside0.mk A2400
                                    clear A2400
                                    have H' := Aside0.mk H
                                    clear H
                                    obtain ⟨Ao241, co241, eo241⟩ := Kd.R_slice HO557.out
                                    subst eo241
                                    obtain ⟨Ao242, co242, eo242⟩ := Kd.R_slice HO562.out
                                    subst eo242
                                    go_wp2_with (first|(go_at_call 20; (with_reducible refine (laws_qInts.calls kj196 _ _ t554 _ _ t559 true _ ?side1 ?side2 ?side3 ?side4 A234.out).mono ?_);(case side1 => repeat (first|exact (Kd.R_reads' HO557.out).2.2|(with_reducible refine Kd.C_alloc ?_ _)|(with_reducible refine Kd.C_drewN ?_ _)|(with_reducible refine Kd.C_drew ?_)));(case side2 => exact (Kd.R_reads' HO557.out).2.1);(case side3 => repeat (first|exact (Kd.R_reads' HO562.out).2.2|(with_reducible refine Kd.C_alloc ?_ _)|(with_reducible refine Kd.C_drewN ?_ _)|(with_reducible refine Kd.C_drew ?_)));(case side4 => exact (Kd.R_reads' HO562.out).2.1); rintro e w' ⟨rfl, ⟨nd, rfl⟩⟩; obtain ⟨Ao243, co243, eo243⟩ := Kd.R_slice HO567.out; subst eo243; obtain ⟨Ao244, co244, eo244⟩ := Kd.R_slice HO572.out; subst eo244)|(go_at_call 20; (with_reducible refine (laws_qInts.calls kj196 _ _ t564 _ _ t569 t574 _ ?side1 ?side2 ?side3 ?side4 A240.out).mono ?_);(case side1 => repeat (first|exact (Kd.R_reads' HO567.out).2.2|(with_reducible refine Kd.C_alloc ?_ _)|(with_reducible refine Kd.C_drewN ?_ _)|(with_reducible refine Kd.C_drew ?_)));(case side2 => exact (Kd.R_reads' HO567.out).2.1);(case side3 => repeat (first|exact (Kd.R_reads' HO572.out).2.2|(with_reducible refine Kd.C_alloc ?_ _)|(with_reducible refine Kd.C_drewN ?_ _)|(with_reducible refine Kd.C_drew ?_)));(case side4 => exact (Kd.R_reads' HO572.out).2.1); rintro e w' ⟨rfl, ⟨nd, rfl⟩⟩))
                                    all_goals
                                     go_meet
                                     case rel => exact ⟨_, (!t574), (by first | rfl|(simp;done)|(simp [*];done)), H', ⟨by have := HJ15.out; have := HJ167.out; have := HJ196.out; first | omega|exact Nat.le_refl _⟩, ⟨by (with_reducible repeat (first|apply Kd.R_alloc|apply Kd.R_drewN|apply Kd.R_drew)); exact HO_7.out⟩, ⟨by (with_reducible repeat (first|apply Kd.R_alloc|apply Kd.R_drewN|apply Kd.R_drew)); exact HO562.out⟩, ⟨by (with_reducible repeat (first|apply Kd.R_alloc|apply Kd.R_drewN|apply Kd.R_drew)); exact HO572.out⟩, ⟨by repeat (first|(with_reducible first|exact HB.out|apply below_alloc|apply pw_below_drewN|apply below_drew1)|exact HB.out)⟩⟩
                                  · rw [if_neg c239] at H
                                    have c239b0 : (t563 == t568) = false := beq_eq_false_iff_ne.mpr c239
                                    have c239b1 : (t563 != t568) = true := bne_iff_ne.mpr c239
                                    exact (laws_FnCrashes.j3_true (H.trans (congrArg some HR_.out))).elim
                              · replace c235 := Bool.eq_false_iff.mpr c235
                                subst c235
                                have H1 : (laws_FnCrashes.j3 kj196 t469 t470 t558 t559 t560 t568 t569 t570 true) = some r := by rw [if_neg (show ¬ (false = true) by decide)] at H; exact H
                                clear H
                                have H := H1
                                clear H1
                                exact (laws_FnCrashes.j3_true (H.trans (congrArg some HR_.out))).elim
                            · rw [if_neg c233] at H
                              have c233b0 : (t553 == t558) = false := beq_eq_false_iff_ne.mpr c233
                              have c233b1 : (t553 != t558) = true := bne_iff_ne.mpr c233
                              have H' := Aside0.mk H
                              clear H
                              go_wp2
                              all_goals
                               go_meet
                               case rel => exact ⟨_, (true), (by first | rfl|(simp;done)|(simp [*];done)), H', ⟨by have := HJ15.out; have := HJ167.out; have := HJ196.out; first | omega|exact Nat.le_refl _⟩, ⟨by (with_reducible repeat (first|apply Kd.R_alloc|apply Kd.R_drewN|apply Kd.R_drew)); exact HO_7.out⟩, ⟨by (with_reducible repeat (first|apply Kd.R_alloc|apply Kd.R_drewN|apply Kd.R_drew)); exact HO562.out⟩, ⟨by (with_reducible repeat (first|apply Kd.R_alloc|apply Kd.R_drewN|apply Kd.R_drew)); exact HO572.out⟩, ⟨by repeat (first|(with_reducible first|exact HB.out|apply below_alloc|apply pw_below_drewN|apply below_drew1)|exact HB.out)⟩⟩
                       case rest =>
                         as_aux_lemma =>
                          clear HC223
                          try clear c1
                          try clear c2
                          try clear p2
                          try clear c3
                          try clear c3b0
                          try clear c4
                          try clear c5
                          try clear p5
                          try clear q5
                          try clear hx5
                          try clear c6
                          try clear p6
                          try clear c7
                          try clear c8
                          try clear c9
                          try clear c16
                          try clear c17
                          try clear c19
                          try clear c20
                          try clear c21
                          try clear c23
                          try clear c32
                          try clear c34
                          try clear c35
                          try clear c35b0
                          try clear c35b1
                          try clear c35b2
                          try clear c37
                          try clear c38
                          try clear c39
                          try clear c40
                          try clear c40b0
                          try clear c40b1
                          try clear c40b2
                          try clear c41
                          try clear c42
                          try clear c43
                          try clear c44
                          try clear c45
                          try clear c46
                          try clear c48
                          try clear c49
                          try clear c49b0
                          try clear c49b1
                          try clear c49b2
                          try clear c54
                          try clear p54
                          try clear q54
                          try clear hx54
                          try clear c58
                          try clear c58b0
                          try clear c58b1
                          try clear c59
                          try clear c59b0
                          try clear c59b1
                          try clear c59b2
                          try clear p64
                          try clear c68
                          try clear c68b0
                          try clear c68b1
                          try clear c69
                          try clear c69b0
                          try clear c69b1
                          try clear c69b2
                          try clear c78
                          try clear c78b0
                          try clear c78b1
                          try clear c80
                          try clear c81
                          try clear c81b0
                          try clear c81b1
                          try clear c81b2
                          try clear c92
                          try clear c167
                          try clear c169
                          try clear c170
                          try clear c170b0
                          try clear c171
                          try clear c171b0
                          try clear c173
                          try clear c174
                          try clear c174b0
                          try clear c174b1
                          try clear c176
                          try clear c198
                          try clear c200
                          try clear c201
                          try clear c201b0
                          try clear c201b1
                          try clear c203
                          try clear c218
                          try clear c232
                          try clear c232b0
                          try clear c232b1
                          try clear c232b2
                          try clear c233
                          try clear c233b0
                          try clear c233b1
                          try clear c235
                          try clear c236
                          try clear c236b0
                          try clear c236b1
                          try clear c236b2
                          try clear c239
                          try clear c239b0
                          try clear c239b1
                          try clear hx540_0
                          try clear p2
                          try clear p5
                          try clear p54
                          try clear p540
                          try clear p6
                          try clear p64
                          try clear q5
                          try clear q54
                          try clear q540
                          obtain ⟨kq, x337_222, rfl, HA, HJ222, HO_7, HO_49, HO_55, HB⟩ := hcut
                          cases kq with
                          | zero => exact absurd HA.out (by simp [laws_FnCrashes.j3])
                          | succ kj222 =>
                            have H := HA.out
                            clear HA
                            simp only [laws_FnCrashes.j3] at H
                            by_cases c249 : x337_222 = true
                            · subst c249
                              have H1 : (some false) = some r := by rw [if_pos rfl] at H; exact H
                              clear H
                              have H := H1
                              clear H1
                              exact absurd ((Option.some.inj H).trans HR_.out) (by decide)
                            · replace c249 := Bool.eq_false_iff.mpr c249
                              subst c249
                              have H1 : (if t470 = 16 then (if t570 = true then (if t568 = (wrap64 (t558 + 1)) then ((laws_qInts.f kj222 t569 t469).bind fun t575 => (some t575)) else (some false)) else (some false)) else (if (t570 == t560) = true then (if t568 = t558 then ((laws_qInts.f kj222 t569 t559).bind fun t576 => (some t576)) else (some false)) else (some false))) = some r := by rw [if_neg (show ¬ (false = true) by decide)] at H; exact H
                              clear H
                              have H := H1
                              clear H1
                              by_cases c250 : t470 = 16
                              · rw [if_pos c250] at H
                                have c250b0 : (t470 == 16) = true := beq_iff_eq.mpr c250
                                have c250b1 : (t470 != 16) = false := bne_eq_false_iff_eq.mpr c250
                                clear c250
                                by_cases c251 : t570 = true
                                · subst c251
                                  have H1 : (if t568 = (wrap64 (t558 + 1)) then ((laws_qInts.f kj222 t569 t469).bind fun t575 => (some t575)) else (some false)) = some r := by rw [if_pos rfl] at H; exact H
                                  clear H
                                  have H := H1
                                  clear H1
                                  by_cases c252 : t568 = (wrap64 (t558 + 1))
                                  · rw [if_pos c252] at H
                                    have c252b0 : (t568 == (wrap64 (t558 + 1))) = true := beq_iff_eq.mpr c252
                                    have c252b1 : (t568 != (wrap64 (t558 + 1))) = false := bne_eq_false_iff_eq.mpr c252
                                    clear c252
                                    replace H := Option.bind_eq_some_iff.mp H
                                    obtain ⟨t575, A2530, H⟩ := H
                                    try dsimp only at H
                                    have A253 := Aside0.mk A2530
                                    clear A2530
                                    obtain rfl := Option.some.inj H
                                    obtain ⟨Ao254, co254, eo254⟩ := Kd.R_slice HO_55.out
                                    subst eo254
                                    go_wp2_with (first|(go_at_call 20; (with_reducible refine (laws_qInts.calls kj222 _ _ t569 _ _ t469 t575 _ ?side1 ?side2 ?side3 ?side4 A253.out).mono ?_);(case side1 => repeat (first|exact (Kd.R_reads' HO_55.out).2.2|(with_reducible refine Kd.C_alloc ?_ _)|(with_reducible refine Kd.C_drewN ?_ _)|(with_reducible refine Kd.C_drew ?_)));(case side2 => exact (Kd.R_reads' HO_55.out).2.1);(case side3 => repeat (first|exact (Kd.R_reads' HO_7.out).2.2|(with_reducible refine Kd.C_alloc ?_ _)|(with_reducible refine Kd.C_drewN ?_ _)|(with_reducible refine Kd.C_drew ?_)));(case side4 => exact (Kd.R_reads' HO_7.out).2.1); rintro e w' ⟨rfl, ⟨nd, rfl⟩⟩))
                                    go_ret
                                    exact ⟨by first | rfl|(simp [errW_none, errW_some] <;> rfl)|(simp [*, errW_none, errW_some] <;> rfl), by repeat (first|(with_reducible first|exact HB.out|apply below_alloc|apply pw_below_drewN|apply below_drew1)|exact HB.out)⟩
                                  · rw [if_neg c252] at H
                                    have c252b0 : (t568 == (wrap64 (t558 + 1))) = false := beq_eq_false_iff_ne.mpr c252
                                    have c252b1 : (t568 != (wrap64 (t558 + 1))) = true := bne_iff_ne.mpr c252
                                    exact absurd ((Option.some.inj H).trans HR_.out) (by decide)
                                · replace c251 := Bool.eq_false_iff.mpr c251
                                  subst c251
                                  have H1 : (some false) = some r := by rw [if_neg (show ¬ (false = true) by decide)] at H; exact H
                                  clear H
                                  have H := H1
                                  clear H1
                                  exact absurd ((Option.some.inj H).trans HR_.out) (by decide)
                              · rw [if_neg c250] at H
                                have c250b0 : (t470 == 16) = false := beq_eq_false_iff_ne.mpr c250
                                have c250b1 : (t470 != 16) = true := bne_iff_ne.mpr c250
                                by_cases c255 : (t570 == t560) = true
                                · rw [if_pos c255] at H
                                  have c255b0 : (t570 == t560) = true := c255
                                  (try (have c255b1 : decide (t570 = t560) = true := by simpa using c255))
                                  (try (have c255b2 : (t570 == t560) = true := by simpa using c255))
                                  clear c255
                                  by_cases c256 : t568 = t558
                                  · rw [if_pos c256] at H
                                    have c256b0 : (t568 == t558) = true := beq_iff_eq.mpr c256
                                    have c256b1 : (t568 != t558) = false := bne_eq_false_iff_eq.mpr c256
                                    clear c256
                                    replace H := Option.bind_eq_some_iff.mp H
                                    obtain ⟨t576, A2570, H⟩ := H
                                    try dsimp only at H
                                    have A257 := Aside0.mk A2570
                                    clear A2570
                                    obtain rfl := Option.some.inj H
                                    obtain ⟨Ao258, co258, eo258⟩ := Kd.R_slice HO_55.out
                                    subst eo258
                                    obtain ⟨Ao259, co259, eo259⟩ := Kd.R_slice HO_49.out
                                    subst eo259
                                    go_wp2_with (first|(go_at_call 20; (with_reducible refine (laws_qInts.calls kj222 _ _ t569 _ _ t559 t576 _ ?side1 ?side2 ?side3 ?side4 A257.out).mono ?_);(case side1 => repeat (first|exact (Kd.R_reads' HO_55.out).2.2|(with_reducible refine Kd.C_alloc ?_ _)|(with_reducible refine Kd.C_drewN ?_ _)|(with_reducible refine Kd.C_drew ?_)));(case side2 => exact (Kd.R_reads' HO_55.out).2.1);(case side3 => repeat (first|exact (Kd.R_reads' HO_49.out).2.2|(with_reducible refine Kd.C_alloc ?_ _)|(with_reducible refine Kd.C_drewN ?_ _)|(with_reducible refine Kd.C_drew ?_)));(case side4 => exact (Kd.R_reads' HO_49.out).2.1); rintro e w' ⟨rfl, ⟨nd, rfl⟩⟩))
                                    go_ret
                                    exact ⟨by first | rfl|(simp [errW_none, errW_some] <;> rfl)|(simp [*, errW_none, errW_some] <;> rfl), by repeat (first|(with_reducible first|exact HB.out|apply below_alloc|apply pw_below_drewN|apply below_drew1)|exact HB.out)⟩
                                  · rw [if_neg c256] at H
                                    have c256b0 : (t568 == t558) = false := beq_eq_false_iff_ne.mpr c256
                                    have c256b1 : (t568 != t558) = true := bne_iff_ne.mpr c256
                                    exact absurd ((Option.some.inj H).trans HR_.out) (by decide)
                                · rw [if_neg c255] at H
                                  have c255b0 : (t570 == t560) = false := by simpa using c255
                                  (try (have c255b1 : decide (t570 = t560) = false := by simpa using c255))
                                  (try (have c255b2 : (t570 == t560) = false := by simpa using c255))
                                  (try (have c255b3 : ¬ (t570 = t560) := by simpa using c255))
                                  clear c255
                                  exact absurd ((Option.some.inj H).trans HR_.out) (by decide)
                     · replace c218 := Bool.eq_false_iff.mpr c218
                       subst c218
                       have H1 : (some true) = some r := by rw [if_neg (show ¬ (false = true) by decide)] at H; exact H
                       clear H
                       have H := H1
                       clear H1
                       obtain rfl := Option.some.inj H
                       go_wp2
                       go_ret
                       exact ⟨by first | rfl|(simp [errW_none, errW_some] <;> rfl)|(simp [*, errW_none, errW_some] <;> rfl), by repeat (first|(with_reducible first|exact HB.out|apply below_alloc|apply pw_below_drewN|apply below_drew1)|exact HB.out)⟩

/-- THE ONE PURE STATEMENT of laws_FnCrashes: yours. -/
def laws_FnCrashes.Pure : Prop := ∀ (l0 : List Int) (l1 : List Int), l0.length ≤ maxLen → l0.length * 1 ≤ 140737488351232 → (∀ x ∈ l0, (Lit.int .u8 x).wf = true) → l1.length ≤ maxLen → l1.length * 1 ≤ 140737488351232 → (∀ x ∈ l1, (Lit.int .u8 x).wf = true) → ∃ k, laws_FnCrashes.f k l0 l1 = some true
theorem laws_FnCrashes.walk (P : laws_FnCrashes.Pure) (a0 : Option Addr) (len0 cap0 : Nat) (z0 : List Int) (a1 : Option Addr) (len1 cap1 : Nat) (z1 : List Int) (w : World) (w0 : (a0 = none ∧ len0 = 0 ∧ cap0 = 0 ∧ z0 = []) ∨ ∃ x, a0 = some x ∧ len0 ≤ cap0 ∧ cap0 ≤ maxLen ∧ z0.length = cap0 ∧ (∀ i, i < z0.length → w.cell? (x.add i) = some (.int .u8 (z0.getD i 0))) ∧ ∀ n ∈ z0, (Lit.int .u8 n).wf = true) (y0 : len0 * 1 ≤ 140737488351232) (w1 : (a1 = none ∧ len1 = 0 ∧ cap1 = 0 ∧ z1 = []) ∨ ∃ x, a1 = some x ∧ len1 ≤ cap1 ∧ cap1 ≤ maxLen ∧ z1.length = cap1 ∧ (∀ i, i < z1.length → w.cell? (x.add i) = some (.int .u8 (z1.getD i 0))) ∧ ∀ n ∈ z1, (Lit.int .u8 n).wf = true) (y1 : len1 * 1 ≤ 140737488351232) :
    Calls Try.prog 5 #[.slice a0 len0 cap0, .slice a1 len1 cap1] w fun e w' => e = .returned (.bool true) ∧ Below w.heap.size w w' := by
  obtain ⟨l0, rfl, hr0, hm0, hw0, hc0⟩ := ReadsInt.ofRowC w0
  obtain ⟨l1, rfl, hr1, hm1, hw1, hc1⟩ := ReadsInt.ofRowC w1
  obtain ⟨k, h⟩ := P l0 l1 hm0 y0 hw0 hm1 y1 hw1
  refine (laws_FnCrashes.calls k _ _ l0 _ _ l1 true w (Kd.C_of_reads (d := (0 : Int)) (h1 := fun _ => rfl) hr0) hc0 (Kd.C_of_reads (d := (0 : Int)) (h1 := fun _ => rfl) hr1) hc1 h rfl).mono ?_
  rintro e w' ⟨rfl, hd⟩
  exact ⟨rfl, hd⟩

end Go.Proofs.Ytlbbkepkincleaa.QFnCrashes
