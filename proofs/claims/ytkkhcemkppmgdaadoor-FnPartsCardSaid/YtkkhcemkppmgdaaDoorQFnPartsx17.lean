/- Written by a program of this session (the kit's printer, with leaf contracts proved by hand put in): what each Go function computes, and that the call computes it. No condition but those that each theorem names. -/
import Derived.Test.YtkkhcemkppmgdaaDoorQFnPartsx0
import Derived.Test.YtkkhcemkppmgdaaDoorQFnPartsx2
import Derived.Test.YtkkhcemkppmgdaaDoorQFnPartsx4
import Derived.Test.YtkkhcemkppmgdaaDoorQFnPartsx5
import Derived.Test.YtkkhcemkppmgdaaDoorQFnPartsx6
import Derived.Test.YtkkhcemkppmgdaaDoorQFnPartsx13
import Derived.Test.YtkkhcemkppmgdaaDoorQFnPartsx14
import Derived.Test.YtkkhcemkppmgdaaDoorQFnPartsx15
import Derived.Test.YtkkhcemkppmgdaaDoorQFnPartsx16
namespace Go.Proofs.YtkkhcemkppmgdaaDoor.QFnParts
open Go.RowKit Go.Proofs.YtkkhcemkppmgdaaDoorW.PrintWords Go.Proofs.YtkkhcemkppmgdaaDoorW.PrintLast Go.Proofs.YtkkhcemkppmgdaaDoorW.PrintMore
attribute [local go_sem] max2_int min2_int max_two min_two max_three min_three max_four min_four   -- for this text's walks alone
set_option linter.unusedVariables false
set_option linter.unusedSimpArgs false

/-! ### laws_FnParts: function 4 -/
mutual
def laws_FnParts.j0 : Nat → List Int → List (S93) → Int → Int → List (S93) → Bool → Bool → Option (Bool)
 | 0, _, _, _, _, _, _, _ => none
 | k + 1, x1, x5, x6, x7, x8, x9, x91 => if x91 = true then (some false) else (if x9 = true then ((impl_LengthOfEdition.f k x8).bind fun bt589 => (if bt589.2 = true then (laws_FnParts.j1 k x1 x5 x6 x7 x8 (bt589.1 != (wrap64 (x7 - x6)))) else (laws_FnParts.j1 k x1 x5 x6 x7 x8 true))) else (laws_FnParts.j3 k x1))
def laws_FnParts.j3 : Nat → List Int → Option (Bool)
 | 0, _ => none
 | k + 1, x1 => (spec_DrawUsedSources.f k x1).bind fun t600 => ((impl_UsedSources.f k t600).bind fun bt603 => ((spec_UsedSources.f k t600).bind fun bt607 => ((impl_LengthOfEdition.f k t600).bind fun bt611 => ((spec_LengthOfEdition.f k t600).bind fun bt613 => ((impl_PartsText.f k t600).bind fun bt615 => ((spec_PartsText.f k t600).bind fun bt617 => (if (bt603.2 != bt607.2) = true then (laws_FnParts.j4 k x1 t600 bt603.2 bt607.1 bt613.1 true) else ((laws_sameInts.f k bt603.1 bt607.1).bind fun t619 => (if t619 = true then (if (bt611.2 != bt613.2) = true then (laws_FnParts.j4 k x1 t600 bt603.2 bt607.1 bt613.1 true) else (if bt611.1 = bt613.1 then (if (bt615.2 != bt617.2) = true then (laws_FnParts.j4 k x1 t600 bt603.2 bt607.1 bt613.1 true) else (if bt615.1.toList = bt617.1.toList then (if (bt611.2 != bt603.2) = true then (laws_FnParts.j4 k x1 t600 bt603.2 bt607.1 bt613.1 true) else (if (bt615.2 != bt603.2) = true then (laws_FnParts.j4 k x1 t600 bt603.2 bt607.1 bt613.1 true) else ((impl_AreParts.f k t600 4).bind fun t620 => (laws_FnParts.j4 k x1 t600 bt603.2 bt607.1 bt613.1 (t620 != bt603.2))))) else (laws_FnParts.j4 k x1 t600 bt603.2 bt607.1 bt613.1 true))) else (laws_FnParts.j4 k x1 t600 bt603.2 bt607.1 bt613.1 true))) else (laws_FnParts.j4 k x1 t600 bt603.2 bt607.1 bt613.1 true))))))))))
def laws_FnParts.j4 : Nat → List Int → List (S93) → Bool → List Int → Int → Bool → Option (Bool)
 | 0, _, _, _, _, _, _ => none
 | k + 1, x1, x25, x27, x28, x32, x249 => if x249 = true then (some false) else (if x27 = true then (laws_FnParts.l1 k x1 x25 x28 x32 0 0) else (laws_FnParts.j6 k x1))
def laws_FnParts.j6 : Nat → List Int → Option (Bool)
 | 0, _ => none
 | k + 1, x1 => (spec_DrawSourceAt.f k x1).bind fun bt626 => ((impl_SourceAt.f k bt626.1 bt626.2).bind fun bt630 => ((spec_SourceAt.f k bt626.1 bt626.2).bind fun bt633 => ((spec_DrawStepsFrom.f k x1).bind fun bt636 => ((impl_StepsFrom.f k bt636.1 bt636.2).bind fun bt640 => ((spec_StepsFrom.f k bt636.1 bt636.2).bind fun bt642 => ((spec_DrawAreParts.f k x1).bind fun bt644 => (if (bt630.2.2 == bt633.2.2) = true then (if bt630.1 = bt633.1 then (if bt630.2.1 = bt633.2.1 then (if (bt640.2 == bt642.2) = true then (if bt640.1 = bt642.1 then ((impl_AreParts.f k bt644.1 bt644.2).bind fun t648 => ((spec_AreParts.f k bt644.1 bt644.2).bind fun t649 => (some (t648 == t649)))) else (some false)) else (some false)) else (some false)) else (some false)) else (some false))))))))
def laws_FnParts.l1 : Nat → List Int → List (S93) → List Int → Int → Int → Int → Option (Bool)
 | 0, _, _, _, _, _, _ => none
 | k + 1, x1, x25, x28, x32, x38, x39 => if x39 < 4 then ((impl_StepsFrom.f k x25 x39).bind fun bt621 => ((spec_StepsFrom.f k x25 x39).bind fun bt623 => (if bt621.2 = true then (if bt623.2 = true then (if bt621.1 = bt623.1 then ((laws_pIn.f k x28 x39).bind fun t625 => (if (t625 != (decide (bt623.1 > 0))) = true then (some false) else (laws_FnParts.l1 k x1 x25 x28 x32 (wrap64 (x38 + bt623.1)) (wrap64 (x39 + 1))))) else (some false)) else (some false)) else (some false)))) else (if x38 = x32 then (laws_FnParts.j6 k x1) else (some false))
def laws_FnParts.j1 : Nat → List Int → List (S93) → Int → Int → List (S93) → Bool → Option (Bool)
 | 0, _, _, _, _, _, _ => none
 | k + 1, x1, x5, x6, x7, x8, x106 => if x106 = true then (some false) else (laws_FnParts.l0 k x1 x5 x6 x7 x8 0)
def laws_FnParts.l0 : Nat → List Int → List (S93) → Int → Int → List (S93) → Int → Option (Bool)
 | 0, _, _, _, _, _, _ => none
 | k + 1, x1, x5, x6, x7, x8, x14 => if x14 ≤ 10 then ((impl_SourceAt.f k x8 (wrap64 (Int.tdiv (wrap64 (x14 * (wrap64 ((wrap64 (x7 - x6)) - 1)))) 10))).bind fun bt591 => ((impl_SourceAt.f k x5 (wrap64 (x6 + (wrap64 (Int.tdiv (wrap64 (x14 * (wrap64 ((wrap64 (x7 - x6)) - 1)))) 10))))).bind fun bt594 => ((spec_SourceAt.f k x5 (wrap64 (x6 + (wrap64 (Int.tdiv (wrap64 (x14 * (wrap64 ((wrap64 (x7 - x6)) - 1)))) 10))))).bind fun bt597 => (if bt591.2.2 = true then (if bt594.2.2 = true then (if bt597.2.2 = true then (if bt594.1 = bt597.1 then (if bt594.2.1 = bt597.2.1 then (if bt591.1 = bt597.1 then (if bt591.2.1 = bt597.2.1 then (laws_FnParts.l0 k x1 x5 x6 x7 x8 (wrap64 (x14 + 1))) else (some false)) else (some false)) else (some false)) else (some false)) else (some false)) else (some false)) else (some false))))) else (laws_FnParts.j3 k x1)
end
def laws_FnParts.f (k : Nat) (l0 : List Int) (l1 : List Int) : Option (Bool) := (laws_big.f l0 l1).bind fun t574 => (if t574 = true then (some true) else ((spec_DrawCutEdition.f k l0).bind fun bt575 => ((impl_CutEdition.f k bt575.1 bt575.2.1 bt575.2.2).bind fun bt580 => ((spec_CutEdition.f k bt575.1 bt575.2.1 bt575.2.2).bind fun bt584 => (if (bt580.2 != bt584.2) = true then (laws_FnParts.j0 k l1 bt575.1 bt575.2.1 bt575.2.2 bt580.1 bt580.2 true) else ((laws_pSameParts.f k bt580.1 bt584.1).bind fun t588 => (laws_FnParts.j0 k l1 bt575.1 bt575.2.1 bt575.2.2 bt580.1 bt580.2 (!t588))))))))
theorem laws_FnParts.mono_l : ∀ k, (∀ y0 y1 y2 y3 y4 y5 y6, LeO (laws_FnParts.j0 k y0 y1 y2 y3 y4 y5 y6) (laws_FnParts.j0 (k + 1) y0 y1 y2 y3 y4 y5 y6)) ∧ (∀ y0, LeO (laws_FnParts.j3 k y0) (laws_FnParts.j3 (k + 1) y0)) ∧ (∀ y0 y1 y2 y3 y4 y5, LeO (laws_FnParts.j4 k y0 y1 y2 y3 y4 y5) (laws_FnParts.j4 (k + 1) y0 y1 y2 y3 y4 y5)) ∧ (∀ y0, LeO (laws_FnParts.j6 k y0) (laws_FnParts.j6 (k + 1) y0)) ∧ (∀ y0 y1 y2 y3 y4 y5, LeO (laws_FnParts.l1 k y0 y1 y2 y3 y4 y5) (laws_FnParts.l1 (k + 1) y0 y1 y2 y3 y4 y5)) ∧ (∀ y0 y1 y2 y3 y4 y5, LeO (laws_FnParts.j1 k y0 y1 y2 y3 y4 y5) (laws_FnParts.j1 (k + 1) y0 y1 y2 y3 y4 y5)) ∧ (∀ y0 y1 y2 y3 y4 y5, LeO (laws_FnParts.l0 k y0 y1 y2 y3 y4 y5) (laws_FnParts.l0 (k + 1) y0 y1 y2 y3 y4 y5))
 | 0 => ⟨fun _ _ _ _ _ _ _ r h => by simp [laws_FnParts.j0] at h, fun _ r h => by simp [laws_FnParts.j3] at h, fun _ _ _ _ _ _ r h => by simp [laws_FnParts.j4] at h, fun _ r h => by simp [laws_FnParts.j6] at h, fun _ _ _ _ _ _ r h => by simp [laws_FnParts.l1] at h, fun _ _ _ _ _ _ r h => by simp [laws_FnParts.j1] at h, fun _ _ _ _ _ _ r h => by simp [laws_FnParts.l0] at h⟩
 | k + 1 => by
  obtain ⟨ih0, ih1, ih2, ih3, ih4, ih5, ih6⟩ := laws_FnParts.mono_l k
  refine ⟨?_, ?_, ?_, ?_, ?_, ?_, ?_⟩
  ·intro y0 y1 y2 y3 y4 y5 y6
   unfold laws_FnParts.j0
   repeat' first
   |(with_reducible exact ih0 _ _ _ _ _ _ _)
   |(with_reducible exact ih1 _)
   |(with_reducible exact ih2 _ _ _ _ _ _)
   |(with_reducible exact ih3 _)
   |(with_reducible exact ih4 _ _ _ _ _ _)
   |(with_reducible exact ih5 _ _ _ _ _ _)
   |(with_reducible exact ih6 _ _ _ _ _ _)
   |(with_reducible exact impl_AreParts.mono _ _ _)
   |(with_reducible exact impl_CutEdition.mono _ _ _ _)
   |(with_reducible exact impl_LengthOfEdition.mono _ _)
   |(with_reducible exact impl_PartsText.mono _ _)
   |(with_reducible exact impl_SourceAt.mono _ _ _)
   |(with_reducible exact impl_StepsFrom.mono _ _ _)
   |(with_reducible exact impl_UsedSources.mono _ _)
   |(with_reducible exact laws_pIn.mono _ _ _)
   |(with_reducible exact laws_pSameParts.mono _ _ _)
   |(with_reducible exact laws_sameInts.mono _ _ _)
   |(with_reducible exact spec_AreParts.mono _ _ _)
   |(with_reducible exact spec_CutEdition.mono _ _ _ _)
   |(with_reducible exact spec_DrawAreParts.mono _ _)
   |(with_reducible exact spec_DrawCutEdition.mono _ _)
   |(with_reducible exact spec_DrawSourceAt.mono _ _)
   |(with_reducible exact spec_DrawStepsFrom.mono _ _)
   |(with_reducible exact spec_DrawUsedSources.mono _ _)
   |(with_reducible exact spec_LengthOfEdition.mono _ _)
   |(with_reducible exact spec_PartsText.mono _ _)
   |(with_reducible exact spec_SourceAt.mono _ _ _)
   |(with_reducible exact spec_StepsFrom.mono _ _ _)
   |(with_reducible exact spec_UsedSources.mono _ _)
   |(with_reducible exact LeO.refl _)
   |(with_reducible exact LeO.none _)
   |(with_reducible refine LeO.ite ?_ ?_)
   |(with_reducible refine LeO.bind ?_ (fun _ => ?_))
   |exact ih0 _ _ _ _ _ _ _
   |exact ih1 _
   |exact ih2 _ _ _ _ _ _
   |exact ih3 _
   |exact ih4 _ _ _ _ _ _
   |exact ih5 _ _ _ _ _ _
   |exact ih6 _ _ _ _ _ _
   |exact impl_AreParts.mono _ _ _
   |exact impl_CutEdition.mono _ _ _ _
   |exact impl_LengthOfEdition.mono _ _
   |exact impl_PartsText.mono _ _
   |exact impl_SourceAt.mono _ _ _
   |exact impl_StepsFrom.mono _ _ _
   |exact impl_UsedSources.mono _ _
   |exact laws_pIn.mono _ _ _
   |exact laws_pSameParts.mono _ _ _
   |exact laws_sameInts.mono _ _ _
   |exact spec_AreParts.mono _ _ _
   |exact spec_CutEdition.mono _ _ _ _
   |exact spec_DrawAreParts.mono _ _
   |exact spec_DrawCutEdition.mono _ _
   |exact spec_DrawSourceAt.mono _ _
   |exact spec_DrawStepsFrom.mono _ _
   |exact spec_DrawUsedSources.mono _ _
   |exact spec_LengthOfEdition.mono _ _
   |exact spec_PartsText.mono _ _
   |exact spec_SourceAt.mono _ _ _
   |exact spec_StepsFrom.mono _ _ _
   |exact spec_UsedSources.mono _ _
   |exact LeO.none _
    | refine LeO.ite ?_ ?_
    | refine LeO.bind ?_ (fun _ => ?_)
  ·intro y0
   unfold laws_FnParts.j3
   repeat' first
   |(with_reducible exact ih0 _ _ _ _ _ _ _)
   |(with_reducible exact ih1 _)
   |(with_reducible exact ih2 _ _ _ _ _ _)
   |(with_reducible exact ih3 _)
   |(with_reducible exact ih4 _ _ _ _ _ _)
   |(with_reducible exact ih5 _ _ _ _ _ _)
   |(with_reducible exact ih6 _ _ _ _ _ _)
   |(with_reducible exact impl_AreParts.mono _ _ _)
   |(with_reducible exact impl_CutEdition.mono _ _ _ _)
   |(with_reducible exact impl_LengthOfEdition.mono _ _)
   |(with_reducible exact impl_PartsText.mono _ _)
   |(with_reducible exact impl_SourceAt.mono _ _ _)
   |(with_reducible exact impl_StepsFrom.mono _ _ _)
   |(with_reducible exact impl_UsedSources.mono _ _)
   |(with_reducible exact laws_pIn.mono _ _ _)
   |(with_reducible exact laws_pSameParts.mono _ _ _)
   |(with_reducible exact laws_sameInts.mono _ _ _)
   |(with_reducible exact spec_AreParts.mono _ _ _)
   |(with_reducible exact spec_CutEdition.mono _ _ _ _)
   |(with_reducible exact spec_DrawAreParts.mono _ _)
   |(with_reducible exact spec_DrawCutEdition.mono _ _)
   |(with_reducible exact spec_DrawSourceAt.mono _ _)
   |(with_reducible exact spec_DrawStepsFrom.mono _ _)
   |(with_reducible exact spec_DrawUsedSources.mono _ _)
   |(with_reducible exact spec_LengthOfEdition.mono _ _)
   |(with_reducible exact spec_PartsText.mono _ _)
   |(with_reducible exact spec_SourceAt.mono _ _ _)
   |(with_reducible exact spec_StepsFrom.mono _ _ _)
   |(with_reducible exact spec_UsedSources.mono _ _)
   |(with_reducible exact LeO.refl _)
   |(with_reducible exact LeO.none _)
   |(with_reducible refine LeO.ite ?_ ?_)
   |(with_reducible refine LeO.bind ?_ (fun _ => ?_))
   |exact ih0 _ _ _ _ _ _ _
   |exact ih1 _
   |exact ih2 _ _ _ _ _ _
   |exact ih3 _
   |exact ih4 _ _ _ _ _ _
   |exact ih5 _ _ _ _ _ _
   |exact ih6 _ _ _ _ _ _
   |exact impl_AreParts.mono _ _ _
   |exact impl_CutEdition.mono _ _ _ _
   |exact impl_LengthOfEdition.mono _ _
   |exact impl_PartsText.mono _ _
   |exact impl_SourceAt.mono _ _ _
   |exact impl_StepsFrom.mono _ _ _
   |exact impl_UsedSources.mono _ _
   |exact laws_pIn.mono _ _ _
   |exact laws_pSameParts.mono _ _ _
   |exact laws_sameInts.mono _ _ _
   |exact spec_AreParts.mono _ _ _
   |exact spec_CutEdition.mono _ _ _ _
   |exact spec_DrawAreParts.mono _ _
   |exact spec_DrawCutEdition.mono _ _
   |exact spec_DrawSourceAt.mono _ _
   |exact spec_DrawStepsFrom.mono _ _
   |exact spec_DrawUsedSources.mono _ _
   |exact spec_LengthOfEdition.mono _ _
   |exact spec_PartsText.mono _ _
   |exact spec_SourceAt.mono _ _ _
   |exact spec_StepsFrom.mono _ _ _
   |exact spec_UsedSources.mono _ _
   |exact LeO.none _
    | refine LeO.ite ?_ ?_
    | refine LeO.bind ?_ (fun _ => ?_)
  ·intro y0 y1 y2 y3 y4 y5
   unfold laws_FnParts.j4
   repeat' first
   |(with_reducible exact ih0 _ _ _ _ _ _ _)
   |(with_reducible exact ih1 _)
   |(with_reducible exact ih2 _ _ _ _ _ _)
   |(with_reducible exact ih3 _)
   |(with_reducible exact ih4 _ _ _ _ _ _)
   |(with_reducible exact ih5 _ _ _ _ _ _)
   |(with_reducible exact ih6 _ _ _ _ _ _)
   |(with_reducible exact impl_AreParts.mono _ _ _)
   |(with_reducible exact impl_CutEdition.mono _ _ _ _)
   |(with_reducible exact impl_LengthOfEdition.mono _ _)
   |(with_reducible exact impl_PartsText.mono _ _)
   |(with_reducible exact impl_SourceAt.mono _ _ _)
   |(with_reducible exact impl_StepsFrom.mono _ _ _)
   |(with_reducible exact impl_UsedSources.mono _ _)
   |(with_reducible exact laws_pIn.mono _ _ _)
   |(with_reducible exact laws_pSameParts.mono _ _ _)
   |(with_reducible exact laws_sameInts.mono _ _ _)
   |(with_reducible exact spec_AreParts.mono _ _ _)
   |(with_reducible exact spec_CutEdition.mono _ _ _ _)
   |(with_reducible exact spec_DrawAreParts.mono _ _)
   |(with_reducible exact spec_DrawCutEdition.mono _ _)
   |(with_reducible exact spec_DrawSourceAt.mono _ _)
   |(with_reducible exact spec_DrawStepsFrom.mono _ _)
   |(with_reducible exact spec_DrawUsedSources.mono _ _)
   |(with_reducible exact spec_LengthOfEdition.mono _ _)
   |(with_reducible exact spec_PartsText.mono _ _)
   |(with_reducible exact spec_SourceAt.mono _ _ _)
   |(with_reducible exact spec_StepsFrom.mono _ _ _)
   |(with_reducible exact spec_UsedSources.mono _ _)
   |(with_reducible exact LeO.refl _)
   |(with_reducible exact LeO.none _)
   |(with_reducible refine LeO.ite ?_ ?_)
   |(with_reducible refine LeO.bind ?_ (fun _ => ?_))
   |exact ih0 _ _ _ _ _ _ _
   |exact ih1 _
   |exact ih2 _ _ _ _ _ _
   |exact ih3 _
   |exact ih4 _ _ _ _ _ _
   |exact ih5 _ _ _ _ _ _
   |exact ih6 _ _ _ _ _ _
   |exact impl_AreParts.mono _ _ _
   |exact impl_CutEdition.mono _ _ _ _
   |exact impl_LengthOfEdition.mono _ _
   |exact impl_PartsText.mono _ _
   |exact impl_SourceAt.mono _ _ _
   |exact impl_StepsFrom.mono _ _ _
   |exact impl_UsedSources.mono _ _
   |exact laws_pIn.mono _ _ _
   |exact laws_pSameParts.mono _ _ _
   |exact laws_sameInts.mono _ _ _
   |exact spec_AreParts.mono _ _ _
   |exact spec_CutEdition.mono _ _ _ _
   |exact spec_DrawAreParts.mono _ _
   |exact spec_DrawCutEdition.mono _ _
   |exact spec_DrawSourceAt.mono _ _
   |exact spec_DrawStepsFrom.mono _ _
   |exact spec_DrawUsedSources.mono _ _
   |exact spec_LengthOfEdition.mono _ _
   |exact spec_PartsText.mono _ _
   |exact spec_SourceAt.mono _ _ _
   |exact spec_StepsFrom.mono _ _ _
   |exact spec_UsedSources.mono _ _
   |exact LeO.none _
    | refine LeO.ite ?_ ?_
    | refine LeO.bind ?_ (fun _ => ?_)
  ·intro y0
   unfold laws_FnParts.j6
   repeat' first
   |(with_reducible exact ih0 _ _ _ _ _ _ _)
   |(with_reducible exact ih1 _)
   |(with_reducible exact ih2 _ _ _ _ _ _)
   |(with_reducible exact ih3 _)
   |(with_reducible exact ih4 _ _ _ _ _ _)
   |(with_reducible exact ih5 _ _ _ _ _ _)
   |(with_reducible exact ih6 _ _ _ _ _ _)
   |(with_reducible exact impl_AreParts.mono _ _ _)
   |(with_reducible exact impl_CutEdition.mono _ _ _ _)
   |(with_reducible exact impl_LengthOfEdition.mono _ _)
   |(with_reducible exact impl_PartsText.mono _ _)
   |(with_reducible exact impl_SourceAt.mono _ _ _)
   |(with_reducible exact impl_StepsFrom.mono _ _ _)
   |(with_reducible exact impl_UsedSources.mono _ _)
   |(with_reducible exact laws_pIn.mono _ _ _)
   |(with_reducible exact laws_pSameParts.mono _ _ _)
   |(with_reducible exact laws_sameInts.mono _ _ _)
   |(with_reducible exact spec_AreParts.mono _ _ _)
   |(with_reducible exact spec_CutEdition.mono _ _ _ _)
   |(with_reducible exact spec_DrawAreParts.mono _ _)
   |(with_reducible exact spec_DrawCutEdition.mono _ _)
   |(with_reducible exact spec_DrawSourceAt.mono _ _)
   |(with_reducible exact spec_DrawStepsFrom.mono _ _)
   |(with_reducible exact spec_DrawUsedSources.mono _ _)
   |(with_reducible exact spec_LengthOfEdition.mono _ _)
   |(with_reducible exact spec_PartsText.mono _ _)
   |(with_reducible exact spec_SourceAt.mono _ _ _)
   |(with_reducible exact spec_StepsFrom.mono _ _ _)
   |(with_reducible exact spec_UsedSources.mono _ _)
   |(with_reducible exact LeO.refl _)
   |(with_reducible exact LeO.none _)
   |(with_reducible refine LeO.ite ?_ ?_)
   |(with_reducible refine LeO.bind ?_ (fun _ => ?_))
   |exact ih0 _ _ _ _ _ _ _
   |exact ih1 _
   |exact ih2 _ _ _ _ _ _
   |exact ih3 _
   |exact ih4 _ _ _ _ _ _
   |exact ih5 _ _ _ _ _ _
   |exact ih6 _ _ _ _ _ _
   |exact impl_AreParts.mono _ _ _
   |exact impl_CutEdition.mono _ _ _ _
   |exact impl_LengthOfEdition.mono _ _
   |exact impl_PartsText.mono _ _
   |exact impl_SourceAt.mono _ _ _
   |exact impl_StepsFrom.mono _ _ _
   |exact impl_UsedSources.mono _ _
   |exact laws_pIn.mono _ _ _
   |exact laws_pSameParts.mono _ _ _
   |exact laws_sameInts.mono _ _ _
   |exact spec_AreParts.mono _ _ _
   |exact spec_CutEdition.mono _ _ _ _
   |exact spec_DrawAreParts.mono _ _
   |exact spec_DrawCutEdition.mono _ _
   |exact spec_DrawSourceAt.mono _ _
   |exact spec_DrawStepsFrom.mono _ _
   |exact spec_DrawUsedSources.mono _ _
   |exact spec_LengthOfEdition.mono _ _
   |exact spec_PartsText.mono _ _
   |exact spec_SourceAt.mono _ _ _
   |exact spec_StepsFrom.mono _ _ _
   |exact spec_UsedSources.mono _ _
   |exact LeO.none _
    | refine LeO.ite ?_ ?_
    | refine LeO.bind ?_ (fun _ => ?_)
  ·intro y0 y1 y2 y3 y4 y5
   unfold laws_FnParts.l1
   repeat' first
   |(with_reducible exact ih0 _ _ _ _ _ _ _)
   |(with_reducible exact ih1 _)
   |(with_reducible exact ih2 _ _ _ _ _ _)
   |(with_reducible exact ih3 _)
   |(with_reducible exact ih4 _ _ _ _ _ _)
   |(with_reducible exact ih5 _ _ _ _ _ _)
   |(with_reducible exact ih6 _ _ _ _ _ _)
   |(with_reducible exact impl_AreParts.mono _ _ _)
   |(with_reducible exact impl_CutEdition.mono _ _ _ _)
   |(with_reducible exact impl_LengthOfEdition.mono _ _)
   |(with_reducible exact impl_PartsText.mono _ _)
   |(with_reducible exact impl_SourceAt.mono _ _ _)
   |(with_reducible exact impl_StepsFrom.mono _ _ _)
   |(with_reducible exact impl_UsedSources.mono _ _)
   |(with_reducible exact laws_pIn.mono _ _ _)
   |(with_reducible exact laws_pSameParts.mono _ _ _)
   |(with_reducible exact laws_sameInts.mono _ _ _)
   |(with_reducible exact spec_AreParts.mono _ _ _)
   |(with_reducible exact spec_CutEdition.mono _ _ _ _)
   |(with_reducible exact spec_DrawAreParts.mono _ _)
   |(with_reducible exact spec_DrawCutEdition.mono _ _)
   |(with_reducible exact spec_DrawSourceAt.mono _ _)
   |(with_reducible exact spec_DrawStepsFrom.mono _ _)
   |(with_reducible exact spec_DrawUsedSources.mono _ _)
   |(with_reducible exact spec_LengthOfEdition.mono _ _)
   |(with_reducible exact spec_PartsText.mono _ _)
   |(with_reducible exact spec_SourceAt.mono _ _ _)
   |(with_reducible exact spec_StepsFrom.mono _ _ _)
   |(with_reducible exact spec_UsedSources.mono _ _)
   |(with_reducible exact LeO.refl _)
   |(with_reducible exact LeO.none _)
   |(with_reducible refine LeO.ite ?_ ?_)
   |(with_reducible refine LeO.bind ?_ (fun _ => ?_))
   |exact ih0 _ _ _ _ _ _ _
   |exact ih1 _
   |exact ih2 _ _ _ _ _ _
   |exact ih3 _
   |exact ih4 _ _ _ _ _ _
   |exact ih5 _ _ _ _ _ _
   |exact ih6 _ _ _ _ _ _
   |exact impl_AreParts.mono _ _ _
   |exact impl_CutEdition.mono _ _ _ _
   |exact impl_LengthOfEdition.mono _ _
   |exact impl_PartsText.mono _ _
   |exact impl_SourceAt.mono _ _ _
   |exact impl_StepsFrom.mono _ _ _
   |exact impl_UsedSources.mono _ _
   |exact laws_pIn.mono _ _ _
   |exact laws_pSameParts.mono _ _ _
   |exact laws_sameInts.mono _ _ _
   |exact spec_AreParts.mono _ _ _
   |exact spec_CutEdition.mono _ _ _ _
   |exact spec_DrawAreParts.mono _ _
   |exact spec_DrawCutEdition.mono _ _
   |exact spec_DrawSourceAt.mono _ _
   |exact spec_DrawStepsFrom.mono _ _
   |exact spec_DrawUsedSources.mono _ _
   |exact spec_LengthOfEdition.mono _ _
   |exact spec_PartsText.mono _ _
   |exact spec_SourceAt.mono _ _ _
   |exact spec_StepsFrom.mono _ _ _
   |exact spec_UsedSources.mono _ _
   |exact LeO.none _
    | refine LeO.ite ?_ ?_
    | refine LeO.bind ?_ (fun _ => ?_)
  ·intro y0 y1 y2 y3 y4 y5
   unfold laws_FnParts.j1
   repeat' first
   |(with_reducible exact ih0 _ _ _ _ _ _ _)
   |(with_reducible exact ih1 _)
   |(with_reducible exact ih2 _ _ _ _ _ _)
   |(with_reducible exact ih3 _)
   |(with_reducible exact ih4 _ _ _ _ _ _)
   |(with_reducible exact ih5 _ _ _ _ _ _)
   |(with_reducible exact ih6 _ _ _ _ _ _)
   |(with_reducible exact impl_AreParts.mono _ _ _)
   |(with_reducible exact impl_CutEdition.mono _ _ _ _)
   |(with_reducible exact impl_LengthOfEdition.mono _ _)
   |(with_reducible exact impl_PartsText.mono _ _)
   |(with_reducible exact impl_SourceAt.mono _ _ _)
   |(with_reducible exact impl_StepsFrom.mono _ _ _)
   |(with_reducible exact impl_UsedSources.mono _ _)
   |(with_reducible exact laws_pIn.mono _ _ _)
   |(with_reducible exact laws_pSameParts.mono _ _ _)
   |(with_reducible exact laws_sameInts.mono _ _ _)
   |(with_reducible exact spec_AreParts.mono _ _ _)
   |(with_reducible exact spec_CutEdition.mono _ _ _ _)
   |(with_reducible exact spec_DrawAreParts.mono _ _)
   |(with_reducible exact spec_DrawCutEdition.mono _ _)
   |(with_reducible exact spec_DrawSourceAt.mono _ _)
   |(with_reducible exact spec_DrawStepsFrom.mono _ _)
   |(with_reducible exact spec_DrawUsedSources.mono _ _)
   |(with_reducible exact spec_LengthOfEdition.mono _ _)
   |(with_reducible exact spec_PartsText.mono _ _)
   |(with_reducible exact spec_SourceAt.mono _ _ _)
   |(with_reducible exact spec_StepsFrom.mono _ _ _)
   |(with_reducible exact spec_UsedSources.mono _ _)
   |(with_reducible exact LeO.refl _)
   |(with_reducible exact LeO.none _)
   |(with_reducible refine LeO.ite ?_ ?_)
   |(with_reducible refine LeO.bind ?_ (fun _ => ?_))
   |exact ih0 _ _ _ _ _ _ _
   |exact ih1 _
   |exact ih2 _ _ _ _ _ _
   |exact ih3 _
   |exact ih4 _ _ _ _ _ _
   |exact ih5 _ _ _ _ _ _
   |exact ih6 _ _ _ _ _ _
   |exact impl_AreParts.mono _ _ _
   |exact impl_CutEdition.mono _ _ _ _
   |exact impl_LengthOfEdition.mono _ _
   |exact impl_PartsText.mono _ _
   |exact impl_SourceAt.mono _ _ _
   |exact impl_StepsFrom.mono _ _ _
   |exact impl_UsedSources.mono _ _
   |exact laws_pIn.mono _ _ _
   |exact laws_pSameParts.mono _ _ _
   |exact laws_sameInts.mono _ _ _
   |exact spec_AreParts.mono _ _ _
   |exact spec_CutEdition.mono _ _ _ _
   |exact spec_DrawAreParts.mono _ _
   |exact spec_DrawCutEdition.mono _ _
   |exact spec_DrawSourceAt.mono _ _
   |exact spec_DrawStepsFrom.mono _ _
   |exact spec_DrawUsedSources.mono _ _
   |exact spec_LengthOfEdition.mono _ _
   |exact spec_PartsText.mono _ _
   |exact spec_SourceAt.mono _ _ _
   |exact spec_StepsFrom.mono _ _ _
   |exact spec_UsedSources.mono _ _
   |exact LeO.none _
    | refine LeO.ite ?_ ?_
    | refine LeO.bind ?_ (fun _ => ?_)
  ·intro y0 y1 y2 y3 y4 y5
   unfold laws_FnParts.l0
   repeat' first
   |(with_reducible exact ih0 _ _ _ _ _ _ _)
   |(with_reducible exact ih1 _)
   |(with_reducible exact ih2 _ _ _ _ _ _)
   |(with_reducible exact ih3 _)
   |(with_reducible exact ih4 _ _ _ _ _ _)
   |(with_reducible exact ih5 _ _ _ _ _ _)
   |(with_reducible exact ih6 _ _ _ _ _ _)
   |(with_reducible exact impl_AreParts.mono _ _ _)
   |(with_reducible exact impl_CutEdition.mono _ _ _ _)
   |(with_reducible exact impl_LengthOfEdition.mono _ _)
   |(with_reducible exact impl_PartsText.mono _ _)
   |(with_reducible exact impl_SourceAt.mono _ _ _)
   |(with_reducible exact impl_StepsFrom.mono _ _ _)
   |(with_reducible exact impl_UsedSources.mono _ _)
   |(with_reducible exact laws_pIn.mono _ _ _)
   |(with_reducible exact laws_pSameParts.mono _ _ _)
   |(with_reducible exact laws_sameInts.mono _ _ _)
   |(with_reducible exact spec_AreParts.mono _ _ _)
   |(with_reducible exact spec_CutEdition.mono _ _ _ _)
   |(with_reducible exact spec_DrawAreParts.mono _ _)
   |(with_reducible exact spec_DrawCutEdition.mono _ _)
   |(with_reducible exact spec_DrawSourceAt.mono _ _)
   |(with_reducible exact spec_DrawStepsFrom.mono _ _)
   |(with_reducible exact spec_DrawUsedSources.mono _ _)
   |(with_reducible exact spec_LengthOfEdition.mono _ _)
   |(with_reducible exact spec_PartsText.mono _ _)
   |(with_reducible exact spec_SourceAt.mono _ _ _)
   |(with_reducible exact spec_StepsFrom.mono _ _ _)
   |(with_reducible exact spec_UsedSources.mono _ _)
   |(with_reducible exact LeO.refl _)
   |(with_reducible exact LeO.none _)
   |(with_reducible refine LeO.ite ?_ ?_)
   |(with_reducible refine LeO.bind ?_ (fun _ => ?_))
   |exact ih0 _ _ _ _ _ _ _
   |exact ih1 _
   |exact ih2 _ _ _ _ _ _
   |exact ih3 _
   |exact ih4 _ _ _ _ _ _
   |exact ih5 _ _ _ _ _ _
   |exact ih6 _ _ _ _ _ _
   |exact impl_AreParts.mono _ _ _
   |exact impl_CutEdition.mono _ _ _ _
   |exact impl_LengthOfEdition.mono _ _
   |exact impl_PartsText.mono _ _
   |exact impl_SourceAt.mono _ _ _
   |exact impl_StepsFrom.mono _ _ _
   |exact impl_UsedSources.mono _ _
   |exact laws_pIn.mono _ _ _
   |exact laws_pSameParts.mono _ _ _
   |exact laws_sameInts.mono _ _ _
   |exact spec_AreParts.mono _ _ _
   |exact spec_CutEdition.mono _ _ _ _
   |exact spec_DrawAreParts.mono _ _
   |exact spec_DrawCutEdition.mono _ _
   |exact spec_DrawSourceAt.mono _ _
   |exact spec_DrawStepsFrom.mono _ _
   |exact spec_DrawUsedSources.mono _ _
   |exact spec_LengthOfEdition.mono _ _
   |exact spec_PartsText.mono _ _
   |exact spec_SourceAt.mono _ _ _
   |exact spec_StepsFrom.mono _ _ _
   |exact spec_UsedSources.mono _ _
   |exact LeO.none _
    | refine LeO.ite ?_ ?_
    | refine LeO.bind ?_ (fun _ => ?_)
theorem laws_FnParts.mono : ∀ a0 a1 k, LeO (laws_FnParts.f k a0 a1) (laws_FnParts.f (k + 1) a0 a1) := by
 intro a0 a1 k
 obtain ⟨ih0, ih1, ih2, ih3, ih4, ih5, ih6⟩ := laws_FnParts.mono_l k
 unfold laws_FnParts.f
 repeat' first
  |(with_reducible exact ih0 _ _ _ _ _ _ _)
  |(with_reducible exact ih1 _)
  |(with_reducible exact ih2 _ _ _ _ _ _)
  |(with_reducible exact ih3 _)
  |(with_reducible exact ih4 _ _ _ _ _ _)
  |(with_reducible exact ih5 _ _ _ _ _ _)
  |(with_reducible exact ih6 _ _ _ _ _ _)
  |(with_reducible exact impl_AreParts.mono _ _ _)
  |(with_reducible exact impl_CutEdition.mono _ _ _ _)
  |(with_reducible exact impl_LengthOfEdition.mono _ _)
  |(with_reducible exact impl_PartsText.mono _ _)
  |(with_reducible exact impl_SourceAt.mono _ _ _)
  |(with_reducible exact impl_StepsFrom.mono _ _ _)
  |(with_reducible exact impl_UsedSources.mono _ _)
  |(with_reducible exact laws_pIn.mono _ _ _)
  |(with_reducible exact laws_pSameParts.mono _ _ _)
  |(with_reducible exact laws_sameInts.mono _ _ _)
  |(with_reducible exact spec_AreParts.mono _ _ _)
  |(with_reducible exact spec_CutEdition.mono _ _ _ _)
  |(with_reducible exact spec_DrawAreParts.mono _ _)
  |(with_reducible exact spec_DrawCutEdition.mono _ _)
  |(with_reducible exact spec_DrawSourceAt.mono _ _)
  |(with_reducible exact spec_DrawStepsFrom.mono _ _)
  |(with_reducible exact spec_DrawUsedSources.mono _ _)
  |(with_reducible exact spec_LengthOfEdition.mono _ _)
  |(with_reducible exact spec_PartsText.mono _ _)
  |(with_reducible exact spec_SourceAt.mono _ _ _)
  |(with_reducible exact spec_StepsFrom.mono _ _ _)
  |(with_reducible exact spec_UsedSources.mono _ _)
  |(with_reducible exact LeO.refl _)
  |(with_reducible exact LeO.none _)
  |(with_reducible refine LeO.ite ?_ ?_)
  |(with_reducible refine LeO.bind ?_ (fun _ => ?_))
  |exact ih0 _ _ _ _ _ _ _
  |exact ih1 _
  |exact ih2 _ _ _ _ _ _
  |exact ih3 _
  |exact ih4 _ _ _ _ _ _
  |exact ih5 _ _ _ _ _ _
  |exact ih6 _ _ _ _ _ _
  |exact impl_AreParts.mono _ _ _
  |exact impl_CutEdition.mono _ _ _ _
  |exact impl_LengthOfEdition.mono _ _
  |exact impl_PartsText.mono _ _
  |exact impl_SourceAt.mono _ _ _
  |exact impl_StepsFrom.mono _ _ _
  |exact impl_UsedSources.mono _ _
  |exact laws_pIn.mono _ _ _
  |exact laws_pSameParts.mono _ _ _
  |exact laws_sameInts.mono _ _ _
  |exact spec_AreParts.mono _ _ _
  |exact spec_CutEdition.mono _ _ _ _
  |exact spec_DrawAreParts.mono _ _
  |exact spec_DrawCutEdition.mono _ _
  |exact spec_DrawSourceAt.mono _ _
  |exact spec_DrawStepsFrom.mono _ _
  |exact spec_DrawUsedSources.mono _ _
  |exact spec_LengthOfEdition.mono _ _
  |exact spec_PartsText.mono _ _
  |exact spec_SourceAt.mono _ _ _
  |exact spec_StepsFrom.mono _ _ _
  |exact spec_UsedSources.mono _ _
  |exact LeO.none _
   | refine LeO.ite ?_ ?_
   | refine LeO.bind ?_ (fun _ => ?_)
theorem laws_FnParts.j0_true : ∀ {k y0 y1 y2 y3 y4 y5}, laws_FnParts.j0 k y0 y1 y2 y3 y4 y5 true = some true → False := by
 intro k y0 y1 y2 y3 y4 y5 h
 cases k with
 | zero => simp only [laws_FnParts.j0] at h; cases h
 | succ k => rw [laws_FnParts.j0, if_pos rfl] at h; cases h
theorem laws_FnParts.j4_true : ∀ {k y0 y1 y2 y3 y4}, laws_FnParts.j4 k y0 y1 y2 y3 y4 true = some true → False := by
 intro k y0 y1 y2 y3 y4 h
 cases k with
 | zero => simp only [laws_FnParts.j4] at h; cases h
 | succ k => rw [laws_FnParts.j4, if_pos rfl] at h; cases h
theorem laws_FnParts.j1_true : ∀ {k y0 y1 y2 y3 y4}, laws_FnParts.j1 k y0 y1 y2 y3 y4 true = some true → False := by
 intro k y0 y1 y2 y3 y4 h
 cases k with
 | zero => simp only [laws_FnParts.j1] at h; cases h
 | succ k => rw [laws_FnParts.j1, if_pos rfl] at h; cases h
set_option maxHeartbeats 8000000 in
set_option maxRecDepth 100000 in
theorem laws_FnParts.calls (k : Nat) (A0 : Option Addr) (c0 : Nat) (l0 : List Int) (A1 : Option Addr) (c1 : Nat) (l1 : List Int) (r : Bool) (w : World) (hr0 : Kd.C (Kd.int .u8) w A0 l0.length l0) (hc0 : l0.length ≤ c0) (hr1 : Kd.C (Kd.int .u8) w A1 l1.length l1) (hc1 : l1.length ≤ c1) (htab : DoorLib.Tab w) (h : laws_FnParts.f k l0 l1 = some r) (hr_ : r = true) :
 Calls Tryd.prog 4 #[.slice A0 l0.length c0, .slice A1 l1.length c1] w fun e w' => e = .returned (.bool r) ∧ Below w.heap.size w w' := by
 have HR_ := Aside0.mk hr_
 clear hr_
 have HT0 := Aside0.mk htab
 clear htab
 have HR0 := Aside0.mk hr0
 have HC0 := Aside0.mk hc0
 clear hr0 hc0
 have HR1 := Aside0.mk hr1
 have HC1 := Aside0.mk hc1
 clear hr1 hc1
 have HB := Aside0.mk (Below.refl w.heap.size w)
 have H : ((laws_big.f l0 l1).bind fun t574 => (if t574 = true then (some true) else ((spec_DrawCutEdition.f k l0).bind fun bt575 => ((impl_CutEdition.f k bt575.1 bt575.2.1 bt575.2.2).bind fun bt580 => ((spec_CutEdition.f k bt575.1 bt575.2.1 bt575.2.2).bind fun bt584 => (if (bt580.2 != bt584.2) = true then (laws_FnParts.j0 k l1 bt575.1 bt575.2.1 bt575.2.2 bt580.1 bt580.2 true) else ((laws_pSameParts.f k bt580.1 bt584.1).bind fun t588 => (laws_FnParts.j0 k l1 bt575.1 bt575.2.1 bt575.2.2 bt580.1 bt580.2 (!t588))))))))) = some r := h
 clear h
 replace H := Option.bind_eq_some_iff.mp H
 obtain ⟨t574, A30, H⟩ := H
 try dsimp only at H
 have A3 := Aside0.mk A30
 clear A30
 by_cases c4 : t574 = true
 ·subst c4
  have H1 : (some true) = some r := by rw [if_pos rfl] at H; exact H
  clear H
  have H := H1
  clear H1
  obtain rfl := Option.some.inj H
  go_enter Tryd.func4, Tryd.ntmps4
  go_wp2_with (first|((with_reducible refine gate_callee (f := 5) rfl ?_); refine goesL_ (some 62) rfl rfl Tryd.func5 (by kernel_rfl) rfl #[.slice A0 l0.length c0, .slice A1 l1.length c1] rfl (by (try simp only [List.map_toArray, List.map_cons, List.map_nil]); first | done | rfl|(simp only [List.length_drop, List.length_take]; rfl)) ?_; (with_reducible refine (laws_big.calls _ _ l0 _ _ l1 true _ ?side1 ?side2 ?side3 ?side4 A3.out).mono ?_);(case side1 => exact (a10_ HR0.out));(case side2 => exact HC0.out);(case side3 => exact (a10_ HR1.out));(case side4 => exact HC1.out); rintro e w' ⟨rfl, ⟨nd, rfl⟩⟩; refine ⟨_, rfl, ?_⟩))
  go_ret
  exact ⟨a5_, a0_⟩
 ·replace c4 := Bool.eq_false_iff.mpr c4
  subst c4
  have H1 : ((spec_DrawCutEdition.f k l0).bind fun bt575 => ((impl_CutEdition.f k bt575.1 bt575.2.1 bt575.2.2).bind fun bt580 => ((spec_CutEdition.f k bt575.1 bt575.2.1 bt575.2.2).bind fun bt584 => (if (bt580.2 != bt584.2) = true then (laws_FnParts.j0 k l1 bt575.1 bt575.2.1 bt575.2.2 bt580.1 bt580.2 true) else ((laws_pSameParts.f k bt580.1 bt584.1).bind fun t588 => (laws_FnParts.j0 k l1 bt575.1 bt575.2.1 bt575.2.2 bt580.1 bt580.2 (!t588))))))) = some r := by rw [if_neg (show ¬ (false = true) by decide)] at H; exact H
  clear H
  have H := H1
  clear H1
  replace H := Option.bind_eq_some_iff.mp H
  obtain ⟨⟨t575, t576, t577⟩, A50, H⟩ := H
  try dsimp only at H
  have A5 := Aside0.mk A50
  clear A50
  replace H := Option.bind_eq_some_iff.mp H
  obtain ⟨⟨t580, t581⟩, A60, H⟩ := H
  try dsimp only at H
  have A6 := Aside0.mk A60
  clear A60
  replace H := Option.bind_eq_some_iff.mp H
  obtain ⟨⟨t584, t585⟩, A70, H⟩ := H
  try dsimp only at H
  have A7 := Aside0.mk A70
  clear A70
  have HC8 := Aside0.mk H
  clear H
  go_enter Tryd.func4, Tryd.ntmps4
  go_upto_region 6 with (first|((with_reducible refine gate_callee (f := 5) rfl ?_); refine goesL_ (some 62) rfl rfl Tryd.func5 (by kernel_rfl) rfl #[.slice A0 l0.length c0, .slice A1 l1.length c1] rfl (by (try simp only [List.map_toArray, List.map_cons, List.map_nil]); first | done | rfl|(simp only [List.length_drop, List.length_take]; rfl)) ?_; (with_reducible refine (laws_big.calls _ _ l0 _ _ l1 false _ ?side1 ?side2 ?side3 ?side4 A3.out).mono ?_);(case side1 => exact (a10_ HR0.out));(case side2 => exact HC0.out);(case side3 => exact (a10_ HR1.out));(case side4 => exact HC1.out); rintro e w' ⟨rfl, ⟨nd, rfl⟩⟩; refine ⟨_, rfl, ?_⟩)|((with_reducible refine gate_callee (f := 28) rfl ?_); refine goesL_ (some 65) rfl rfl Tryd.func28 (by kernel_rfl) rfl #[.slice A0 l0.length c0] rfl (by (try simp only [List.map_toArray, List.map_cons, List.map_nil]); first | done | rfl|(simp only [List.length_drop, List.length_take]; rfl)) ?_; (with_reducible refine (spec_DrawCutEdition.calls k _ _ l0 t575 t576 t577 _ ?side1 ?side2 A5.out).mono ?_);(case side1 => exact (a10_ HR0.out));(case side2 => exact HC0.out); rintro e w9 ⟨v578, rfl, ho0, hb⟩; refine ⟨_, rfl, ?_⟩; have n0_ := Aside0.mk (Kd.R_lower ho0 (below_size (a0_))); have n1_ := Aside0.mk (below_step (a0_) hb); clear HB; have HO579 := n0_; have HB := n1_; clear n0_ n1_; (try clear hb); (try clear hb2); (try clear hk); (try clear hi); (try clear ho0); obtain ⟨Ao10, co10, eo10⟩ := Kd.R_slice HO579.out; subst eo10)|((with_reducible refine gate_callee (f := 29) rfl ?_); refine goesL_ (some 73) rfl rfl Tryd.func29 (by kernel_rfl) rfl #[.slice Ao10 t575.length co10, .int .i64 t576, .int .i64 t577] rfl (by (try simp only [List.map_toArray, List.map_cons, List.map_nil]); first | done | rfl|(simp only [List.length_drop, List.length_take]; rfl)) ?_; (with_reducible refine (impl_CutEdition.calls k _ _ t575 t576 t577 t580 t581 _ ?side1 ?side2 A6.out).mono ?_);(case side1 => exact (a9_ HO579.out));(case side2 => exact (Kd.R_reads' HO579.out).2.1); rintro e w11 ⟨v582, rfl, ho0, hb⟩; refine ⟨_, rfl, ?_⟩; have n0_ := Aside0.mk (Kd.R_below ((a2_ HO579.out)) hb); have n1_ := Aside0.mk (Kd.R_lower ho0 (below_size (a0_))); have n2_ := Aside0.mk (below_step (a0_) hb); clear HO579; clear HB; have HO579 := n0_; have HO583 := n1_; have HB := n2_; clear n0_ n1_ n2_; (try clear hb); (try clear hb2); (try clear hk); (try clear hi); (try clear ho0))|((with_reducible refine gate_callee (f := 30) rfl ?_); refine goesL_ (some 80) rfl rfl Tryd.func30 (by kernel_rfl) rfl #[.slice Ao10 t575.length co10, .int .i64 t576, .int .i64 t577] rfl (by (try simp only [List.map_toArray, List.map_cons, List.map_nil]); first | done | rfl|(simp only [List.length_drop, List.length_take]; rfl)) ?_; (with_reducible refine (spec_CutEdition.calls k _ _ t575 t576 t577 t584 t585 _ ?side1 ?side2 A7.out).mono ?_);(case side1 => exact (a9_ HO579.out));(case side2 => exact (Kd.R_reads' HO579.out).2.1); rintro e w12 ⟨v586, rfl, ho0, hb⟩; refine ⟨_, rfl, ?_⟩; have n0_ := Aside0.mk (Kd.R_below ((a2_ HO579.out)) hb); have n1_ := Aside0.mk (Kd.R_below ((a2_ HO583.out)) hb); have n2_ := Aside0.mk (Kd.R_lower ho0 (below_size (a0_))); have n3_ := Aside0.mk (below_step (a0_) hb); clear HO579; clear HO583; clear HB; have HO579 := n0_; have HO583 := n1_; have HO587 := n2_; have HB := n3_; clear n0_ n1_ n2_ n3_; (try clear hb); (try clear hb2); (try clear hk); (try clear hi); (try clear ho0)))
  (try simp only [Act.put, List.setIfInBounds_toArray, List.set_cons_zero, List.set_cons_succ])
  go_cut [91] (fun v91 wc => ∃ (kq : Nat) (x91_7 : Bool), v91 = .bool x91_7 ∧ Aside0 (laws_FnParts.j0 kq l1 t575 t576 t577 t580 t581 x91_7 = some r) ∧ Aside0 (kq ≤ k) ∧ Aside0 (Kd.R k93 93 wc w.heap.size (fun _ => True) (.slice Ao10 t575.length co10) t575) ∧ Aside0 (Kd.R k93 93 wc w.heap.size (fun _ => True) v582 t580) ∧ Aside0 (Below w.heap.size w wc))
  case first =>
   as_aux_lemma =>
    have H := HC8.out
    clear HC8
    by_cases c13 : (t581 != t585) = true
    ·rw [if_pos c13] at H
     have c13b0 : (t581 != t585) = true := c13
     (try (have c13b1 : decide (t581 = t585) = false := by simpa using c13))
     (try (have c13b2 : (t581 == t585) = false := by simpa using c13))
     (try (have c13b3 : ¬ (t581 = t585) := by simpa using c13))
     clear c13
     (first|rw [c13b0]|(simp only [i64_w, i32_w]; rw [c13b0]) | skip)
     have H' := Aside0.mk H
     clear H
     go_wp2
     all_goals
      go_meet
      case rel => exact ⟨_, (true), (by first | rfl|(simp;done)|(simp [*];done)), H', ⟨by first | omega|exact Nat.le_refl _⟩, ⟨(a2_ HO579.out)⟩, ⟨(a2_ HO583.out)⟩, ⟨a0_⟩⟩
    ·rw [if_neg c13] at H
     have c13b0 : (t581 != t585) = false := by simpa using c13
     (try (have c13b1 : decide (t581 = t585) = true := by simpa using c13))
     (try (have c13b2 : (t581 == t585) = true := by simpa using c13))
     clear c13
     (first|rw [c13b0]|(simp only [i64_w, i32_w]; rw [c13b0]) | skip)
     replace H := Option.bind_eq_some_iff.mp H
     obtain ⟨t588, A140, H⟩ := H
     try dsimp only at H
     have A14 := Aside0.mk A140
     clear A140
     have H' := Aside0.mk H
     clear H
     obtain ⟨Ao15, co15, eo15⟩ := Kd.R_slice HO583.out
     subst eo15
     obtain ⟨Ao16, co16, eo16⟩ := Kd.R_slice HO587.out
     subst eo16
     go_wp2_with (first|(go_at_call 31; (with_reducible refine (laws_pSameParts.calls k _ _ t580 _ _ t584 t588 _ ?side1 ?side2 ?side3 ?side4 A14.out).mono ?_);(case side1 => exact (a9_ HO583.out));(case side2 => exact (Kd.R_reads' HO583.out).2.1);(case side3 => exact (a9_ HO587.out));(case side4 => exact (Kd.R_reads' HO587.out).2.1); rintro e w' ⟨rfl, ⟨nd, rfl⟩⟩))
     all_goals
      go_meet
      case rel => exact ⟨_, (!t588), (by first | rfl|(simp;done)|(simp [*];done)), H', ⟨by first | omega|exact Nat.le_refl _⟩, ⟨(a2_ HO579.out)⟩, ⟨(a2_ HO583.out)⟩, ⟨a0_⟩⟩
  case rest =>
   as_aux_lemma =>
    clear HC8
    try clear c1
    try clear c2
    try clear p2
    try clear c3
    try clear c4
    try clear c5
    try clear c13
    try clear c13b0
    try clear c13b1
    try clear c13b2
    obtain ⟨kq, x91_7, rfl, HA, HJ7, HO_5, HO_8, HB⟩ := hcut
    cases kq with
    | zero => exact absurd HA.out (by simp [laws_FnParts.j0])
    | succ kj7 =>
     have H := HA.out
     clear HA
     simp only [laws_FnParts.j0] at H
     by_cases c17 : x91_7 = true
     ·subst c17
      have H1 : (some false) = some r := by rw [if_pos rfl] at H; exact H
      clear H
      have H := H1
      clear H1
      exact absurd ((Option.some.inj H).trans HR_.out) (by decide)
     ·replace c17 := Bool.eq_false_iff.mpr c17
      subst c17
      have H1 : (if t581 = true then ((impl_LengthOfEdition.f kj7 t580).bind fun bt589 => (if bt589.2 = true then (laws_FnParts.j1 kj7 l1 t575 t576 t577 t580 (bt589.1 != (wrap64 (t577 - t576)))) else (laws_FnParts.j1 kj7 l1 t575 t576 t577 t580 true))) else (laws_FnParts.j3 kj7 l1)) = some r := by rw [if_neg (show ¬ (false = true) by decide)] at H; exact H
      clear H
      have H := H1
      clear H1
      have HC18 := Aside0.mk H
      clear H
      go_upto_if 92 with (fail)
      go_cut [] (fun wc => ∃ (kq : Nat), Aside0 (laws_FnParts.j3 kq l1 = some r) ∧ Aside0 (kq ≤ kj7) ∧ Aside0 (Below w.heap.size w wc))
      case first =>
       as_aux_lemma =>
        have H := HC18.out
        clear HC18
        by_cases c19 : t581 = true
        ·subst c19
         have H1 : ((impl_LengthOfEdition.f kj7 t580).bind fun bt589 => (if bt589.2 = true then (laws_FnParts.j1 kj7 l1 t575 t576 t577 t580 (bt589.1 != (wrap64 (t577 - t576)))) else (laws_FnParts.j1 kj7 l1 t575 t576 t577 t580 true))) = some r := by rw [if_pos rfl] at H; exact H
         clear H
         have H := H1
         clear H1
         replace H := Option.bind_eq_some_iff.mp H
         obtain ⟨⟨t589, t590⟩, A200, H⟩ := H
         try dsimp only at H
         have A20 := Aside0.mk A200
         clear A200
         have HC21 := Aside0.mk H
         clear H
         obtain ⟨Ao22, co22, eo22⟩ := Kd.R_slice HO_8.out
         subst eo22
         go_upto_region 10 with (first|((with_reducible refine gate_callee (f := 32) rfl ?_); refine goesL_ (some 95) rfl rfl Tryd.func32 (by kernel_rfl) rfl #[.slice Ao22 t580.length co22] rfl (by (try simp only [List.map_toArray, List.map_cons, List.map_nil]); first | done | rfl|(simp only [List.length_drop, List.length_take]; rfl)) ?_; (with_reducible refine (impl_LengthOfEdition.calls kj7 _ _ t580 t589 t590 _ ?side1 ?side2 A20.out).mono ?_);(case side1 => exact (a9_ HO_8.out));(case side2 => exact (Kd.R_reads' HO_8.out).2.1); rintro e w23 ⟨rfl, hb⟩; refine ⟨_, rfl, ?_⟩; have n0_ := Aside0.mk (Kd.R_below ((a2_ HO_5.out)) hb); have n1_ := Aside0.mk (Kd.R_below ((a2_ HO_8.out)) hb); have n2_ := Aside0.mk (below_step (a0_) hb); clear HO_5; clear HO_8; clear HB; have HO_5 := n0_; have HO_8 := n1_; have HB := n2_; clear n0_ n1_ n2_; (try clear hb); (try clear hb2); (try clear hk); (try clear hi)))
         (try simp only [Act.put, List.setIfInBounds_toArray, List.set_cons_zero, List.set_cons_succ])
         go_cut [106] (fun v106 wc => ∃ (kq : Nat) (x106_20 : Bool), v106 = .bool x106_20 ∧ Aside0 (laws_FnParts.j1 kq l1 t575 t576 t577 t580 x106_20 = some r) ∧ Aside0 (kq ≤ kj7) ∧ Aside0 (Kd.R k93 93 wc w.heap.size (fun _ => True) (.slice Ao10 t575.length co10) t575) ∧ Aside0 (Kd.R k93 93 wc w.heap.size (fun _ => True) (.slice Ao22 t580.length co22) t580) ∧ Aside0 (Below w.heap.size w wc))
         case first =>
          as_aux_lemma =>
           have H := HC21.out
           clear HC21
           by_cases c24 : t590 = true
           ·subst c24
            have H1 : (laws_FnParts.j1 kj7 l1 t575 t576 t577 t580 (t589 != (wrap64 (t577 - t576)))) = some r := by rw [if_pos rfl] at H; exact H
            clear H
            have H := H1
            clear H1
            have H' := Aside0.mk H
            clear H
            go_wp2
            all_goals
             go_meet
             case rel => exact ⟨_, ((t589 != (wrap64 (t577 - t576)))), (by first | rfl|(simp;done)|(simp [*];done)), H', ⟨by have := HJ7.out; first | omega|exact Nat.le_refl _⟩, ⟨(a2_ HO_5.out)⟩, ⟨(a2_ HO_8.out)⟩, ⟨a0_⟩⟩
           ·replace c24 := Bool.eq_false_iff.mpr c24
            subst c24
            have H1 : (laws_FnParts.j1 kj7 l1 t575 t576 t577 t580 true) = some r := by rw [if_neg (show ¬ (false = true) by decide)] at H; exact H
            clear H
            have H := H1
            clear H1
            exact (laws_FnParts.j1_true (H.trans (congrArg some HR_.out))).elim
         case rest =>
          as_aux_lemma =>
           clear HC21
           try clear c1
           try clear c2
           try clear p2
           try clear c3
           try clear c4
           try clear c5
           try clear p6
           try clear c13
           try clear c13b0
           try clear c13b1
           try clear c13b2
           try clear c17
           try clear c19
           try clear c24
           try clear p2
           obtain ⟨kq, x106_20, rfl, HA, HJ20, HO_5, HO_8, HB⟩ := hcut
           cases kq with
           | zero => exact absurd HA.out (by simp [laws_FnParts.j1])
           | succ kj20 =>
            have H := HA.out
            clear HA
            simp only [laws_FnParts.j1] at H
            by_cases c25 : x106_20 = true
            ·subst c25
             have H1 : (some false) = some r := by rw [if_pos rfl] at H; exact H
             clear H
             have H := H1
             clear H1
             exact absurd ((Option.some.inj H).trans HR_.out) (by decide)
            ·replace c25 := Bool.eq_false_iff.mpr c25
             subst c25
             have H1 : (laws_FnParts.l0 kj20 l1 t575 t576 t577 t580 0) = some r := by rw [if_neg (show ¬ (false = true) by decide)] at H; exact H
             clear H
             have H := H1
             clear H1
             have H' := Aside0.mk H
             clear H
             go_wp2
             (try simp only [Act.put, List.setIfInBounds_toArray, List.set_cons_zero, List.set_cons_succ])
             go_loopg [14] kj20 (fun kq v14 w' => ∃ (x14_3 : Int), v14 = .int .i64 x14_3 ∧ Aside0 (laws_FnParts.l0 kq l1 t575 t576 t577 t580 x14_3 = some r) ∧ Aside0 (kq ≤ kj20) ∧ Aside0 (Kd.R k93 93 w' w.heap.size (fun _ => True) (.slice Ao10 t575.length co10) t575) ∧ Aside0 (Kd.R k93 93 w' w.heap.size (fun _ => True) (.slice Ao22 t580.length co22) t580) ∧ Aside0 (Below w.heap.size w w'))
             case atStart => exact ⟨(0), (by first | rfl|(simp;done)|(simp [*];done)), H', ⟨Nat.le_refl _⟩, ⟨(a2_ HO_5.out)⟩, ⟨(a2_ HO_8.out)⟩, ⟨a0_⟩⟩
             case round =>
              clear H'
              try clear c1
              try clear c2
              try clear p2
              try clear c3
              try clear c4
              try clear c5
              try clear p6
              try clear c13
              try clear c13b0
              try clear c13b1
              try clear c13b2
              try clear c17
              try clear c19
              try clear c24
              try clear c25
              try clear p2
              try clear p6
              obtain ⟨x14_3, rfl, HA, HK3, HO_5, HO_8, HB⟩ := hrel
              cases gk with
              | zero => exact absurd HA.out (by simp [laws_FnParts.l0])
              | succ k3 =>
               have H := HA.out
               clear HA
               simp only [laws_FnParts.l0] at H
               by_cases c26 : x14_3 ≤ 10
               ·rw [if_pos c26] at H
                have c26b0 : decide (x14_3 ≤ 10) = true := decide_eq_true c26
                clear c26
                replace H := Option.bind_eq_some_iff.mp H
                obtain ⟨⟨t591, t592, t593⟩, A270, H⟩ := H
                try dsimp only at H
                have A27 := Aside0.mk A270
                clear A270
                replace H := Option.bind_eq_some_iff.mp H
                obtain ⟨⟨t594, t595, t596⟩, A280, H⟩ := H
                try dsimp only at H
                have A28 := Aside0.mk A280
                clear A280
                replace H := Option.bind_eq_some_iff.mp H
                obtain ⟨⟨t597, t598, t599⟩, A290, H⟩ := H
                try dsimp only at H
                have A29 := Aside0.mk A290
                clear A290
                by_cases c30 : t593 = true
                ·subst c30
                 have H1 : (if t596 = true then (if t599 = true then (if t594 = t597 then (if t595 = t598 then (if t591 = t597 then (if t592 = t598 then (laws_FnParts.l0 k3 l1 t575 t576 t577 t580 (wrap64 (x14_3 + 1))) else (some false)) else (some false)) else (some false)) else (some false)) else (some false)) else (some false)) = some r := by rw [if_pos rfl] at H; exact H
                 clear H
                 have H := H1
                 clear H1
                 by_cases c31 : t596 = true
                 ·subst c31
                  have H1 : (if t599 = true then (if t594 = t597 then (if t595 = t598 then (if t591 = t597 then (if t592 = t598 then (laws_FnParts.l0 k3 l1 t575 t576 t577 t580 (wrap64 (x14_3 + 1))) else (some false)) else (some false)) else (some false)) else (some false)) else (some false)) = some r := by rw [if_pos rfl] at H; exact H
                  clear H
                  have H := H1
                  clear H1
                  by_cases c32 : t599 = true
                  ·subst c32
                   have H1 : (if t594 = t597 then (if t595 = t598 then (if t591 = t597 then (if t592 = t598 then (laws_FnParts.l0 k3 l1 t575 t576 t577 t580 (wrap64 (x14_3 + 1))) else (some false)) else (some false)) else (some false)) else (some false)) = some r := by rw [if_pos rfl] at H; exact H
                   clear H
                   have H := H1
                   clear H1
                   by_cases c33 : t594 = t597
                   ·rw [if_pos c33] at H
                    have c33b0 : (t594 == t597) = true := beq_iff_eq.mpr c33
                    have c33b1 : (t594 != t597) = false := bne_eq_false_iff_eq.mpr c33
                    clear c33
                    by_cases c34 : t595 = t598
                    ·rw [if_pos c34] at H
                     have c34b0 : (t595 == t598) = true := beq_iff_eq.mpr c34
                     have c34b1 : (t595 != t598) = false := bne_eq_false_iff_eq.mpr c34
                     clear c34
                     by_cases c35 : t591 = t597
                     ·rw [if_pos c35] at H
                      have c35b0 : (t591 == t597) = true := beq_iff_eq.mpr c35
                      have c35b1 : (t591 != t597) = false := bne_eq_false_iff_eq.mpr c35
                      clear c35
                      by_cases c36 : t592 = t598
                      ·rw [if_pos c36] at H
                       have c36b0 : (t592 == t598) = true := beq_iff_eq.mpr c36
                       have c36b1 : (t592 != t598) = false := bne_eq_false_iff_eq.mpr c36
                       clear c36
                       have H' := Aside0.mk H
                       clear H
                       go_wp2_with (first|((with_reducible refine gate_callee (f := 33) rfl ?_); refine goesL_ (some 121) rfl rfl Tryd.func33 (by kernel_rfl) rfl #[.slice Ao22 t580.length co22, .int .i64 (wrap64 (Int.tdiv (wrap64 (x14_3 * (wrap64 ((wrap64 (t577 - t576)) - 1)))) 10))] rfl (by (try simp only [List.map_toArray, List.map_cons, List.map_nil]); first | done | rfl|(simp only [List.length_drop, List.length_take]; rfl)) ?_; (with_reducible refine (impl_SourceAt.calls k3 _ _ t580 (wrap64 (Int.tdiv (wrap64 (x14_3 * (wrap64 ((wrap64 (t577 - t576)) - 1)))) 10)) t591 t592 true _ ?side1 ?side2 A27.out).mono ?_);(case side1 => exact (a9_ HO_8.out));(case side2 => exact (Kd.R_reads' HO_8.out).2.1); rintro e w37 ⟨rfl, hb⟩; refine ⟨_, rfl, ?_⟩; have n0_ := Aside0.mk (Kd.R_below ((a2_ HO_5.out)) hb); have n1_ := Aside0.mk (Kd.R_below ((a2_ HO_8.out)) hb); have n2_ := Aside0.mk (below_step (a0_) hb); clear HO_5; clear HO_8; clear HB; have HO_5 := n0_; have HO_8 := n1_; have HB := n2_; clear n0_ n1_ n2_; (try clear hb); (try clear hb2); (try clear hk); (try clear hi))|((with_reducible refine gate_callee (f := 33) rfl ?_); refine goesL_ (some 130) rfl rfl Tryd.func33 (by kernel_rfl) rfl #[.slice Ao10 t575.length co10, .int .i64 (wrap64 (t576 + (wrap64 (Int.tdiv (wrap64 (x14_3 * (wrap64 ((wrap64 (t577 - t576)) - 1)))) 10))))] rfl (by (try simp only [List.map_toArray, List.map_cons, List.map_nil]); first | done | rfl|(simp only [List.length_drop, List.length_take]; rfl)) ?_; (with_reducible refine (impl_SourceAt.calls k3 _ _ t575 (wrap64 (t576 + (wrap64 (Int.tdiv (wrap64 (x14_3 * (wrap64 ((wrap64 (t577 - t576)) - 1)))) 10)))) t594 t595 true _ ?side1 ?side2 A28.out).mono ?_);(case side1 => exact (a9_ HO_5.out));(case side2 => exact (Kd.R_reads' HO_5.out).2.1); rintro e w38 ⟨rfl, hb⟩; refine ⟨_, rfl, ?_⟩; have n0_ := Aside0.mk (Kd.R_below ((a2_ HO_5.out)) hb); have n1_ := Aside0.mk (Kd.R_below ((a2_ HO_8.out)) hb); have n2_ := Aside0.mk (below_step (a0_) hb); clear HO_5; clear HO_8; clear HB; have HO_5 := n0_; have HO_8 := n1_; have HB := n2_; clear n0_ n1_ n2_; (try clear hb); (try clear hb2); (try clear hk); (try clear hi))|((with_reducible refine gate_callee (f := 34) rfl ?_); refine goesL_ (some 139) rfl rfl Tryd.func34 (by kernel_rfl) rfl #[.slice Ao10 t575.length co10, .int .i64 (wrap64 (t576 + (wrap64 (Int.tdiv (wrap64 (x14_3 * (wrap64 ((wrap64 (t577 - t576)) - 1)))) 10))))] rfl (by (try simp only [List.map_toArray, List.map_cons, List.map_nil]); first | done | rfl|(simp only [List.length_drop, List.length_take]; rfl)) ?_; (with_reducible refine (spec_SourceAt.calls k3 _ _ t575 (wrap64 (t576 + (wrap64 (Int.tdiv (wrap64 (x14_3 * (wrap64 ((wrap64 (t577 - t576)) - 1)))) 10)))) t597 t598 true _ ?side1 ?side2 A29.out).mono ?_);(case side1 => exact (a9_ HO_5.out));(case side2 => exact (Kd.R_reads' HO_5.out).2.1); rintro e w39 ⟨rfl, hb⟩; refine ⟨_, rfl, ?_⟩; have n0_ := Aside0.mk (Kd.R_below ((a2_ HO_5.out)) hb); have n1_ := Aside0.mk (Kd.R_below ((a2_ HO_8.out)) hb); have n2_ := Aside0.mk (below_step (a0_) hb); clear HO_5; clear HO_8; clear HB; have HO_5 := n0_; have HO_8 := n1_; have HB := n2_; clear n0_ n1_ n2_; (try clear hb); (try clear hb2); (try clear hk); (try clear hi)))
                       go_roundg k3
                       case measure => have := HJ7.out; have := HJ20.out; have := HK3.out; omega
                       case rel => exact ⟨(wrap64 (x14_3 + 1)), (by first | rfl|(simp;done)|(simp [*];done)), H', ⟨by have := HJ7.out; have := HJ20.out; have := HK3.out; omega⟩, ⟨(a2_ HO_5.out)⟩, ⟨(a2_ HO_8.out)⟩, ⟨a0_⟩⟩
                      ·rw [if_neg c36] at H
                       have c36b0 : (t592 == t598) = false := beq_eq_false_iff_ne.mpr c36
                       have c36b1 : (t592 != t598) = true := bne_iff_ne.mpr c36
                       exact absurd ((Option.some.inj H).trans HR_.out) (by decide)
                     ·rw [if_neg c35] at H
                      have c35b0 : (t591 == t597) = false := beq_eq_false_iff_ne.mpr c35
                      have c35b1 : (t591 != t597) = true := bne_iff_ne.mpr c35
                      exact absurd ((Option.some.inj H).trans HR_.out) (by decide)
                    ·rw [if_neg c34] at H
                     have c34b0 : (t595 == t598) = false := beq_eq_false_iff_ne.mpr c34
                     have c34b1 : (t595 != t598) = true := bne_iff_ne.mpr c34
                     exact absurd ((Option.some.inj H).trans HR_.out) (by decide)
                   ·rw [if_neg c33] at H
                    have c33b0 : (t594 == t597) = false := beq_eq_false_iff_ne.mpr c33
                    have c33b1 : (t594 != t597) = true := bne_iff_ne.mpr c33
                    exact absurd ((Option.some.inj H).trans HR_.out) (by decide)
                  ·replace c32 := Bool.eq_false_iff.mpr c32
                   subst c32
                   have H1 : (some false) = some r := by rw [if_neg (show ¬ (false = true) by decide)] at H; exact H
                   clear H
                   have H := H1
                   clear H1
                   exact absurd ((Option.some.inj H).trans HR_.out) (by decide)
                 ·replace c31 := Bool.eq_false_iff.mpr c31
                  subst c31
                  have H1 : (some false) = some r := by rw [if_neg (show ¬ (false = true) by decide)] at H; exact H
                  clear H
                  have H := H1
                  clear H1
                  exact absurd ((Option.some.inj H).trans HR_.out) (by decide)
                ·replace c30 := Bool.eq_false_iff.mpr c30
                 subst c30
                 have H1 : (some false) = some r := by rw [if_neg (show ¬ (false = true) by decide)] at H; exact H
                 clear H
                 have H := H1
                 clear H1
                 exact absurd ((Option.some.inj H).trans HR_.out) (by decide)
               ·rw [if_neg c26] at H
                have c26b0 : decide (x14_3 ≤ 10) = false := decide_eq_false c26
                clear c26
                have H' := Aside0.mk H
                clear H
                go_wp2
                all_goals
                 go_meet
                 case rel => exact ⟨_, H', ⟨by have := HJ7.out; have := HJ20.out; have := HK3.out; first | omega|exact Nat.le_refl _⟩, ⟨a0_⟩⟩
        ·replace c19 := Bool.eq_false_iff.mpr c19
         subst c19
         have H1 : (laws_FnParts.j3 kj7 l1) = some r := by rw [if_neg (show ¬ (false = true) by decide)] at H; exact H
         clear H
         have H := H1
         clear H1
         have H' := Aside0.mk H
         clear H
         go_wp2
         all_goals
          go_meet
          case rel => exact ⟨_, H', ⟨by have := HJ7.out; first | omega|exact Nat.le_refl _⟩, ⟨a0_⟩⟩
      case rest =>
       as_aux_lemma =>
        clear HC18
        try clear c1
        try clear c2
        try clear p2
        try clear c3
        try clear c4
        try clear c5
        try clear p6
        try clear c13
        try clear c13b0
        try clear c13b1
        try clear c13b2
        try clear c17
        try clear c19
        try clear c24
        try clear c25
        try clear c26
        try clear c26b0
        try clear c28
        try clear c29
        try clear c30
        try clear c31
        try clear c32
        try clear c33
        try clear c33b0
        try clear c33b1
        try clear c34
        try clear c34b0
        try clear c34b1
        try clear c35
        try clear c35b0
        try clear c35b1
        try clear c36
        try clear c36b0
        try clear c36b1
        try clear p2
        try clear p6
        obtain ⟨kq, HA, HJ17, HB⟩ := hcut
        cases kq with
        | zero => exact absurd HA.out (by simp [laws_FnParts.j3])
        | succ kj17 =>
         have H := HA.out
         clear HA
         simp only [laws_FnParts.j3] at H
         replace H := Option.bind_eq_some_iff.mp H
         obtain ⟨t600, A610, H⟩ := H
         try dsimp only at H
         have A61 := Aside0.mk A610
         clear A610
         replace H := Option.bind_eq_some_iff.mp H
         obtain ⟨⟨t603, t604⟩, A620, H⟩ := H
         try dsimp only at H
         have A62 := Aside0.mk A620
         clear A620
         replace H := Option.bind_eq_some_iff.mp H
         obtain ⟨⟨t607, t608⟩, A630, H⟩ := H
         try dsimp only at H
         have A63 := Aside0.mk A630
         clear A630
         replace H := Option.bind_eq_some_iff.mp H
         obtain ⟨⟨t611, t612⟩, A640, H⟩ := H
         try dsimp only at H
         have A64 := Aside0.mk A640
         clear A640
         replace H := Option.bind_eq_some_iff.mp H
         obtain ⟨⟨t613, t614⟩, A650, H⟩ := H
         try dsimp only at H
         have A65 := Aside0.mk A650
         clear A650
         replace H := Option.bind_eq_some_iff.mp H
         obtain ⟨⟨t615, t616⟩, A660, H⟩ := H
         try dsimp only at H
         have A66 := Aside0.mk A660
         clear A660
         replace H := Option.bind_eq_some_iff.mp H
         obtain ⟨⟨t617, t618⟩, A670, H⟩ := H
         try dsimp only at H
         have A67 := Aside0.mk A670
         clear A670
         have HC68 := Aside0.mk H
         clear H
         go_upto_region 28 with (first|((with_reducible refine gate_callee (f := 35) rfl ?_); refine goesL_ (some 174) rfl rfl Tryd.func35 (by kernel_rfl) rfl #[.slice A1 l1.length c1] rfl (by (try simp only [List.map_toArray, List.map_cons, List.map_nil]); first | done | rfl|(simp only [List.length_drop, List.length_take]; rfl)) ?_; (with_reducible refine (spec_DrawUsedSources.calls kj17 _ _ l1 t600 _ ?side1 ?side2 A61.out).mono ?_);(case side1 => exact (a11_ HR1.out));(case side2 => exact HC1.out); rintro e w69 ⟨v601, rfl, ho0, hb⟩; refine ⟨_, rfl, ?_⟩; have n0_ := Aside0.mk (Kd.R_lower ho0 (below_size (a0_))); have n1_ := Aside0.mk (below_step (a0_) hb); clear HB; have HO602 := n0_; have HB := n1_; clear n0_ n1_; (try clear hb); (try clear hb2); (try clear hk); (try clear hi); (try clear ho0); obtain ⟨Ao70, co70, eo70⟩ := Kd.R_slice HO602.out; subst eo70)|((with_reducible refine gate_callee (f := 36) rfl ?_); refine goesL_ (some 177) rfl rfl Tryd.func36 (by kernel_rfl) rfl #[.slice Ao70 t600.length co70] rfl (by (try simp only [List.map_toArray, List.map_cons, List.map_nil]); first | done | rfl|(simp only [List.length_drop, List.length_take]; rfl)) ?_; (with_reducible refine (impl_UsedSources.calls kj17 _ _ t600 t603 t604 _ ?side1 ?side2 A62.out).mono ?_);(case side1 => exact (a9_ HO602.out));(case side2 => exact (Kd.R_reads' HO602.out).2.1); rintro e w71 ⟨v605, rfl, ho0, hb⟩; refine ⟨_, rfl, ?_⟩; have n0_ := Aside0.mk (Kd.R_below ((a2_ HO602.out)) hb); have n1_ := Aside0.mk (Kd.R_lower ho0 (below_size (a0_))); have n2_ := Aside0.mk (below_step (a0_) hb); clear HO602; clear HB; have HO602 := n0_; have HO606 := n1_; have HB := n2_; clear n0_ n1_ n2_; (try clear hb); (try clear hb2); (try clear hk); (try clear hi); (try clear ho0))|((with_reducible refine gate_callee (f := 37) rfl ?_); refine goesL_ (some 182) rfl rfl Tryd.func37 (by kernel_rfl) rfl #[.slice Ao70 t600.length co70] rfl (by (try simp only [List.map_toArray, List.map_cons, List.map_nil]); first | done | rfl|(simp only [List.length_drop, List.length_take]; rfl)) ?_; (with_reducible refine (spec_UsedSources.calls kj17 _ _ t600 t607 t608 _ ?side1 ?side2 A63.out).mono ?_);(case side1 => exact (a9_ HO602.out));(case side2 => exact (Kd.R_reads' HO602.out).2.1); rintro e w72 ⟨v609, rfl, ho0, hb⟩; refine ⟨_, rfl, ?_⟩; have n0_ := Aside0.mk (Kd.R_below ((a2_ HO602.out)) hb); have n1_ := Aside0.mk (Kd.R_below ((a2_ HO606.out)) hb); have n2_ := Aside0.mk (Kd.R_lower ho0 (below_size (a0_))); have n3_ := Aside0.mk (below_step (a0_) hb); clear HO602; clear HO606; clear HB; have HO602 := n0_; have HO606 := n1_; have HO610 := n2_; have HB := n3_; clear n0_ n1_ n2_ n3_; (try clear hb); (try clear hb2); (try clear hk); (try clear hi); (try clear ho0))|((with_reducible refine gate_callee (f := 32) rfl ?_); refine goesL_ (some 187) rfl rfl Tryd.func32 (by kernel_rfl) rfl #[.slice Ao70 t600.length co70] rfl (by (try simp only [List.map_toArray, List.map_cons, List.map_nil]); first | done | rfl|(simp only [List.length_drop, List.length_take]; rfl)) ?_; (with_reducible refine (impl_LengthOfEdition.calls kj17 _ _ t600 t611 t612 _ ?side1 ?side2 A64.out).mono ?_);(case side1 => exact (a9_ HO602.out));(case side2 => exact (Kd.R_reads' HO602.out).2.1); rintro e w73 ⟨rfl, hb⟩; refine ⟨_, rfl, ?_⟩; have n0_ := Aside0.mk (Kd.R_below ((a2_ HO602.out)) hb); have n1_ := Aside0.mk (Kd.R_below ((a2_ HO606.out)) hb); have n2_ := Aside0.mk (Kd.R_below ((a2_ HO610.out)) hb); have n3_ := Aside0.mk (below_step (a0_) hb); clear HO602; clear HO606; clear HO610; clear HB; have HO602 := n0_; have HO606 := n1_; have HO610 := n2_; have HB := n3_; clear n0_ n1_ n2_ n3_; (try clear hb); (try clear hb2); (try clear hk); (try clear hi))|((with_reducible refine gate_callee (f := 38) rfl ?_); refine goesL_ (some 192) rfl rfl Tryd.func38 (by kernel_rfl) rfl #[.slice Ao70 t600.length co70] rfl (by (try simp only [List.map_toArray, List.map_cons, List.map_nil]); first | done | rfl|(simp only [List.length_drop, List.length_take]; rfl)) ?_; (with_reducible refine (spec_LengthOfEdition.calls kj17 _ _ t600 t613 t614 _ ?side1 ?side2 A65.out).mono ?_);(case side1 => exact (a9_ HO602.out));(case side2 => exact (Kd.R_reads' HO602.out).2.1); rintro e w74 ⟨rfl, hb⟩; refine ⟨_, rfl, ?_⟩; have n0_ := Aside0.mk (Kd.R_below ((a2_ HO602.out)) hb); have n1_ := Aside0.mk (Kd.R_below ((a2_ HO606.out)) hb); have n2_ := Aside0.mk (Kd.R_below ((a2_ HO610.out)) hb); have n3_ := Aside0.mk (below_step (a0_) hb); clear HO602; clear HO606; clear HO610; clear HB; have HO602 := n0_; have HO606 := n1_; have HO610 := n2_; have HB := n3_; clear n0_ n1_ n2_ n3_; (try clear hb); (try clear hb2); (try clear hk); (try clear hi))|((with_reducible refine gate_callee (f := 39) rfl ?_); refine goesL_ (some 197) rfl rfl Tryd.func39 (by kernel_rfl) rfl #[.slice Ao70 t600.length co70] rfl (by (try simp only [List.map_toArray, List.map_cons, List.map_nil]); first | done | rfl|(simp only [List.length_drop, List.length_take]; rfl)) ?_; (with_reducible refine (impl_PartsText.calls kj17 _ _ t600 t615 t616 _ ?side1 ?side2 ?side3 A66.out).mono ?_);(case side1 => exact (a9_ HO602.out));(case side2 => exact (Kd.R_reads' HO602.out).2.1);(case side3 => exact DoorLib.tab_below HT0.out (a0_)); rintro e w75 ⟨rfl, hb⟩; refine ⟨_, rfl, ?_⟩; have n0_ := Aside0.mk (Kd.R_below ((a2_ HO602.out)) hb); have n1_ := Aside0.mk (Kd.R_below ((a2_ HO606.out)) hb); have n2_ := Aside0.mk (Kd.R_below ((a2_ HO610.out)) hb); have n3_ := Aside0.mk (below_step (a0_) hb); clear HO602; clear HO606; clear HO610; clear HB; have HO602 := n0_; have HO606 := n1_; have HO610 := n2_; have HB := n3_; clear n0_ n1_ n2_ n3_; (try clear hb); (try clear hb2); (try clear hk); (try clear hi))|((with_reducible refine gate_callee (f := 40) rfl ?_); refine goesL_ (some 202) rfl rfl Tryd.func40 (by kernel_rfl) rfl #[.slice Ao70 t600.length co70] rfl (by (try simp only [List.map_toArray, List.map_cons, List.map_nil]); first | done | rfl|(simp only [List.length_drop, List.length_take]; rfl)) ?_; (with_reducible refine (spec_PartsText.calls kj17 _ _ t600 t617 t618 _ ?side1 ?side2 A67.out).mono ?_);(case side1 => exact (a9_ HO602.out));(case side2 => exact (Kd.R_reads' HO602.out).2.1); rintro e w76 ⟨rfl, hb⟩; refine ⟨_, rfl, ?_⟩; have n0_ := Aside0.mk (Kd.R_below ((a2_ HO602.out)) hb); have n1_ := Aside0.mk (Kd.R_below ((a2_ HO606.out)) hb); have n2_ := Aside0.mk (Kd.R_below ((a2_ HO610.out)) hb); have n3_ := Aside0.mk (below_step (a0_) hb); clear HO602; clear HO606; clear HO610; clear HB; have HO602 := n0_; have HO606 := n1_; have HO610 := n2_; have HB := n3_; clear n0_ n1_ n2_ n3_; (try clear hb); (try clear hb2); (try clear hk); (try clear hi)))
         (try simp only [Act.put, List.setIfInBounds_toArray, List.set_cons_zero, List.set_cons_succ])
         go_cut [249] (fun v249 wc => ∃ (kq : Nat) (x249_67 : Bool), v249 = .bool x249_67 ∧ Aside0 (laws_FnParts.j4 kq l1 t600 t604 t607 t613 x249_67 = some r) ∧ Aside0 (kq ≤ kj17) ∧ Aside0 (Kd.R k93 93 wc w.heap.size (fun _ => True) (.slice Ao70 t600.length co70) t600) ∧ Aside0 (Kd.R (Kd.int .i64) 3 wc w.heap.size (fun _ => True) v609 t607) ∧ Aside0 (Below w.heap.size w wc))
         case first =>
          as_aux_lemma =>
           have H := HC68.out
           clear HC68
           by_cases c77 : (t604 != t608) = true
           ·rw [if_pos c77] at H
            have c77b0 : (t604 != t608) = true := c77
            (try (have c77b1 : decide (t604 = t608) = false := by simpa using c77))
            (try (have c77b2 : (t604 == t608) = false := by simpa using c77))
            (try (have c77b3 : ¬ (t604 = t608) := by simpa using c77))
            clear c77
            (first|rw [c77b0]|(simp only [i64_w, i32_w]; rw [c77b0]) | skip)
            have H' := Aside0.mk H
            clear H
            go_wp2
            all_goals
             go_meet
             case rel => exact ⟨_, (true), (by first | rfl|(simp;done)|(simp [*];done)), H', ⟨by have := HJ7.out; have := HJ17.out; first | omega|exact Nat.le_refl _⟩, ⟨(a2_ HO602.out)⟩, ⟨(a2_ HO610.out)⟩, ⟨a0_⟩⟩
           ·rw [if_neg c77] at H
            have c77b0 : (t604 != t608) = false := by simpa using c77
            (try (have c77b1 : decide (t604 = t608) = true := by simpa using c77))
            (try (have c77b2 : (t604 == t608) = true := by simpa using c77))
            clear c77
            (first|rw [c77b0]|(simp only [i64_w, i32_w]; rw [c77b0]) | skip)
            replace H := Option.bind_eq_some_iff.mp H
            obtain ⟨t619, A780, H⟩ := H
            try dsimp only at H
            have A78 := Aside0.mk A780
            clear A780
            by_cases c79 : t619 = true
            ·subst c79
             have H1 : (if (t612 != t614) = true then (laws_FnParts.j4 kj17 l1 t600 t604 t607 t613 true) else (if t611 = t613 then (if (t616 != t618) = true then (laws_FnParts.j4 kj17 l1 t600 t604 t607 t613 true) else (if t615.toList = t617.toList then (if (t612 != t604) = true then (laws_FnParts.j4 kj17 l1 t600 t604 t607 t613 true) else (if (t616 != t604) = true then (laws_FnParts.j4 kj17 l1 t600 t604 t607 t613 true) else ((impl_AreParts.f kj17 t600 4).bind fun t620 => (laws_FnParts.j4 kj17 l1 t600 t604 t607 t613 (t620 != t604))))) else (laws_FnParts.j4 kj17 l1 t600 t604 t607 t613 true))) else (laws_FnParts.j4 kj17 l1 t600 t604 t607 t613 true))) = some r := by rw [if_pos rfl] at H; exact H
             clear H
             have H := H1
             clear H1
             by_cases c80 : (t612 != t614) = true
             ·rw [if_pos c80] at H
              have c80b0 : (t612 != t614) = true := c80
              (try (have c80b1 : decide (t612 = t614) = false := by simpa using c80))
              (try (have c80b2 : (t612 == t614) = false := by simpa using c80))
              (try (have c80b3 : ¬ (t612 = t614) := by simpa using c80))
              clear c80
              exact (laws_FnParts.j4_true (H.trans (congrArg some HR_.out))).elim
             ·rw [if_neg c80] at H
              have c80b0 : (t612 != t614) = false := by simpa using c80
              (try (have c80b1 : decide (t612 = t614) = true := by simpa using c80))
              (try (have c80b2 : (t612 == t614) = true := by simpa using c80))
              clear c80
              by_cases c83 : t611 = t613
              ·rw [if_pos c83] at H
               have c83b0 : (t611 == t613) = true := beq_iff_eq.mpr c83
               have c83b1 : (t611 != t613) = false := bne_eq_false_iff_eq.mpr c83
               clear c83
               by_cases c84 : (t616 != t618) = true
               ·rw [if_pos c84] at H
                have c84b0 : (t616 != t618) = true := c84
                (try (have c84b1 : decide (t616 = t618) = false := by simpa using c84))
                (try (have c84b2 : (t616 == t618) = false := by simpa using c84))
                (try (have c84b3 : ¬ (t616 = t618) := by simpa using c84))
                clear c84
                exact (laws_FnParts.j4_true (H.trans (congrArg some HR_.out))).elim
               ·rw [if_neg c84] at H
                have c84b0 : (t616 != t618) = false := by simpa using c84
                (try (have c84b1 : decide (t616 = t618) = true := by simpa using c84))
                (try (have c84b2 : (t616 == t618) = true := by simpa using c84))
                clear c84
                by_cases c87 : t615.toList = t617.toList
                ·rw [if_pos c87] at H
                 have c87b0 : (t615.toList == t617.toList) = true := beq_iff_eq.mpr c87
                 have c87b1 : (t615.toList != t617.toList) = false := bne_eq_false_iff_eq.mpr c87
                 clear c87
                 by_cases c88 : (t612 != t604) = true
                 ·rw [if_pos c88] at H
                  have c88b0 : (t612 != t604) = true := c88
                  (try (have c88b1 : decide (t612 = t604) = false := by simpa using c88))
                  (try (have c88b2 : (t612 == t604) = false := by simpa using c88))
                  (try (have c88b3 : ¬ (t612 = t604) := by simpa using c88))
                  clear c88
                  exact (laws_FnParts.j4_true (H.trans (congrArg some HR_.out))).elim
                 ·rw [if_neg c88] at H
                  have c88b0 : (t612 != t604) = false := by simpa using c88
                  (try (have c88b1 : decide (t612 = t604) = true := by simpa using c88))
                  (try (have c88b2 : (t612 == t604) = true := by simpa using c88))
                  clear c88
                  by_cases c91 : (t616 != t604) = true
                  ·rw [if_pos c91] at H
                   have c91b0 : (t616 != t604) = true := c91
                   (try (have c91b1 : decide (t616 = t604) = false := by simpa using c91))
                   (try (have c91b2 : (t616 == t604) = false := by simpa using c91))
                   (try (have c91b3 : ¬ (t616 = t604) := by simpa using c91))
                   clear c91
                   exact (laws_FnParts.j4_true (H.trans (congrArg some HR_.out))).elim
                  ·rw [if_neg c91] at H
                   have c91b0 : (t616 != t604) = false := by simpa using c91
                   (try (have c91b1 : decide (t616 = t604) = true := by simpa using c91))
                   (try (have c91b2 : (t616 == t604) = true := by simpa using c91))
                   clear c91
                   replace H := Option.bind_eq_some_iff.mp H
                   obtain ⟨t620, A940, H⟩ := H
                   try dsimp only at H
                   have A94 := Aside0.mk A940
                   clear A940
                   have H' := Aside0.mk H
                   clear H
                   obtain ⟨Ao95, co95, eo95⟩ := Kd.R_slice HO606.out
                   subst eo95
                   obtain ⟨Ao96, co96, eo96⟩ := Kd.R_slice HO610.out
                   subst eo96
                   go_wp2_with (first|(go_at_call 11; (with_reducible refine (laws_sameInts.calls kj17 _ _ t603 _ _ t607 true _ ?side1 ?side2 ?side3 ?side4 A78.out).mono ?_);(case side1 => exact (a9_ HO606.out));(case side2 => exact (Kd.R_reads' HO606.out).2.1);(case side3 => exact (a9_ HO610.out));(case side4 => exact (Kd.R_reads' HO610.out).2.1); rintro e w' ⟨rfl, ⟨nd, rfl⟩⟩)|(go_at_call 41; (with_reducible refine (impl_AreParts.calls kj17 _ _ t600 4 t620 _ ?side1 ?side2 A94.out).mono ?_);(case side1 => exact (a9_ HO602.out));(case side2 => exact (Kd.R_reads' HO602.out).2.1); rintro e w97 ⟨rfl, hb⟩; have n0_ := Aside0.mk (Kd.R_below ((a2_ HO602.out)) hb); have n1_ := Aside0.mk (Kd.R_below ((a2_ HO606.out)) hb); have n2_ := Aside0.mk (Kd.R_below ((a2_ HO610.out)) hb); have n3_ := Aside0.mk (below_step (a0_) hb); clear HO602; clear HO606; clear HO610; clear HB; have HO602 := n0_; have HO606 := n1_; have HO610 := n2_; have HB := n3_; clear n0_ n1_ n2_ n3_; (try clear hb); (try clear hb2); (try clear hk); (try clear hi)))
                   all_goals
                    go_meet
                    case rel => exact ⟨_, ((t620 != t604)), (by first | rfl|(simp;done)|(simp [*];done)), H', ⟨by have := HJ7.out; have := HJ17.out; first | omega|exact Nat.le_refl _⟩, ⟨(a2_ HO602.out)⟩, ⟨(a2_ HO610.out)⟩, ⟨a0_⟩⟩
                ·rw [if_neg c87] at H
                 have c87b0 : (t615.toList == t617.toList) = false := beq_eq_false_iff_ne.mpr c87
                 have c87b1 : (t615.toList != t617.toList) = true := bne_iff_ne.mpr c87
                 exact (laws_FnParts.j4_true (H.trans (congrArg some HR_.out))).elim
              ·rw [if_neg c83] at H
               have c83b0 : (t611 == t613) = false := beq_eq_false_iff_ne.mpr c83
               have c83b1 : (t611 != t613) = true := bne_iff_ne.mpr c83
               exact (laws_FnParts.j4_true (H.trans (congrArg some HR_.out))).elim
            ·replace c79 := Bool.eq_false_iff.mpr c79
             subst c79
             have H1 : (laws_FnParts.j4 kj17 l1 t600 t604 t607 t613 true) = some r := by rw [if_neg (show ¬ (false = true) by decide)] at H; exact H
             clear H
             have H := H1
             clear H1
             exact (laws_FnParts.j4_true (H.trans (congrArg some HR_.out))).elim
         case rest =>
          as_aux_lemma =>
           clear HC68
           try clear c1
           try clear c2
           try clear p2
           try clear c3
           try clear c4
           try clear c5
           try clear p6
           try clear c7
           try clear c8
           try clear c9
           try clear c13
           try clear c13b0
           try clear c13b1
           try clear c13b2
           try clear c17
           try clear c19
           try clear c24
           try clear c25
           try clear c26
           try clear c26b0
           try clear c28
           try clear c29
           try clear c30
           try clear c31
           try clear c32
           try clear c33
           try clear c33b0
           try clear c33b1
           try clear c34
           try clear c34b0
           try clear c34b1
           try clear c35
           try clear c35b0
           try clear c35b1
           try clear c36
           try clear c36b0
           try clear c36b1
           try clear c37
           try clear c38
           try clear c39
           try clear c40
           try clear p64
           try clear c77
           try clear c77b0
           try clear c77b1
           try clear c77b2
           try clear c79
           try clear c80
           try clear c80b0
           try clear c80b1
           try clear c80b2
           try clear c83
           try clear c83b0
           try clear c83b1
           try clear c84
           try clear c84b0
           try clear c84b1
           try clear c84b2
           try clear c87
           try clear c87b0
           try clear c87b1
           try clear c88
           try clear c88b0
           try clear c88b1
           try clear c88b2
           try clear c91
           try clear c91b0
           try clear c91b1
           try clear c91b2
           try clear p2
           try clear p6
           obtain ⟨kq, x249_67, rfl, HA, HJ67, HO_25, HO_28, HB⟩ := hcut
           cases kq with
           | zero => exact absurd HA.out (by simp [laws_FnParts.j4])
           | succ kj67 =>
            have H := HA.out
            clear HA
            simp only [laws_FnParts.j4] at H
            by_cases c104 : x249_67 = true
            ·subst c104
             have H1 : (some false) = some r := by rw [if_pos rfl] at H; exact H
             clear H
             have H := H1
             clear H1
             exact absurd ((Option.some.inj H).trans HR_.out) (by decide)
            ·replace c104 := Bool.eq_false_iff.mpr c104
             subst c104
             have H1 : (if t604 = true then (laws_FnParts.l1 kj67 l1 t600 t607 t613 0 0) else (laws_FnParts.j6 kj67 l1)) = some r := by rw [if_neg (show ¬ (false = true) by decide)] at H; exact H
             clear H
             have H := H1
             clear H1
             have HC105 := Aside0.mk H
             clear H
             go_upto_if 250 with (fail)
             go_cut [] (fun wc => ∃ (kq : Nat), Aside0 (laws_FnParts.j6 kq l1 = some r) ∧ Aside0 (kq ≤ kj67) ∧ Aside0 (Below w.heap.size w wc))
             case first =>
              as_aux_lemma =>
               have H := HC105.out
               clear HC105
               by_cases c106 : t604 = true
               ·subst c106
                have H1 : (laws_FnParts.l1 kj67 l1 t600 t607 t613 0 0) = some r := by rw [if_pos rfl] at H; exact H
                clear H
                have H := H1
                clear H1
                have H' := Aside0.mk H
                clear H
                go_wp2
                (try simp only [Act.put, List.setIfInBounds_toArray, List.set_cons_zero, List.set_cons_succ])
                go_loopg [38, 39] kj67 (fun kq v38 v39 w' => ∃ (x38_4 : Int) (x39_4 : Int), v38 = .int .i64 x38_4 ∧ v39 = .int .i64 x39_4 ∧ Aside0 (laws_FnParts.l1 kq l1 t600 t607 t613 x38_4 x39_4 = some r) ∧ Aside0 (kq ≤ kj67) ∧ Aside0 (Kd.R k93 93 w' w.heap.size (fun _ => True) (.slice Ao70 t600.length co70) t600) ∧ Aside0 (Kd.R (Kd.int .i64) 3 w' w.heap.size (fun _ => True) v609 t607) ∧ Aside0 (Below w.heap.size w w'))
                case atStart => exact ⟨(0), (0), (by first | rfl|(simp;done)|(simp [*];done)), (by first | rfl|(simp;done)|(simp [*];done)), H', ⟨Nat.le_refl _⟩, ⟨(a2_ HO_25.out)⟩, ⟨(a2_ HO_28.out)⟩, ⟨a0_⟩⟩
                case round =>
                 clear H'
                 try clear c1
                 try clear c2
                 try clear p2
                 try clear c3
                 try clear c4
                 try clear c5
                 try clear p6
                 try clear c7
                 try clear c8
                 try clear c9
                 try clear c10
                 try clear c13
                 try clear c13b0
                 try clear c13b1
                 try clear c13b2
                 try clear c17
                 try clear c19
                 try clear c24
                 try clear c25
                 try clear c26
                 try clear c26b0
                 try clear c28
                 try clear c29
                 try clear c30
                 try clear c31
                 try clear c32
                 try clear c33
                 try clear c33b0
                 try clear c33b1
                 try clear c34
                 try clear c34b0
                 try clear c34b1
                 try clear c35
                 try clear c35b0
                 try clear c35b1
                 try clear c36
                 try clear c36b0
                 try clear c36b1
                 try clear c37
                 try clear c38
                 try clear c39
                 try clear c40
                 try clear p64
                 try clear c77
                 try clear c77b0
                 try clear c77b1
                 try clear c77b2
                 try clear c79
                 try clear c80
                 try clear c80b0
                 try clear c80b1
                 try clear c80b2
                 try clear c83
                 try clear c83b0
                 try clear c83b1
                 try clear c84
                 try clear c84b0
                 try clear c84b1
                 try clear c84b2
                 try clear c87
                 try clear c87b0
                 try clear c87b1
                 try clear c88
                 try clear c88b0
                 try clear c88b1
                 try clear c88b2
                 try clear c91
                 try clear c91b0
                 try clear c91b1
                 try clear c91b2
                 try clear c104
                 try clear c106
                 try clear p2
                 try clear p6
                 try clear p64
                 obtain ⟨x38_4, x39_4, rfl, rfl, HA, HK4, HO_25, HO_28, HB⟩ := hrel
                 cases gk with
                 | zero => exact absurd HA.out (by simp [laws_FnParts.l1])
                 | succ k4 =>
                  have H := HA.out
                  clear HA
                  simp only [laws_FnParts.l1] at H
                  by_cases c107 : x39_4 < 4
                  ·rw [if_pos c107] at H
                   have c107b0 : decide (x39_4 < 4) = true := decide_eq_true c107
                   clear c107
                   (first|rw [c107b0]|(simp only [i64_w, i32_w]; rw [c107b0]) | skip)
                   replace H := Option.bind_eq_some_iff.mp H
                   obtain ⟨⟨t621, t622⟩, A1080, H⟩ := H
                   try dsimp only at H
                   have A108 := Aside0.mk A1080
                   clear A1080
                   replace H := Option.bind_eq_some_iff.mp H
                   obtain ⟨⟨t623, t624⟩, A1090, H⟩ := H
                   try dsimp only at H
                   have A109 := Aside0.mk A1090
                   clear A1090
                   by_cases c110 : t622 = true
                   ·subst c110
                    have H1 : (if t624 = true then (if t621 = t623 then ((laws_pIn.f k4 t607 x39_4).bind fun t625 => (if (t625 != (decide (t623 > 0))) = true then (some false) else (laws_FnParts.l1 k4 l1 t600 t607 t613 (wrap64 (x38_4 + t623)) (wrap64 (x39_4 + 1))))) else (some false)) else (some false)) = some r := by rw [if_pos rfl] at H; exact H
                    clear H
                    have H := H1
                    clear H1
                    by_cases c111 : t624 = true
                    ·subst c111
                     have H1 : (if t621 = t623 then ((laws_pIn.f k4 t607 x39_4).bind fun t625 => (if (t625 != (decide (t623 > 0))) = true then (some false) else (laws_FnParts.l1 k4 l1 t600 t607 t613 (wrap64 (x38_4 + t623)) (wrap64 (x39_4 + 1))))) else (some false)) = some r := by rw [if_pos rfl] at H; exact H
                     clear H
                     have H := H1
                     clear H1
                     by_cases c112 : t621 = t623
                     ·rw [if_pos c112] at H
                      have c112b0 : (t621 == t623) = true := beq_iff_eq.mpr c112
                      have c112b1 : (t621 != t623) = false := bne_eq_false_iff_eq.mpr c112
                      clear c112
                      replace H := Option.bind_eq_some_iff.mp H
                      obtain ⟨t625, A1130, H⟩ := H
                      try dsimp only at H
                      have A113 := Aside0.mk A1130
                      clear A1130
                      by_cases c114 : (t625 != (decide (t623 > 0))) = true
                      ·rw [if_pos c114] at H
                       have c114b0 : (t625 != (decide (t623 > 0))) = true := c114
                       (try (have c114b1 : decide (t625 = (decide (t623 > 0))) = false := by simpa using c114))
                       (try (have c114b2 : (t625 == (decide (t623 > 0))) = false := by simpa using c114))
                       (try (have c114b3 : ¬ (t625 = (decide (t623 > 0))) := by simpa using c114))
                       clear c114
                       exact absurd ((Option.some.inj H).trans HR_.out) (by decide)
                      ·rw [if_neg c114] at H
                       have c114b0 : (t625 != (decide (t623 > 0))) = false := by simpa using c114
                       (try (have c114b1 : decide (t625 = (decide (t623 > 0))) = true := by simpa using c114))
                       (try (have c114b2 : (t625 == (decide (t623 > 0))) = true := by simpa using c114))
                       clear c114
                       have H' := Aside0.mk H
                       clear H
                       go_wp2_with (first|((with_reducible refine gate_callee (f := 42) rfl ?_); refine goesL_ (some 258) rfl rfl Tryd.func42 (by kernel_rfl) rfl #[.slice Ao70 t600.length co70, .int .i64 x39_4] rfl (by (try simp only [List.map_toArray, List.map_cons, List.map_nil]); first | done | rfl|(simp only [List.length_drop, List.length_take]; rfl)) ?_; (with_reducible refine (impl_StepsFrom.calls k4 _ _ t600 x39_4 t621 true _ ?side1 ?side2 A108.out).mono ?_);(case side1 => exact (a9_ HO_25.out));(case side2 => exact (Kd.R_reads' HO_25.out).2.1); rintro e w118 ⟨rfl, hb⟩; refine ⟨_, rfl, ?_⟩; have n0_ := Aside0.mk (Kd.R_below ((a2_ HO_25.out)) hb); have n1_ := Aside0.mk (Kd.R_below ((a2_ HO_28.out)) hb); have n2_ := Aside0.mk (below_step (a0_) hb); clear HO_25; clear HO_28; clear HB; have HO_25 := n0_; have HO_28 := n1_; have HB := n2_; clear n0_ n1_ n2_; (try clear hb); (try clear hb2); (try clear hk); (try clear hi))|((with_reducible refine gate_callee (f := 43) rfl ?_); refine goesL_ (some 264) rfl rfl Tryd.func43 (by kernel_rfl) rfl #[.slice Ao70 t600.length co70, .int .i64 x39_4] rfl (by (try simp only [List.map_toArray, List.map_cons, List.map_nil]); first | done | rfl|(simp only [List.length_drop, List.length_take]; rfl)) ?_; (with_reducible refine (spec_StepsFrom.calls k4 _ _ t600 x39_4 t623 true _ ?side1 ?side2 A109.out).mono ?_);(case side1 => exact (a9_ HO_25.out));(case side2 => exact (Kd.R_reads' HO_25.out).2.1); rintro e w119 ⟨rfl, hb⟩; refine ⟨_, rfl, ?_⟩; have n0_ := Aside0.mk (Kd.R_below ((a2_ HO_25.out)) hb); have n1_ := Aside0.mk (Kd.R_below ((a2_ HO_28.out)) hb); have n2_ := Aside0.mk (below_step (a0_) hb); clear HO_25; clear HO_28; clear HB; have HO_25 := n0_; have HO_28 := n1_; have HB := n2_; clear n0_ n1_ n2_; (try clear hb); (try clear hb2); (try clear hk); (try clear hi); obtain ⟨Ao120, co120, eo120⟩ := Kd.R_slice HO_28.out; subst eo120)|(go_at_call 44; (with_reducible refine (laws_pIn.calls k4 _ _ t607 x39_4 t625 _ ?side1 ?side2 A113.out).mono ?_);(case side1 => exact (a9_ HO_28.out));(case side2 => exact (Kd.R_reads' HO_28.out).2.1); rintro e w' ⟨rfl, ⟨nd, rfl⟩⟩))
                       go_roundg k4
                       case measure => have := HJ7.out; have := HJ17.out; have := HJ67.out; have := HK4.out; omega
                       case rel => exact ⟨(wrap64 (x38_4 + t623)), (wrap64 (x39_4 + 1)), (by first | rfl|(simp;done)|(simp [*];done)), (by first | rfl|(simp;done)|(simp [*];done)), H', ⟨by have := HJ7.out; have := HJ17.out; have := HJ67.out; have := HK4.out; omega⟩, ⟨(a2_ HO_25.out)⟩, ⟨(a2_ HO_28.out)⟩, ⟨a0_⟩⟩
                     ·rw [if_neg c112] at H
                      have c112b0 : (t621 == t623) = false := beq_eq_false_iff_ne.mpr c112
                      have c112b1 : (t621 != t623) = true := bne_iff_ne.mpr c112
                      exact absurd ((Option.some.inj H).trans HR_.out) (by decide)
                    ·replace c111 := Bool.eq_false_iff.mpr c111
                     subst c111
                     have H1 : (some false) = some r := by rw [if_neg (show ¬ (false = true) by decide)] at H; exact H
                     clear H
                     have H := H1
                     clear H1
                     exact absurd ((Option.some.inj H).trans HR_.out) (by decide)
                   ·replace c110 := Bool.eq_false_iff.mpr c110
                    subst c110
                    have H1 : (some false) = some r := by rw [if_neg (show ¬ (false = true) by decide)] at H; exact H
                    clear H
                    have H := H1
                    clear H1
                    exact absurd ((Option.some.inj H).trans HR_.out) (by decide)
                  ·rw [if_neg c107] at H
                   have c107b0 : decide (x39_4 < 4) = false := decide_eq_false c107
                   clear c107
                   (first|rw [c107b0]|(simp only [i64_w, i32_w]; rw [c107b0]) | skip)
                   by_cases c127 : x38_4 = t613
                   ·rw [if_pos c127] at H
                    have c127b0 : (x38_4 == t613) = true := beq_iff_eq.mpr c127
                    have c127b1 : (x38_4 != t613) = false := bne_eq_false_iff_eq.mpr c127
                    clear c127
                    have H' := Aside0.mk H
                    clear H
                    go_wp2
                    all_goals
                     go_meet
                     case rel => exact ⟨_, H', ⟨by have := HJ7.out; have := HJ17.out; have := HJ67.out; have := HK4.out; first | omega|exact Nat.le_refl _⟩, ⟨a0_⟩⟩
                   ·rw [if_neg c127] at H
                    have c127b0 : (x38_4 == t613) = false := beq_eq_false_iff_ne.mpr c127
                    have c127b1 : (x38_4 != t613) = true := bne_iff_ne.mpr c127
                    obtain rfl := Option.some.inj H
                    go_wp2
                    go_ret
                    exact ⟨a5_, a0_⟩
               ·replace c106 := Bool.eq_false_iff.mpr c106
                subst c106
                have H1 : (laws_FnParts.j6 kj67 l1) = some r := by rw [if_neg (show ¬ (false = true) by decide)] at H; exact H
                clear H
                have H := H1
                clear H1
                have H' := Aside0.mk H
                clear H
                go_wp2
                all_goals
                 go_meet
                 case rel => exact ⟨_, H', ⟨by have := HJ7.out; have := HJ17.out; have := HJ67.out; first | omega|exact Nat.le_refl _⟩, ⟨a0_⟩⟩
             case rest =>
              as_aux_lemma =>
               clear HC105
               try clear c1
               try clear c2
               try clear p2
               try clear c3
               try clear c4
               try clear c5
               try clear p6
               try clear c7
               try clear c8
               try clear c9
               try clear c10
               try clear c11
               try clear c12
               try clear c13
               try clear c13b0
               try clear c13b1
               try clear c13b2
               try clear c17
               try clear c19
               try clear c24
               try clear c25
               try clear c26
               try clear c26b0
               try clear c28
               try clear c29
               try clear c30
               try clear c31
               try clear c32
               try clear c33
               try clear c33b0
               try clear c33b1
               try clear c34
               try clear c34b0
               try clear c34b1
               try clear c35
               try clear c35b0
               try clear c35b1
               try clear c36
               try clear c36b0
               try clear c36b1
               try clear c37
               try clear c38
               try clear c39
               try clear c40
               try clear c42
               try clear c43
               try clear p64
               try clear c77
               try clear c77b0
               try clear c77b1
               try clear c77b2
               try clear c79
               try clear c80
               try clear c80b0
               try clear c80b1
               try clear c80b2
               try clear c83
               try clear c83b0
               try clear c83b1
               try clear c84
               try clear c84b0
               try clear c84b1
               try clear c84b2
               try clear c87
               try clear c87b0
               try clear c87b1
               try clear c88
               try clear c88b0
               try clear c88b1
               try clear c88b2
               try clear c91
               try clear c91b0
               try clear c91b1
               try clear c91b2
               try clear c104
               try clear c106
               try clear c107
               try clear c107b0
               try clear c110
               try clear c111
               try clear c112
               try clear c112b0
               try clear c112b1
               try clear c114
               try clear c114b0
               try clear c114b1
               try clear c114b2
               try clear c127
               try clear c127b0
               try clear c127b1
               try clear p2
               try clear p6
               try clear p64
               obtain ⟨kq, HA, HJ104, HB⟩ := hcut
               cases kq with
               | zero => exact absurd HA.out (by simp [laws_FnParts.j6])
               | succ kj104 =>
                have H := HA.out
                clear HA
                simp only [laws_FnParts.j6] at H
                replace H := Option.bind_eq_some_iff.mp H
                obtain ⟨⟨t626, t627⟩, A1280, H⟩ := H
                try dsimp only at H
                have A128 := Aside0.mk A1280
                clear A1280
                replace H := Option.bind_eq_some_iff.mp H
                obtain ⟨⟨t630, t631, t632⟩, A1290, H⟩ := H
                try dsimp only at H
                have A129 := Aside0.mk A1290
                clear A1290
                replace H := Option.bind_eq_some_iff.mp H
                obtain ⟨⟨t633, t634, t635⟩, A1300, H⟩ := H
                try dsimp only at H
                have A130 := Aside0.mk A1300
                clear A1300
                replace H := Option.bind_eq_some_iff.mp H
                obtain ⟨⟨t636, t637⟩, A1310, H⟩ := H
                try dsimp only at H
                have A131 := Aside0.mk A1310
                clear A1310
                replace H := Option.bind_eq_some_iff.mp H
                obtain ⟨⟨t640, t641⟩, A1320, H⟩ := H
                try dsimp only at H
                have A132 := Aside0.mk A1320
                clear A1320
                replace H := Option.bind_eq_some_iff.mp H
                obtain ⟨⟨t642, t643⟩, A1330, H⟩ := H
                try dsimp only at H
                have A133 := Aside0.mk A1330
                clear A1330
                replace H := Option.bind_eq_some_iff.mp H
                obtain ⟨⟨t644, t645⟩, A1340, H⟩ := H
                try dsimp only at H
                have A134 := Aside0.mk A1340
                clear A1340
                by_cases c135 : (t632 == t635) = true
                ·rw [if_pos c135] at H
                 have c135b0 : (t632 == t635) = true := c135
                 (try (have c135b1 : decide (t632 = t635) = true := by simpa using c135))
                 (try (have c135b2 : (t632 == t635) = true := by simpa using c135))
                 clear c135
                 by_cases c136 : t630 = t633
                 ·rw [if_pos c136] at H
                  have c136b0 : (t630 == t633) = true := beq_iff_eq.mpr c136
                  have c136b1 : (t630 != t633) = false := bne_eq_false_iff_eq.mpr c136
                  clear c136
                  by_cases c137 : t631 = t634
                  ·rw [if_pos c137] at H
                   have c137b0 : (t631 == t634) = true := beq_iff_eq.mpr c137
                   have c137b1 : (t631 != t634) = false := bne_eq_false_iff_eq.mpr c137
                   clear c137
                   by_cases c138 : (t641 == t643) = true
                   ·rw [if_pos c138] at H
                    have c138b0 : (t641 == t643) = true := c138
                    (try (have c138b1 : decide (t641 = t643) = true := by simpa using c138))
                    (try (have c138b2 : (t641 == t643) = true := by simpa using c138))
                    clear c138
                    by_cases c139 : t640 = t642
                    ·rw [if_pos c139] at H
                     have c139b0 : (t640 == t642) = true := beq_iff_eq.mpr c139
                     have c139b1 : (t640 != t642) = false := bne_eq_false_iff_eq.mpr c139
                     clear c139
                     replace H := Option.bind_eq_some_iff.mp H
                     obtain ⟨t648, A1400, H⟩ := H
                     try dsimp only at H
                     have A140 := Aside0.mk A1400
                     clear A1400
                     replace H := Option.bind_eq_some_iff.mp H
                     obtain ⟨t649, A1410, H⟩ := H
                     try dsimp only at H
                     have A141 := Aside0.mk A1410
                     clear A1410
                     obtain rfl := Option.some.inj H
                     go_wp2_with (first|((with_reducible refine gate_callee (f := 45) rfl ?_); refine goesL_ (some 294) rfl rfl Tryd.func45 (by kernel_rfl) rfl #[.slice A1 l1.length c1] rfl (by (try simp only [List.map_toArray, List.map_cons, List.map_nil]); first | done | rfl|(simp only [List.length_drop, List.length_take]; rfl)) ?_; (with_reducible refine (spec_DrawSourceAt.calls kj104 _ _ l1 t626 t627 _ ?side1 ?side2 A128.out).mono ?_);(case side1 => exact (a11_ HR1.out));(case side2 => exact HC1.out); rintro e w142 ⟨v628, rfl, ho0, hb⟩; refine ⟨_, rfl, ?_⟩; have n0_ := Aside0.mk (Kd.R_lower ho0 (below_size (a0_))); have n1_ := Aside0.mk (below_step (a0_) hb); clear HB; have HO629 := n0_; have HB := n1_; clear n0_ n1_; (try clear hb); (try clear hb2); (try clear hk); (try clear hi); (try clear ho0); obtain ⟨Ao143, co143, eo143⟩ := Kd.R_slice HO629.out; subst eo143)|((with_reducible refine gate_callee (f := 33) rfl ?_); refine goesL_ (some 300) rfl rfl Tryd.func33 (by kernel_rfl) rfl #[.slice Ao143 t626.length co143, .int .i64 t627] rfl (by (try simp only [List.map_toArray, List.map_cons, List.map_nil]); first | done | rfl|(simp only [List.length_drop, List.length_take]; rfl)) ?_; (with_reducible refine (impl_SourceAt.calls kj104 _ _ t626 t627 t630 t631 t632 _ ?side1 ?side2 A129.out).mono ?_);(case side1 => exact (a9_ HO629.out));(case side2 => exact (Kd.R_reads' HO629.out).2.1); rintro e w144 ⟨rfl, hb⟩; refine ⟨_, rfl, ?_⟩; have n0_ := Aside0.mk (Kd.R_below ((a2_ HO629.out)) hb); have n1_ := Aside0.mk (below_step (a0_) hb); clear HO629; clear HB; have HO629 := n0_; have HB := n1_; clear n0_ n1_; (try clear hb); (try clear hb2); (try clear hk); (try clear hi))|((with_reducible refine gate_callee (f := 34) rfl ?_); refine goesL_ (some 307) rfl rfl Tryd.func34 (by kernel_rfl) rfl #[.slice Ao143 t626.length co143, .int .i64 t627] rfl (by (try simp only [List.map_toArray, List.map_cons, List.map_nil]); first | done | rfl|(simp only [List.length_drop, List.length_take]; rfl)) ?_; (with_reducible refine (spec_SourceAt.calls kj104 _ _ t626 t627 t633 t634 t635 _ ?side1 ?side2 A130.out).mono ?_);(case side1 => exact (a9_ HO629.out));(case side2 => exact (Kd.R_reads' HO629.out).2.1); rintro e w145 ⟨rfl, hb⟩; refine ⟨_, rfl, ?_⟩; have n0_ := Aside0.mk (Kd.R_below ((a2_ HO629.out)) hb); have n1_ := Aside0.mk (below_step (a0_) hb); clear HO629; clear HB; have HO629 := n0_; have HB := n1_; clear n0_ n1_; (try clear hb); (try clear hb2); (try clear hk); (try clear hi))|((with_reducible refine gate_callee (f := 46) rfl ?_); refine goesL_ (some 313) rfl rfl Tryd.func46 (by kernel_rfl) rfl #[.slice A1 l1.length c1] rfl (by (try simp only [List.map_toArray, List.map_cons, List.map_nil]); first | done | rfl|(simp only [List.length_drop, List.length_take]; rfl)) ?_; (with_reducible refine (spec_DrawStepsFrom.calls kj104 _ _ l1 t636 t637 _ ?side1 ?side2 A131.out).mono ?_);(case side1 => exact (a11_ HR1.out));(case side2 => exact HC1.out); rintro e w146 ⟨v638, rfl, ho0, hb⟩; refine ⟨_, rfl, ?_⟩; have n0_ := Aside0.mk (Kd.R_below ((a2_ HO629.out)) hb); have n1_ := Aside0.mk (Kd.R_lower ho0 (below_size (a0_))); have n2_ := Aside0.mk (below_step (a0_) hb); clear HO629; clear HB; have HO629 := n0_; have HO639 := n1_; have HB := n2_; clear n0_ n1_ n2_; (try clear hb); (try clear hb2); (try clear hk); (try clear hi); (try clear ho0); obtain ⟨Ao147, co147, eo147⟩ := Kd.R_slice HO639.out; subst eo147)|((with_reducible refine gate_callee (f := 42) rfl ?_); refine goesL_ (some 319) rfl rfl Tryd.func42 (by kernel_rfl) rfl #[.slice Ao147 t636.length co147, .int .i64 t637] rfl (by (try simp only [List.map_toArray, List.map_cons, List.map_nil]); first | done | rfl|(simp only [List.length_drop, List.length_take]; rfl)) ?_; (with_reducible refine (impl_StepsFrom.calls kj104 _ _ t636 t637 t640 t641 _ ?side1 ?side2 A132.out).mono ?_);(case side1 => exact (a9_ HO639.out));(case side2 => exact (Kd.R_reads' HO639.out).2.1); rintro e w148 ⟨rfl, hb⟩; refine ⟨_, rfl, ?_⟩; have n0_ := Aside0.mk (Kd.R_below ((a2_ HO629.out)) hb); have n1_ := Aside0.mk (Kd.R_below ((a2_ HO639.out)) hb); have n2_ := Aside0.mk (below_step (a0_) hb); clear HO629; clear HO639; clear HB; have HO629 := n0_; have HO639 := n1_; have HB := n2_; clear n0_ n1_ n2_; (try clear hb); (try clear hb2); (try clear hk); (try clear hi))|((with_reducible refine gate_callee (f := 43) rfl ?_); refine goesL_ (some 325) rfl rfl Tryd.func43 (by kernel_rfl) rfl #[.slice Ao147 t636.length co147, .int .i64 t637] rfl (by (try simp only [List.map_toArray, List.map_cons, List.map_nil]); first | done | rfl|(simp only [List.length_drop, List.length_take]; rfl)) ?_; (with_reducible refine (spec_StepsFrom.calls kj104 _ _ t636 t637 t642 t643 _ ?side1 ?side2 A133.out).mono ?_);(case side1 => exact (a9_ HO639.out));(case side2 => exact (Kd.R_reads' HO639.out).2.1); rintro e w149 ⟨rfl, hb⟩; refine ⟨_, rfl, ?_⟩; have n0_ := Aside0.mk (Kd.R_below ((a2_ HO629.out)) hb); have n1_ := Aside0.mk (Kd.R_below ((a2_ HO639.out)) hb); have n2_ := Aside0.mk (below_step (a0_) hb); clear HO629; clear HO639; clear HB; have HO629 := n0_; have HO639 := n1_; have HB := n2_; clear n0_ n1_ n2_; (try clear hb); (try clear hb2); (try clear hk); (try clear hi))|((with_reducible refine gate_callee (f := 47) rfl ?_); refine goesL_ (some 330) rfl rfl Tryd.func47 (by kernel_rfl) rfl #[.slice A1 l1.length c1] rfl (by (try simp only [List.map_toArray, List.map_cons, List.map_nil]); first | done | rfl|(simp only [List.length_drop, List.length_take]; rfl)) ?_; (with_reducible refine (spec_DrawAreParts.calls kj104 _ _ l1 t644 t645 _ ?side1 ?side2 A134.out).mono ?_);(case side1 => exact (a11_ HR1.out));(case side2 => exact HC1.out); rintro e w150 ⟨v646, rfl, ho0, hb⟩; refine ⟨_, rfl, ?_⟩; have n0_ := Aside0.mk (Kd.R_below ((a2_ HO629.out)) hb); have n1_ := Aside0.mk (Kd.R_below ((a2_ HO639.out)) hb); have n2_ := Aside0.mk (Kd.R_lower ho0 (below_size (a0_))); have n3_ := Aside0.mk (below_step (a0_) hb); clear HO629; clear HO639; clear HB; have HO629 := n0_; have HO639 := n1_; have HO647 := n2_; have HB := n3_; clear n0_ n1_ n2_ n3_; (try clear hb); (try clear hb2); (try clear hk); (try clear hi); (try clear ho0); obtain ⟨Ao151, co151, eo151⟩ := Kd.R_slice HO647.out; subst eo151)|(go_at_call 41; (with_reducible refine (impl_AreParts.calls kj104 _ _ t644 t645 t648 _ ?side1 ?side2 A140.out).mono ?_);(case side1 => exact (a9_ HO647.out));(case side2 => exact (Kd.R_reads' HO647.out).2.1); rintro e w152 ⟨rfl, hb⟩; have n0_ := Aside0.mk (Kd.R_below ((a2_ HO629.out)) hb); have n1_ := Aside0.mk (Kd.R_below ((a2_ HO639.out)) hb); have n2_ := Aside0.mk (Kd.R_below ((a2_ HO647.out)) hb); have n3_ := Aside0.mk (below_step (a0_) hb); clear HO629; clear HO639; clear HO647; clear HB; have HO629 := n0_; have HO639 := n1_; have HO647 := n2_; have HB := n3_; clear n0_ n1_ n2_ n3_; (try clear hb); (try clear hb2); (try clear hk); (try clear hi))|(go_at_call 48; (with_reducible refine (spec_AreParts.calls kj104 _ _ t644 t645 t649 _ ?side1 ?side2 A141.out).mono ?_);(case side1 => exact (a9_ HO647.out));(case side2 => exact (Kd.R_reads' HO647.out).2.1); rintro e w153 ⟨rfl, hb⟩; have n0_ := Aside0.mk (Kd.R_below ((a2_ HO629.out)) hb); have n1_ := Aside0.mk (Kd.R_below ((a2_ HO639.out)) hb); have n2_ := Aside0.mk (Kd.R_below ((a2_ HO647.out)) hb); have n3_ := Aside0.mk (below_step (a0_) hb); clear HO629; clear HO639; clear HO647; clear HB; have HO629 := n0_; have HO639 := n1_; have HO647 := n2_; have HB := n3_; clear n0_ n1_ n2_ n3_; (try clear hb); (try clear hb2); (try clear hk); (try clear hi)))
                     go_ret
                     exact ⟨a5_, a0_⟩
                    ·rw [if_neg c139] at H
                     have c139b0 : (t640 == t642) = false := beq_eq_false_iff_ne.mpr c139
                     have c139b1 : (t640 != t642) = true := bne_iff_ne.mpr c139
                     exact absurd ((Option.some.inj H).trans HR_.out) (by decide)
                   ·rw [if_neg c138] at H
                    have c138b0 : (t641 == t643) = false := by simpa using c138
                    (try (have c138b1 : decide (t641 = t643) = false := by simpa using c138))
                    (try (have c138b2 : (t641 == t643) = false := by simpa using c138))
                    (try (have c138b3 : ¬ (t641 = t643) := by simpa using c138))
                    clear c138
                    exact absurd ((Option.some.inj H).trans HR_.out) (by decide)
                  ·rw [if_neg c137] at H
                   have c137b0 : (t631 == t634) = false := beq_eq_false_iff_ne.mpr c137
                   have c137b1 : (t631 != t634) = true := bne_iff_ne.mpr c137
                   exact absurd ((Option.some.inj H).trans HR_.out) (by decide)
                 ·rw [if_neg c136] at H
                  have c136b0 : (t630 == t633) = false := beq_eq_false_iff_ne.mpr c136
                  have c136b1 : (t630 != t633) = true := bne_iff_ne.mpr c136
                  exact absurd ((Option.some.inj H).trans HR_.out) (by decide)
                ·rw [if_neg c135] at H
                 have c135b0 : (t632 == t635) = false := by simpa using c135
                 (try (have c135b1 : decide (t632 = t635) = false := by simpa using c135))
                 (try (have c135b2 : (t632 == t635) = false := by simpa using c135))
                 (try (have c135b3 : ¬ (t632 = t635) := by simpa using c135))
                 clear c135
                 exact absurd ((Option.some.inj H).trans HR_.out) (by decide)
/-- THE ONE PURE STATEMENT of laws_FnParts: yours. -/
def laws_FnParts.Pure : Prop := ∀ (l0 : List Int) (l1 : List Int), l0.length ≤ maxLen → l0.length * 1 ≤ 140737488351232 → (∀ x ∈ l0, (Lit.int .u8 x).wf = true) → l1.length ≤ maxLen → l1.length * 1 ≤ 140737488351232 → (∀ x ∈ l1, (Lit.int .u8 x).wf = true) → ∃ k, laws_FnParts.f k l0 l1 = some true
theorem laws_FnParts.walk (P : laws_FnParts.Pure) (a0 : Option Addr) (len0 cap0 : Nat) (z0 : List Int) (a1 : Option Addr) (len1 cap1 : Nat) (z1 : List Int) (w : World) (w0 : (a0 = none ∧ len0 = 0 ∧ cap0 = 0 ∧ z0 = []) ∨ ∃ x, a0 = some x ∧ len0 ≤ cap0 ∧ cap0 ≤ maxLen ∧ z0.length = cap0 ∧ (∀ i, i < z0.length → w.cell? (x.add i) = some (.int .u8 (z0.getD i 0))) ∧ ∀ n ∈ z0, (Lit.int .u8 n).wf = true) (y0 : len0 * 1 ≤ 140737488351232) (w1 : (a1 = none ∧ len1 = 0 ∧ cap1 = 0 ∧ z1 = []) ∨ ∃ x, a1 = some x ∧ len1 ≤ cap1 ∧ cap1 ≤ maxLen ∧ z1.length = cap1 ∧ (∀ i, i < z1.length → w.cell? (x.add i) = some (.int .u8 (z1.getD i 0))) ∧ ∀ n ∈ z1, (Lit.int .u8 n).wf = true) (y1 : len1 * 1 ≤ 140737488351232) (htab : DoorLib.Tab w) :
 Calls Tryd.prog 4 #[.slice a0 len0 cap0, .slice a1 len1 cap1] w fun e w' => e = .returned (.bool true) ∧ Below w.heap.size w w' := by
 obtain ⟨l0, rfl, hr0, hm0, hw0, hc0⟩ := ReadsInt.ofRowC w0
 obtain ⟨l1, rfl, hr1, hm1, hw1, hc1⟩ := ReadsInt.ofRowC w1
 obtain ⟨k, h⟩ := P l0 l1 hm0 y0 hw0 hm1 y1 hw1
 refine (laws_FnParts.calls k _ _ l0 _ _ l1 true w (Kd.C_of_reads (d := (0 : Int)) (h1 := fun _ => rfl) hr0) hc0 (Kd.C_of_reads (d := (0 : Int)) (h1 := fun _ => rfl) hr1) hc1 htab h rfl).mono ?_
 rintro e w' ⟨rfl, hd⟩
 exact ⟨rfl, hd⟩

end Go.Proofs.YtkkhcemkppmgdaaDoor.QFnParts
