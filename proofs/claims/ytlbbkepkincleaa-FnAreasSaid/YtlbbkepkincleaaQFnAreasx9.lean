/- Written by a program of this session (the kit's printer, with leaf contracts proved by hand put in): what each Go function computes, and that the call computes it. No condition but those that each theorem names. -/
import Derived.Test.YtlbbkepkincleaaQFnAreasx0
import Derived.Test.YtlbbkepkincleaaQFnAreasx1
import Derived.Test.YtlbbkepkincleaaQFnAreasx2
import Derived.Test.YtlbbkepkincleaaQFnAreasx3
import Derived.Test.YtlbbkepkincleaaQFnAreasx4
import Derived.Test.YtlbbkepkincleaaQFnAreasx6
import Derived.Test.YtlbbkepkincleaaQFnAreasx7
import Derived.Test.YtlbbkepkincleaaQFnAreasx8
namespace Go.Proofs.Ytlbbkepkincleaa.QFnAreas
open Go.RowKit Go.Proofs.YtlbbkepkincleaaW.PrintWords Go.Proofs.YtlbbkepkincleaaW.PrintLast Go.Proofs.YtlbbkepkincleaaW.PrintMore
attribute [local go_sem] max2_int min2_int max_two min_two max_three min_three max_four min_four   -- for this text's walks alone
set_option linter.unusedVariables false
set_option linter.unusedSimpArgs false

/-! ### laws_FnAreas: function 4 -/
mutual
def laws_FnAreas.j0 : Nat → Int → List Int → List Int → Bool → List Int → List (List Int) → List Int → List Int → Bool → List Int → List Int → List Int → Int → Int → List Int → Bool → List Int → Int → List Int → Bool → Bool → Option (Bool)
  | 0, _, _, _, _, _, _, _, _, _, _, _, _, _, _, _, _, _, _, _, _, _ => none
  | k + 1, x5, x6, x7, x8, x9, x11, x12, x13, x14, x15, x16, x18, x19, x20, x21, x22, x25, x26, x27, x28, x172 => if x172 = true then (some false) else (if x28 = true then ((impl_AreaOf.f k x26 x27).bind fun bt519 => (if bt519.2 = true then ((laws_qInts.f k bt519.1 x25).bind fun t523 => (if t523 = true then (laws_FnAreas.j1 k x5 x6 x7 x8 x9 x11 x12 x13 x14 x15 x16 x18 x19 x20 x21 x22) else (some false))) else (some false))) else (laws_FnAreas.j1 k x5 x6 x7 x8 x9 x11 x12 x13 x14 x15 x16 x18 x19 x20 x21 x22))
def laws_FnAreas.j1 : Nat → Int → List Int → List Int → Bool → List Int → List (List Int) → List Int → List Int → Bool → List Int → List Int → List Int → Int → Int → List Int → Bool → Option (Bool)
  | 0, _, _, _, _, _, _, _, _, _, _, _, _, _, _, _, _ => none
  | k + 1, x5, x6, x7, x8, x9, x11, x12, x13, x14, x15, x16, x18, x19, x20, x21, x22 => if x22 = true then (if 0 ≤ x19 then (if x19 < (x18.length : Int) then ((impl_DamageArea.f k x21 x19 (rd x18 x19)).bind fun bt525 => ((impl_ReadArea.f k x18).bind fun bt529 => ((impl_ReadArea.f k x21).bind fun bt534 => (if bt525.2 = true then ((laws_qInts.f k bt525.1 x18).bind fun t539 => (laws_FnAreas.j2 k x5 x6 x7 x8 x9 x11 x12 x13 x14 x15 x16 x18 x19 x20 bt529.2.2 bt534.2.2 (!t539))) else (laws_FnAreas.j2 k x5 x6 x7 x8 x9 x11 x12 x13 x14 x15 x16 x18 x19 x20 bt529.2.2 bt534.2.2 true))))) else (none)) else (none)) else (laws_FnAreas.j3 k x5 x6 x7 x8 x9 x11 x12 x13 x14 x15 x16)
def laws_FnAreas.j3 : Nat → Int → List Int → List Int → Bool → List Int → List (List Int) → List Int → List Int → Bool → List Int → List Int → Option (Bool)
  | 0, _, _, _, _, _, _, _, _, _, _, _ => none
  | k + 1, x5, x6, x7, x8, x9, x11, x12, x13, x14, x15, x16 => if x14 = true then ((impl_RecoverState.f k x12 x13).bind fun bt541 => ((spec_RecoverState.f k x15 x16).bind fun bt546 => (if (bt541.2.2 != bt546.2.2) = true then (some false) else (if bt541.1 = bt546.1 then ((laws_qInts.f k bt541.2.1 bt546.2.1).bind fun t551 => (if t551 = true then (if (bt546.2.2 != (decide ((x11.length : Int) > 0))) = true then (some false) else (if bt546.2.2 = true then (if bt546.1 = (x11.length : Int) then (if 0 ≤ (wrap64 ((x11.length : Int) - 1)) then (if (wrap64 ((x11.length : Int) - 1)) < (x11.length : Int) then ((laws_qInts.f k bt546.2.1 (rd_L2 x11 (wrap64 ((x11.length : Int) - 1)))).bind fun t553 => (if t553 = true then (laws_FnAreas.j4 k x5 x6 x7 x8 x9) else (some false))) else (none)) else (none)) else (some false)) else (laws_FnAreas.j4 k x5 x6 x7 x8 x9))) else (some false))) else (some false))))) else (laws_FnAreas.j4 k x5 x6 x7 x8 x9)
def laws_FnAreas.j4 : Nat → Int → List Int → List Int → Bool → List Int → Option (Bool)
  | 0, _, _, _, _, _ => none
  | k + 1, x5, x6, x7, x8, x9 => if x8 = true then ((impl_ReadArea.f k x7).bind fun bt554 => (if bt554.2.2 = true then (if bt554.1 = x5 then ((laws_qInts.f k bt554.2.1 x6).bind fun t559 => (if t559 = true then (if (x9.length : Int) = 15 then ((impl_IsState.f k x6).bind fun t560 => (some t560)) else (some false)) else (some false))) else (some false)) else (some false))) else (some true)
def laws_FnAreas.j2 : Nat → Int → List Int → List Int → Bool → List Int → List (List Int) → List Int → List Int → Bool → List Int → List Int → List Int → Int → Int → Bool → Bool → Bool → Option (Bool)
  | 0, _, _, _, _, _, _, _, _, _, _, _, _, _, _, _, _, _ => none
  | k + 1, x5, x6, x7, x8, x9, x11, x12, x13, x14, x15, x16, x18, x19, x20, x38, x41, x218 => if x218 = true then (some false) else (if x38 = true then (if x41 = true then (if 0 ≤ x19 then (if x19 < (x18.length : Int) then (if x20 = (rd x18 x19) then (laws_FnAreas.j3 k x5 x6 x7 x8 x9 x11 x12 x13 x14 x15 x16) else (some false)) else (none)) else (none)) else (laws_FnAreas.j3 k x5 x6 x7 x8 x9 x11 x12 x13 x14 x15 x16)) else (laws_FnAreas.j3 k x5 x6 x7 x8 x9 x11 x12 x13 x14 x15 x16))
end
def laws_FnAreas.f (k : Nat) (l0 : List Int) (l1 : List Int) : Option (Bool) := if (wrap64 ((l0.length : Int) + (l1.length : Int))) > 1048576 then (some true) else ((spec_DrawAreaOf.f k l0).bind fun bt459 => ((impl_AreaOf.f k bt459.1 bt459.2).bind fun bt463 => ((spec_AreaOf.f k bt459.1 bt459.2).bind fun bt467 => ((spec_DrawWriteAll.f k l1).bind fun t471 => ((impl_WriteAll.f k t471).bind fun bt474 => ((spec_WriteAll.f k t471).bind fun bt481 => ((spec_DrawDamageArea.f k l1).bind fun bt488 => ((impl_DamageArea.f k bt488.1 bt488.2.1 bt488.2.2).bind fun bt493 => ((spec_DamageArea.f k bt488.1 bt488.2.1 bt488.2.2).bind fun bt497 => ((spec_DrawReadArea.f k l1).bind fun t501 => ((impl_ReadArea.f k t501).bind fun bt504 => ((spec_ReadArea.f k t501).bind fun bt509 => (if (bt463.2 != bt467.2) = true then (laws_FnAreas.j0 k bt459.1 bt459.2 bt463.1 bt463.2 bt467.1 t471 bt474.1 bt474.2.1 bt474.2.2 bt481.1 bt481.2.1 bt488.1 bt488.2.1 bt488.2.2 bt493.1 bt493.2 t501 bt504.1 bt504.2.1 bt504.2.2 true) else ((laws_qInts.f k bt463.1 bt467.1).bind fun t514 => (if t514 = true then (if (bt474.2.2 != bt481.2.2) = true then (laws_FnAreas.j0 k bt459.1 bt459.2 bt463.1 bt463.2 bt467.1 t471 bt474.1 bt474.2.1 bt474.2.2 bt481.1 bt481.2.1 bt488.1 bt488.2.1 bt488.2.2 bt493.1 bt493.2 t501 bt504.1 bt504.2.1 bt504.2.2 true) else ((laws_qInts.f k bt474.1 bt481.1).bind fun t515 => (if t515 = true then ((laws_qInts.f k bt474.2.1 bt481.2.1).bind fun t516 => (if t516 = true then (if (bt493.2 != bt497.2) = true then (laws_FnAreas.j0 k bt459.1 bt459.2 bt463.1 bt463.2 bt467.1 t471 bt474.1 bt474.2.1 bt474.2.2 bt481.1 bt481.2.1 bt488.1 bt488.2.1 bt488.2.2 bt493.1 bt493.2 t501 bt504.1 bt504.2.1 bt504.2.2 true) else ((laws_qInts.f k bt493.1 bt497.1).bind fun t517 => (if t517 = true then (if (bt504.2.2 != bt509.2.2) = true then (laws_FnAreas.j0 k bt459.1 bt459.2 bt463.1 bt463.2 bt467.1 t471 bt474.1 bt474.2.1 bt474.2.2 bt481.1 bt481.2.1 bt488.1 bt488.2.1 bt488.2.2 bt493.1 bt493.2 t501 bt504.1 bt504.2.1 bt504.2.2 true) else (if bt504.1 = bt509.1 then ((laws_qInts.f k bt504.2.1 bt509.2.1).bind fun t518 => (laws_FnAreas.j0 k bt459.1 bt459.2 bt463.1 bt463.2 bt467.1 t471 bt474.1 bt474.2.1 bt474.2.2 bt481.1 bt481.2.1 bt488.1 bt488.2.1 bt488.2.2 bt493.1 bt493.2 t501 bt504.1 bt504.2.1 bt504.2.2 (!t518))) else (laws_FnAreas.j0 k bt459.1 bt459.2 bt463.1 bt463.2 bt467.1 t471 bt474.1 bt474.2.1 bt474.2.2 bt481.1 bt481.2.1 bt488.1 bt488.2.1 bt488.2.2 bt493.1 bt493.2 t501 bt504.1 bt504.2.1 bt504.2.2 true))) else (laws_FnAreas.j0 k bt459.1 bt459.2 bt463.1 bt463.2 bt467.1 t471 bt474.1 bt474.2.1 bt474.2.2 bt481.1 bt481.2.1 bt488.1 bt488.2.1 bt488.2.2 bt493.1 bt493.2 t501 bt504.1 bt504.2.1 bt504.2.2 true)))) else (laws_FnAreas.j0 k bt459.1 bt459.2 bt463.1 bt463.2 bt467.1 t471 bt474.1 bt474.2.1 bt474.2.2 bt481.1 bt481.2.1 bt488.1 bt488.2.1 bt488.2.2 bt493.1 bt493.2 t501 bt504.1 bt504.2.1 bt504.2.2 true))) else (laws_FnAreas.j0 k bt459.1 bt459.2 bt463.1 bt463.2 bt467.1 t471 bt474.1 bt474.2.1 bt474.2.2 bt481.1 bt481.2.1 bt488.1 bt488.2.1 bt488.2.2 bt493.1 bt493.2 t501 bt504.1 bt504.2.1 bt504.2.2 true)))) else (laws_FnAreas.j0 k bt459.1 bt459.2 bt463.1 bt463.2 bt467.1 t471 bt474.1 bt474.2.1 bt474.2.2 bt481.1 bt481.2.1 bt488.1 bt488.2.1 bt488.2.2 bt493.1 bt493.2 t501 bt504.1 bt504.2.1 bt504.2.2 true))))))))))))))))
theorem laws_FnAreas.mono_l : ∀ k, (∀ y0 y1 y2 y3 y4 y5 y6 y7 y8 y9 y10 y11 y12 y13 y14 y15 y16 y17 y18 y19 y20, LeO (laws_FnAreas.j0 k y0 y1 y2 y3 y4 y5 y6 y7 y8 y9 y10 y11 y12 y13 y14 y15 y16 y17 y18 y19 y20) (laws_FnAreas.j0 (k + 1) y0 y1 y2 y3 y4 y5 y6 y7 y8 y9 y10 y11 y12 y13 y14 y15 y16 y17 y18 y19 y20)) ∧ (∀ y0 y1 y2 y3 y4 y5 y6 y7 y8 y9 y10 y11 y12 y13 y14 y15, LeO (laws_FnAreas.j1 k y0 y1 y2 y3 y4 y5 y6 y7 y8 y9 y10 y11 y12 y13 y14 y15) (laws_FnAreas.j1 (k + 1) y0 y1 y2 y3 y4 y5 y6 y7 y8 y9 y10 y11 y12 y13 y14 y15)) ∧ (∀ y0 y1 y2 y3 y4 y5 y6 y7 y8 y9 y10, LeO (laws_FnAreas.j3 k y0 y1 y2 y3 y4 y5 y6 y7 y8 y9 y10) (laws_FnAreas.j3 (k + 1) y0 y1 y2 y3 y4 y5 y6 y7 y8 y9 y10)) ∧ (∀ y0 y1 y2 y3 y4, LeO (laws_FnAreas.j4 k y0 y1 y2 y3 y4) (laws_FnAreas.j4 (k + 1) y0 y1 y2 y3 y4)) ∧ (∀ y0 y1 y2 y3 y4 y5 y6 y7 y8 y9 y10 y11 y12 y13 y14 y15 y16, LeO (laws_FnAreas.j2 k y0 y1 y2 y3 y4 y5 y6 y7 y8 y9 y10 y11 y12 y13 y14 y15 y16) (laws_FnAreas.j2 (k + 1) y0 y1 y2 y3 y4 y5 y6 y7 y8 y9 y10 y11 y12 y13 y14 y15 y16))
  | 0 => ⟨fun _ _ _ _ _ _ _ _ _ _ _ _ _ _ _ _ _ _ _ _ _ r h => by simp [laws_FnAreas.j0] at h, fun _ _ _ _ _ _ _ _ _ _ _ _ _ _ _ _ r h => by simp [laws_FnAreas.j1] at h, fun _ _ _ _ _ _ _ _ _ _ _ r h => by simp [laws_FnAreas.j3] at h, fun _ _ _ _ _ r h => by simp [laws_FnAreas.j4] at h, fun _ _ _ _ _ _ _ _ _ _ _ _ _ _ _ _ _ r h => by simp [laws_FnAreas.j2] at h⟩
  | k + 1 => by
    obtain ⟨ih0, ih1, ih2, ih3, ih4⟩ := laws_FnAreas.mono_l k
    refine ⟨?_, ?_, ?_, ?_, ?_⟩
    · intro y0 y1 y2 y3 y4 y5 y6 y7 y8 y9 y10 y11 y12 y13 y14 y15 y16 y17 y18 y19 y20
      unfold laws_FnAreas.j0
      repeat' first
     |(with_reducible exact ih0 _ _ _ _ _ _ _ _ _ _ _ _ _ _ _ _ _ _ _ _ _)
     |(with_reducible exact ih1 _ _ _ _ _ _ _ _ _ _ _ _ _ _ _ _)
     |(with_reducible exact ih2 _ _ _ _ _ _ _ _ _ _ _)
     |(with_reducible exact ih3 _ _ _ _ _)
     |(with_reducible exact ih4 _ _ _ _ _ _ _ _ _ _ _ _ _ _ _ _ _)
     |(with_reducible exact impl_AreaOf.mono _ _ _)
     |(with_reducible exact impl_DamageArea.mono _ _ _ _)
     |(with_reducible exact impl_IsState.mono _ _)
     |(with_reducible exact impl_ReadArea.mono _ _)
     |(with_reducible exact impl_RecoverState.mono _ _ _)
     |(with_reducible exact impl_WriteAll.mono _ _)
     |(with_reducible exact laws_qInts.mono _ _ _)
     |(with_reducible exact spec_AreaOf.mono _ _ _)
     |(with_reducible exact spec_DamageArea.mono _ _ _ _)
     |(with_reducible exact spec_DrawAreaOf.mono _ _)
     |(with_reducible exact spec_DrawDamageArea.mono _ _)
     |(with_reducible exact spec_DrawReadArea.mono _ _)
     |(with_reducible exact spec_DrawWriteAll.mono _ _)
     |(with_reducible exact spec_ReadArea.mono _ _)
     |(with_reducible exact spec_RecoverState.mono _ _ _)
     |(with_reducible exact spec_WriteAll.mono _ _)
     |(with_reducible exact LeO.refl _)
     |(with_reducible exact LeO.none _)
     |(with_reducible refine LeO.ite ?_ ?_)
     |(with_reducible refine LeO.bind ?_ (fun _ => ?_))
     |exact ih0 _ _ _ _ _ _ _ _ _ _ _ _ _ _ _ _ _ _ _ _ _
     |exact ih1 _ _ _ _ _ _ _ _ _ _ _ _ _ _ _ _
     |exact ih2 _ _ _ _ _ _ _ _ _ _ _
     |exact ih3 _ _ _ _ _
     |exact ih4 _ _ _ _ _ _ _ _ _ _ _ _ _ _ _ _ _
     |exact impl_AreaOf.mono _ _ _
     |exact impl_DamageArea.mono _ _ _ _
     |exact impl_IsState.mono _ _
     |exact impl_ReadArea.mono _ _
     |exact impl_RecoverState.mono _ _ _
     |exact impl_WriteAll.mono _ _
     |exact laws_qInts.mono _ _ _
     |exact spec_AreaOf.mono _ _ _
     |exact spec_DamageArea.mono _ _ _ _
     |exact spec_DrawAreaOf.mono _ _
     |exact spec_DrawDamageArea.mono _ _
     |exact spec_DrawReadArea.mono _ _
     |exact spec_DrawWriteAll.mono _ _
     |exact spec_ReadArea.mono _ _
     |exact spec_RecoverState.mono _ _ _
     |exact spec_WriteAll.mono _ _
     |exact LeO.none _
      | refine LeO.ite ?_ ?_
      | refine LeO.bind ?_ (fun _ => ?_)
    · intro y0 y1 y2 y3 y4 y5 y6 y7 y8 y9 y10 y11 y12 y13 y14 y15
      unfold laws_FnAreas.j1
      repeat' first
     |(with_reducible exact ih0 _ _ _ _ _ _ _ _ _ _ _ _ _ _ _ _ _ _ _ _ _)
     |(with_reducible exact ih1 _ _ _ _ _ _ _ _ _ _ _ _ _ _ _ _)
     |(with_reducible exact ih2 _ _ _ _ _ _ _ _ _ _ _)
     |(with_reducible exact ih3 _ _ _ _ _)
     |(with_reducible exact ih4 _ _ _ _ _ _ _ _ _ _ _ _ _ _ _ _ _)
     |(with_reducible exact impl_AreaOf.mono _ _ _)
     |(with_reducible exact impl_DamageArea.mono _ _ _ _)
     |(with_reducible exact impl_IsState.mono _ _)
     |(with_reducible exact impl_ReadArea.mono _ _)
     |(with_reducible exact impl_RecoverState.mono _ _ _)
     |(with_reducible exact impl_WriteAll.mono _ _)
     |(with_reducible exact laws_qInts.mono _ _ _)
     |(with_reducible exact spec_AreaOf.mono _ _ _)
     |(with_reducible exact spec_DamageArea.mono _ _ _ _)
     |(with_reducible exact spec_DrawAreaOf.mono _ _)
     |(with_reducible exact spec_DrawDamageArea.mono _ _)
     |(with_reducible exact spec_DrawReadArea.mono _ _)
     |(with_reducible exact spec_DrawWriteAll.mono _ _)
     |(with_reducible exact spec_ReadArea.mono _ _)
     |(with_reducible exact spec_RecoverState.mono _ _ _)
     |(with_reducible exact spec_WriteAll.mono _ _)
     |(with_reducible exact LeO.refl _)
     |(with_reducible exact LeO.none _)
     |(with_reducible refine LeO.ite ?_ ?_)
     |(with_reducible refine LeO.bind ?_ (fun _ => ?_))
     |exact ih0 _ _ _ _ _ _ _ _ _ _ _ _ _ _ _ _ _ _ _ _ _
     |exact ih1 _ _ _ _ _ _ _ _ _ _ _ _ _ _ _ _
     |exact ih2 _ _ _ _ _ _ _ _ _ _ _
     |exact ih3 _ _ _ _ _
     |exact ih4 _ _ _ _ _ _ _ _ _ _ _ _ _ _ _ _ _
     |exact impl_AreaOf.mono _ _ _
     |exact impl_DamageArea.mono _ _ _ _
     |exact impl_IsState.mono _ _
     |exact impl_ReadArea.mono _ _
     |exact impl_RecoverState.mono _ _ _
     |exact impl_WriteAll.mono _ _
     |exact laws_qInts.mono _ _ _
     |exact spec_AreaOf.mono _ _ _
     |exact spec_DamageArea.mono _ _ _ _
     |exact spec_DrawAreaOf.mono _ _
     |exact spec_DrawDamageArea.mono _ _
     |exact spec_DrawReadArea.mono _ _
     |exact spec_DrawWriteAll.mono _ _
     |exact spec_ReadArea.mono _ _
     |exact spec_RecoverState.mono _ _ _
     |exact spec_WriteAll.mono _ _
     |exact LeO.none _
      | refine LeO.ite ?_ ?_
      | refine LeO.bind ?_ (fun _ => ?_)
    · intro y0 y1 y2 y3 y4 y5 y6 y7 y8 y9 y10
      unfold laws_FnAreas.j3
      repeat' first
     |(with_reducible exact ih0 _ _ _ _ _ _ _ _ _ _ _ _ _ _ _ _ _ _ _ _ _)
     |(with_reducible exact ih1 _ _ _ _ _ _ _ _ _ _ _ _ _ _ _ _)
     |(with_reducible exact ih2 _ _ _ _ _ _ _ _ _ _ _)
     |(with_reducible exact ih3 _ _ _ _ _)
     |(with_reducible exact ih4 _ _ _ _ _ _ _ _ _ _ _ _ _ _ _ _ _)
     |(with_reducible exact impl_AreaOf.mono _ _ _)
     |(with_reducible exact impl_DamageArea.mono _ _ _ _)
     |(with_reducible exact impl_IsState.mono _ _)
     |(with_reducible exact impl_ReadArea.mono _ _)
     |(with_reducible exact impl_RecoverState.mono _ _ _)
     |(with_reducible exact impl_WriteAll.mono _ _)
     |(with_reducible exact laws_qInts.mono _ _ _)
     |(with_reducible exact spec_AreaOf.mono _ _ _)
     |(with_reducible exact spec_DamageArea.mono _ _ _ _)
     |(with_reducible exact spec_DrawAreaOf.mono _ _)
     |(with_reducible exact spec_DrawDamageArea.mono _ _)
     |(with_reducible exact spec_DrawReadArea.mono _ _)
     |(with_reducible exact spec_DrawWriteAll.mono _ _)
     |(with_reducible exact spec_ReadArea.mono _ _)
     |(with_reducible exact spec_RecoverState.mono _ _ _)
     |(with_reducible exact spec_WriteAll.mono _ _)
     |(with_reducible exact LeO.refl _)
     |(with_reducible exact LeO.none _)
     |(with_reducible refine LeO.ite ?_ ?_)
     |(with_reducible refine LeO.bind ?_ (fun _ => ?_))
     |exact ih0 _ _ _ _ _ _ _ _ _ _ _ _ _ _ _ _ _ _ _ _ _
     |exact ih1 _ _ _ _ _ _ _ _ _ _ _ _ _ _ _ _
     |exact ih2 _ _ _ _ _ _ _ _ _ _ _
     |exact ih3 _ _ _ _ _
     |exact ih4 _ _ _ _ _ _ _ _ _ _ _ _ _ _ _ _ _
     |exact impl_AreaOf.mono _ _ _
     |exact impl_DamageArea.mono _ _ _ _
     |exact impl_IsState.mono _ _
     |exact impl_ReadArea.mono _ _
     |exact impl_RecoverState.mono _ _ _
     |exact impl_WriteAll.mono _ _
     |exact laws_qInts.mono _ _ _
     |exact spec_AreaOf.mono _ _ _
     |exact spec_DamageArea.mono _ _ _ _
     |exact spec_DrawAreaOf.mono _ _
     |exact spec_DrawDamageArea.mono _ _
     |exact spec_DrawReadArea.mono _ _
     |exact spec_DrawWriteAll.mono _ _
     |exact spec_ReadArea.mono _ _
     |exact spec_RecoverState.mono _ _ _
     |exact spec_WriteAll.mono _ _
     |exact LeO.none _
      | refine LeO.ite ?_ ?_
      | refine LeO.bind ?_ (fun _ => ?_)
    · intro y0 y1 y2 y3 y4
      unfold laws_FnAreas.j4
      repeat' first
     |(with_reducible exact ih0 _ _ _ _ _ _ _ _ _ _ _ _ _ _ _ _ _ _ _ _ _)
     |(with_reducible exact ih1 _ _ _ _ _ _ _ _ _ _ _ _ _ _ _ _)
     |(with_reducible exact ih2 _ _ _ _ _ _ _ _ _ _ _)
     |(with_reducible exact ih3 _ _ _ _ _)
     |(with_reducible exact ih4 _ _ _ _ _ _ _ _ _ _ _ _ _ _ _ _ _)
     |(with_reducible exact impl_AreaOf.mono _ _ _)
     |(with_reducible exact impl_DamageArea.mono _ _ _ _)
     |(with_reducible exact impl_IsState.mono _ _)
     |(with_reducible exact impl_ReadArea.mono _ _)
     |(with_reducible exact impl_RecoverState.mono _ _ _)
     |(with_reducible exact impl_WriteAll.mono _ _)
     |(with_reducible exact laws_qInts.mono _ _ _)
     |(with_reducible exact spec_AreaOf.mono _ _ _)
     |(with_reducible exact spec_DamageArea.mono _ _ _ _)
     |(with_reducible exact spec_DrawAreaOf.mono _ _)
     |(with_reducible exact spec_DrawDamageArea.mono _ _)
     |(with_reducible exact spec_DrawReadArea.mono _ _)
     |(with_reducible exact spec_DrawWriteAll.mono _ _)
     |(with_reducible exact spec_ReadArea.mono _ _)
     |(with_reducible exact spec_RecoverState.mono _ _ _)
     |(with_reducible exact spec_WriteAll.mono _ _)
     |(with_reducible exact LeO.refl _)
     |(with_reducible exact LeO.none _)
     |(with_reducible refine LeO.ite ?_ ?_)
     |(with_reducible refine LeO.bind ?_ (fun _ => ?_))
     |exact ih0 _ _ _ _ _ _ _ _ _ _ _ _ _ _ _ _ _ _ _ _ _
     |exact ih1 _ _ _ _ _ _ _ _ _ _ _ _ _ _ _ _
     |exact ih2 _ _ _ _ _ _ _ _ _ _ _
     |exact ih3 _ _ _ _ _
     |exact ih4 _ _ _ _ _ _ _ _ _ _ _ _ _ _ _ _ _
     |exact impl_AreaOf.mono _ _ _
     |exact impl_DamageArea.mono _ _ _ _
     |exact impl_IsState.mono _ _
     |exact impl_ReadArea.mono _ _
     |exact impl_RecoverState.mono _ _ _
     |exact impl_WriteAll.mono _ _
     |exact laws_qInts.mono _ _ _
     |exact spec_AreaOf.mono _ _ _
     |exact spec_DamageArea.mono _ _ _ _
     |exact spec_DrawAreaOf.mono _ _
     |exact spec_DrawDamageArea.mono _ _
     |exact spec_DrawReadArea.mono _ _
     |exact spec_DrawWriteAll.mono _ _
     |exact spec_ReadArea.mono _ _
     |exact spec_RecoverState.mono _ _ _
     |exact spec_WriteAll.mono _ _
     |exact LeO.none _
      | refine LeO.ite ?_ ?_
      | refine LeO.bind ?_ (fun _ => ?_)
    · intro y0 y1 y2 y3 y4 y5 y6 y7 y8 y9 y10 y11 y12 y13 y14 y15 y16
      unfold laws_FnAreas.j2
      repeat' first
     |(with_reducible exact ih0 _ _ _ _ _ _ _ _ _ _ _ _ _ _ _ _ _ _ _ _ _)
     |(with_reducible exact ih1 _ _ _ _ _ _ _ _ _ _ _ _ _ _ _ _)
     |(with_reducible exact ih2 _ _ _ _ _ _ _ _ _ _ _)
     |(with_reducible exact ih3 _ _ _ _ _)
     |(with_reducible exact ih4 _ _ _ _ _ _ _ _ _ _ _ _ _ _ _ _ _)
     |(with_reducible exact impl_AreaOf.mono _ _ _)
     |(with_reducible exact impl_DamageArea.mono _ _ _ _)
     |(with_reducible exact impl_IsState.mono _ _)
     |(with_reducible exact impl_ReadArea.mono _ _)
     |(with_reducible exact impl_RecoverState.mono _ _ _)
     |(with_reducible exact impl_WriteAll.mono _ _)
     |(with_reducible exact laws_qInts.mono _ _ _)
     |(with_reducible exact spec_AreaOf.mono _ _ _)
     |(with_reducible exact spec_DamageArea.mono _ _ _ _)
     |(with_reducible exact spec_DrawAreaOf.mono _ _)
     |(with_reducible exact spec_DrawDamageArea.mono _ _)
     |(with_reducible exact spec_DrawReadArea.mono _ _)
     |(with_reducible exact spec_DrawWriteAll.mono _ _)
     |(with_reducible exact spec_ReadArea.mono _ _)
     |(with_reducible exact spec_RecoverState.mono _ _ _)
     |(with_reducible exact spec_WriteAll.mono _ _)
     |(with_reducible exact LeO.refl _)
     |(with_reducible exact LeO.none _)
     |(with_reducible refine LeO.ite ?_ ?_)
     |(with_reducible refine LeO.bind ?_ (fun _ => ?_))
     |exact ih0 _ _ _ _ _ _ _ _ _ _ _ _ _ _ _ _ _ _ _ _ _
     |exact ih1 _ _ _ _ _ _ _ _ _ _ _ _ _ _ _ _
     |exact ih2 _ _ _ _ _ _ _ _ _ _ _
     |exact ih3 _ _ _ _ _
     |exact ih4 _ _ _ _ _ _ _ _ _ _ _ _ _ _ _ _ _
     |exact impl_AreaOf.mono _ _ _
     |exact impl_DamageArea.mono _ _ _ _
     |exact impl_IsState.mono _ _
     |exact impl_ReadArea.mono _ _
     |exact impl_RecoverState.mono _ _ _
     |exact impl_WriteAll.mono _ _
     |exact laws_qInts.mono _ _ _
     |exact spec_AreaOf.mono _ _ _
     |exact spec_DamageArea.mono _ _ _ _
     |exact spec_DrawAreaOf.mono _ _
     |exact spec_DrawDamageArea.mono _ _
     |exact spec_DrawReadArea.mono _ _
     |exact spec_DrawWriteAll.mono _ _
     |exact spec_ReadArea.mono _ _
     |exact spec_RecoverState.mono _ _ _
     |exact spec_WriteAll.mono _ _
     |exact LeO.none _
      | refine LeO.ite ?_ ?_
      | refine LeO.bind ?_ (fun _ => ?_)
theorem laws_FnAreas.mono : ∀ a0 a1 k, LeO (laws_FnAreas.f k a0 a1) (laws_FnAreas.f (k + 1) a0 a1) := by
  intro a0 a1 k
  obtain ⟨ih0, ih1, ih2, ih3, ih4⟩ := laws_FnAreas.mono_l k
  unfold laws_FnAreas.f
  repeat' first
     |(with_reducible exact ih0 _ _ _ _ _ _ _ _ _ _ _ _ _ _ _ _ _ _ _ _ _)
     |(with_reducible exact ih1 _ _ _ _ _ _ _ _ _ _ _ _ _ _ _ _)
     |(with_reducible exact ih2 _ _ _ _ _ _ _ _ _ _ _)
     |(with_reducible exact ih3 _ _ _ _ _)
     |(with_reducible exact ih4 _ _ _ _ _ _ _ _ _ _ _ _ _ _ _ _ _)
     |(with_reducible exact impl_AreaOf.mono _ _ _)
     |(with_reducible exact impl_DamageArea.mono _ _ _ _)
     |(with_reducible exact impl_IsState.mono _ _)
     |(with_reducible exact impl_ReadArea.mono _ _)
     |(with_reducible exact impl_RecoverState.mono _ _ _)
     |(with_reducible exact impl_WriteAll.mono _ _)
     |(with_reducible exact laws_qInts.mono _ _ _)
     |(with_reducible exact spec_AreaOf.mono _ _ _)
     |(with_reducible exact spec_DamageArea.mono _ _ _ _)
     |(with_reducible exact spec_DrawAreaOf.mono _ _)
     |(with_reducible exact spec_DrawDamageArea.mono _ _)
     |(with_reducible exact spec_DrawReadArea.mono _ _)
     |(with_reducible exact spec_DrawWriteAll.mono _ _)
     |(with_reducible exact spec_ReadArea.mono _ _)
     |(with_reducible exact spec_RecoverState.mono _ _ _)
     |(with_reducible exact spec_WriteAll.mono _ _)
     |(with_reducible exact LeO.refl _)
     |(with_reducible exact LeO.none _)
     |(with_reducible refine LeO.ite ?_ ?_)
     |(with_reducible refine LeO.bind ?_ (fun _ => ?_))
     |exact ih0 _ _ _ _ _ _ _ _ _ _ _ _ _ _ _ _ _ _ _ _ _
     |exact ih1 _ _ _ _ _ _ _ _ _ _ _ _ _ _ _ _
     |exact ih2 _ _ _ _ _ _ _ _ _ _ _
     |exact ih3 _ _ _ _ _
     |exact ih4 _ _ _ _ _ _ _ _ _ _ _ _ _ _ _ _ _
     |exact impl_AreaOf.mono _ _ _
     |exact impl_DamageArea.mono _ _ _ _
     |exact impl_IsState.mono _ _
     |exact impl_ReadArea.mono _ _
     |exact impl_RecoverState.mono _ _ _
     |exact impl_WriteAll.mono _ _
     |exact laws_qInts.mono _ _ _
     |exact spec_AreaOf.mono _ _ _
     |exact spec_DamageArea.mono _ _ _ _
     |exact spec_DrawAreaOf.mono _ _
     |exact spec_DrawDamageArea.mono _ _
     |exact spec_DrawReadArea.mono _ _
     |exact spec_DrawWriteAll.mono _ _
     |exact spec_ReadArea.mono _ _
     |exact spec_RecoverState.mono _ _ _
     |exact spec_WriteAll.mono _ _
     |exact LeO.none _
      | refine LeO.ite ?_ ?_
      | refine LeO.bind ?_ (fun _ => ?_)
theorem laws_FnAreas.j0_true : ∀ {k y0 y1 y2 y3 y4 y5 y6 y7 y8 y9 y10 y11 y12 y13 y14 y15 y16 y17 y18 y19}, laws_FnAreas.j0 k y0 y1 y2 y3 y4 y5 y6 y7 y8 y9 y10 y11 y12 y13 y14 y15 y16 y17 y18 y19 true = some true → False := by
  intro k y0 y1 y2 y3 y4 y5 y6 y7 y8 y9 y10 y11 y12 y13 y14 y15 y16 y17 y18 y19 h
  cases k with
  | zero => simp only [laws_FnAreas.j0] at h; cases h
  | succ k => rw [laws_FnAreas.j0, if_pos rfl] at h; cases h
theorem laws_FnAreas.j2_true : ∀ {k y0 y1 y2 y3 y4 y5 y6 y7 y8 y9 y10 y11 y12 y13 y14 y15}, laws_FnAreas.j2 k y0 y1 y2 y3 y4 y5 y6 y7 y8 y9 y10 y11 y12 y13 y14 y15 true = some true → False := by
  intro k y0 y1 y2 y3 y4 y5 y6 y7 y8 y9 y10 y11 y12 y13 y14 y15 h
  cases k with
  | zero => simp only [laws_FnAreas.j2] at h; cases h
  | succ k => rw [laws_FnAreas.j2, if_pos rfl] at h; cases h
set_option maxHeartbeats 40000000 in
set_option maxRecDepth 100000 in
theorem laws_FnAreas.calls (k : Nat) (A0 : Option Addr) (c0 : Nat) (l0 : List Int) (A1 : Option Addr) (c1 : Nat) (l1 : List Int) (r : Bool) (w : World) (hr0 : Kd.C (Kd.int .u8) w A0 l0.length l0) (hc0 : l0.length ≤ c0) (hr1 : Kd.C (Kd.int .u8) w A1 l1.length l1) (hc1 : l1.length ≤ c1) (h : laws_FnAreas.f k l0 l1 = some r) (hr_ : r = true) :
    Calls Try.prog 4 #[.slice A0 l0.length c0, .slice A1 l1.length c1] w fun e w' => e = .returned (.bool r) ∧ Below w.heap.size w w' := by
  have HR_ := Aside0.mk hr_
  clear hr_
  have HR0 := Aside0.mk hr0
  have HC0 := Aside0.mk hc0
  clear hr0 hc0
  have HR1 := Aside0.mk hr1
  have HC1 := Aside0.mk hc1
  clear hr1 hc1
  have HB := Aside0.mk (Below.refl w.heap.size w)
  have H : (if (wrap64 ((l0.length : Int) + (l1.length : Int))) > 1048576 then (some true) else ((spec_DrawAreaOf.f k l0).bind fun bt459 => ((impl_AreaOf.f k bt459.1 bt459.2).bind fun bt463 => ((spec_AreaOf.f k bt459.1 bt459.2).bind fun bt467 => ((spec_DrawWriteAll.f k l1).bind fun t471 => ((impl_WriteAll.f k t471).bind fun bt474 => ((spec_WriteAll.f k t471).bind fun bt481 => ((spec_DrawDamageArea.f k l1).bind fun bt488 => ((impl_DamageArea.f k bt488.1 bt488.2.1 bt488.2.2).bind fun bt493 => ((spec_DamageArea.f k bt488.1 bt488.2.1 bt488.2.2).bind fun bt497 => ((spec_DrawReadArea.f k l1).bind fun t501 => ((impl_ReadArea.f k t501).bind fun bt504 => ((spec_ReadArea.f k t501).bind fun bt509 => (if (bt463.2 != bt467.2) = true then (laws_FnAreas.j0 k bt459.1 bt459.2 bt463.1 bt463.2 bt467.1 t471 bt474.1 bt474.2.1 bt474.2.2 bt481.1 bt481.2.1 bt488.1 bt488.2.1 bt488.2.2 bt493.1 bt493.2 t501 bt504.1 bt504.2.1 bt504.2.2 true) else ((laws_qInts.f k bt463.1 bt467.1).bind fun t514 => (if t514 = true then (if (bt474.2.2 != bt481.2.2) = true then (laws_FnAreas.j0 k bt459.1 bt459.2 bt463.1 bt463.2 bt467.1 t471 bt474.1 bt474.2.1 bt474.2.2 bt481.1 bt481.2.1 bt488.1 bt488.2.1 bt488.2.2 bt493.1 bt493.2 t501 bt504.1 bt504.2.1 bt504.2.2 true) else ((laws_qInts.f k bt474.1 bt481.1).bind fun t515 => (if t515 = true then ((laws_qInts.f k bt474.2.1 bt481.2.1).bind fun t516 => (if t516 = true then (if (bt493.2 != bt497.2) = true then (laws_FnAreas.j0 k bt459.1 bt459.2 bt463.1 bt463.2 bt467.1 t471 bt474.1 bt474.2.1 bt474.2.2 bt481.1 bt481.2.1 bt488.1 bt488.2.1 bt488.2.2 bt493.1 bt493.2 t501 bt504.1 bt504.2.1 bt504.2.2 true) else ((laws_qInts.f k bt493.1 bt497.1).bind fun t517 => (if t517 = true then (if (bt504.2.2 != bt509.2.2) = true then (laws_FnAreas.j0 k bt459.1 bt459.2 bt463.1 bt463.2 bt467.1 t471 bt474.1 bt474.2.1 bt474.2.2 bt481.1 bt481.2.1 bt488.1 bt488.2.1 bt488.2.2 bt493.1 bt493.2 t501 bt504.1 bt504.2.1 bt504.2.2 true) else (if bt504.1 = bt509.1 then ((laws_qInts.f k bt504.2.1 bt509.2.1).bind fun t518 => (laws_FnAreas.j0 k bt459.1 bt459.2 bt463.1 bt463.2 bt467.1 t471 bt474.1 bt474.2.1 bt474.2.2 bt481.1 bt481.2.1 bt488.1 bt488.2.1 bt488.2.2 bt493.1 bt493.2 t501 bt504.1 bt504.2.1 bt504.2.2 (!t518))) else (laws_FnAreas.j0 k bt459.1 bt459.2 bt463.1 bt463.2 bt467.1 t471 bt474.1 bt474.2.1 bt474.2.2 bt481.1 bt481.2.1 bt488.1 bt488.2.1 bt488.2.2 bt493.1 bt493.2 t501 bt504.1 bt504.2.1 bt504.2.2 true))) else (laws_FnAreas.j0 k bt459.1 bt459.2 bt463.1 bt463.2 bt467.1 t471 bt474.1 bt474.2.1 bt474.2.2 bt481.1 bt481.2.1 bt488.1 bt488.2.1 bt488.2.2 bt493.1 bt493.2 t501 bt504.1 bt504.2.1 bt504.2.2 true)))) else (laws_FnAreas.j0 k bt459.1 bt459.2 bt463.1 bt463.2 bt467.1 t471 bt474.1 bt474.2.1 bt474.2.2 bt481.1 bt481.2.1 bt488.1 bt488.2.1 bt488.2.2 bt493.1 bt493.2 t501 bt504.1 bt504.2.1 bt504.2.2 true))) else (laws_FnAreas.j0 k bt459.1 bt459.2 bt463.1 bt463.2 bt467.1 t471 bt474.1 bt474.2.1 bt474.2.2 bt481.1 bt481.2.1 bt488.1 bt488.2.1 bt488.2.2 bt493.1 bt493.2 t501 bt504.1 bt504.2.1 bt504.2.2 true)))) else (laws_FnAreas.j0 k bt459.1 bt459.2 bt463.1 bt463.2 bt467.1 t471 bt474.1 bt474.2.1 bt474.2.2 bt481.1 bt481.2.1 bt488.1 bt488.2.1 bt488.2.2 bt493.1 bt493.2 t501 bt504.1 bt504.2.1 bt504.2.2 true))))))))))))))))) = some r := h
  clear h
  by_cases c3 : (wrap64 ((l0.length : Int) + (l1.length : Int))) > 1048576
  · rw [if_pos c3] at H
    have c3b0 : decide (1048576 < (wrap64 ((l0.length : Int) + (l1.length : Int)))) = true := decide_eq_true c3
    clear c3
    obtain rfl := Option.some.inj H
    go_enter Try.func4, Try.ntmps4
    go_wp2
    go_ret
    exact ⟨by first | rfl|(simp [errW_none, errW_some] <;> rfl)|(simp [*, errW_none, errW_some] <;> rfl), by repeat (first|(with_reducible first|exact HB.out|apply below_alloc|apply pw_below_drewN|apply below_drew1)|exact HB.out)⟩
  · rw [if_neg c3] at H
    have c3b0 : decide (1048576 < (wrap64 ((l0.length : Int) + (l1.length : Int)))) = false := decide_eq_false c3
    clear c3
    replace H := Option.bind_eq_some_iff.mp H
    obtain ⟨⟨t459, t460⟩, A40, H⟩ := H
    try dsimp only at H
    have A4 := Aside0.mk A40
    clear A40
    replace H := Option.bind_eq_some_iff.mp H
    obtain ⟨⟨t463, t464⟩, A50, H⟩ := H
    try dsimp only at H
    have A5 := Aside0.mk A50
    clear A50
    replace H := Option.bind_eq_some_iff.mp H
    obtain ⟨⟨t467, t468⟩, A60, H⟩ := H
    try dsimp only at H
    have A6 := Aside0.mk A60
    clear A60
    replace H := Option.bind_eq_some_iff.mp H
    obtain ⟨t471, A70, H⟩ := H
    try dsimp only at H
    have A7 := Aside0.mk A70
    clear A70
    replace H := Option.bind_eq_some_iff.mp H
    obtain ⟨⟨t474, t475, t476⟩, A80, H⟩ := H
    try dsimp only at H
    have A8 := Aside0.mk A80
    clear A80
    replace H := Option.bind_eq_some_iff.mp H
    obtain ⟨⟨t481, t482, t483⟩, A90, H⟩ := H
    try dsimp only at H
    have A9 := Aside0.mk A90
    clear A90
    replace H := Option.bind_eq_some_iff.mp H
    obtain ⟨⟨t488, t489, t490⟩, A100, H⟩ := H
    try dsimp only at H
    have A10 := Aside0.mk A100
    clear A100
    replace H := Option.bind_eq_some_iff.mp H
    obtain ⟨⟨t493, t494⟩, A110, H⟩ := H
    try dsimp only at H
    have A11 := Aside0.mk A110
    clear A110
    replace H := Option.bind_eq_some_iff.mp H
    obtain ⟨⟨t497, t498⟩, A120, H⟩ := H
    try dsimp only at H
    have A12 := Aside0.mk A120
    clear A120
    replace H := Option.bind_eq_some_iff.mp H
    obtain ⟨t501, A130, H⟩ := H
    try dsimp only at H
    have A13 := Aside0.mk A130
    clear A130
    replace H := Option.bind_eq_some_iff.mp H
    obtain ⟨⟨t504, t505, t506⟩, A140, H⟩ := H
    try dsimp only at H
    have A14 := Aside0.mk A140
    clear A140
    replace H := Option.bind_eq_some_iff.mp H
    obtain ⟨⟨t509, t510, t511⟩, A150, H⟩ := H
    try dsimp only at H
    have A15 := Aside0.mk A150
    clear A150
    have HC16 := Aside0.mk H
    clear H
    go_enter Try.func4, Try.ntmps4
    go_upto_region 15 with (first|((with_reducible refine gate_callee (f := 22) rfl ?_); refine goesL_ (some 57) rfl rfl Try.func22 (by kernel_rfl) rfl #[.slice A0 l0.length c0] rfl (by (try simp only [List.map_toArray, List.map_cons, List.map_nil]); first | done | rfl|(simp only [List.length_drop, List.length_take]; rfl)) ?_; (with_reducible refine (spec_DrawAreaOf.calls k _ _ l0 t459 t460 _ ?side1 ?side2 A4.out).mono ?_);(case side1 => repeat (first|exact HR0.out|(with_reducible refine Kd.C_alloc ?_ _)|(with_reducible refine Kd.C_drewN ?_ _)|(with_reducible refine Kd.C_drew ?_)));(case side2 => exact HC0.out); rintro e w17 ⟨v461, rfl, ho0, hb⟩; refine ⟨_, rfl, ?_⟩; have n0_ := Aside0.mk (Kd.R_lower ho0 (below_size (by repeat (first|(with_reducible first|exact HB.out|apply below_alloc|apply pw_below_drewN|apply below_drew1)|exact HB.out)))); have n1_ := Aside0.mk (below_step (by repeat (first|(with_reducible first|exact HB.out|apply below_alloc|apply pw_below_drewN|apply below_drew1)|exact HB.out)) hb); clear HB; have HO462 := n0_; have HB := n1_; clear n0_ n1_; (try clear hb); (try clear hb2); (try clear hk); (try clear hi); (try clear ho0); obtain ⟨Ao18, co18, eo18⟩ := Kd.R_slice HO462.out; subst eo18)|((with_reducible refine gate_callee (f := 23) rfl ?_); refine goesL_ (some 63) rfl rfl Try.func23 (by kernel_rfl) rfl #[.int .i64 t459, .slice Ao18 t460.length co18] rfl (by (try simp only [List.map_toArray, List.map_cons, List.map_nil]); first | done | rfl|(simp only [List.length_drop, List.length_take]; rfl)) ?_; (with_reducible refine (impl_AreaOf.calls k t459 _ _ t460 t463 t464 _ ?side1 ?side2 A5.out).mono ?_);(case side1 => repeat (first|exact (Kd.R_reads' HO462.out).2.2|(with_reducible refine Kd.C_alloc ?_ _)|(with_reducible refine Kd.C_drewN ?_ _)|(with_reducible refine Kd.C_drew ?_)));(case side2 => exact (Kd.R_reads' HO462.out).2.1); rintro e w19 ⟨v465, rfl, ho0, hb⟩; refine ⟨_, rfl, ?_⟩; have n0_ := Aside0.mk (Kd.R_below (by (with_reducible repeat (first|apply Kd.R_alloc|apply Kd.R_drewN|apply Kd.R_drew)); exact HO462.out) hb); have n1_ := Aside0.mk (Kd.R_lower ho0 (below_size (by repeat (first|(with_reducible first|exact HB.out|apply below_alloc|apply pw_below_drewN|apply below_drew1)|exact HB.out)))); have n2_ := Aside0.mk (below_step (by repeat (first|(with_reducible first|exact HB.out|apply below_alloc|apply pw_below_drewN|apply below_drew1)|exact HB.out)) hb); clear HO462; clear HB; have HO462 := n0_; have HO466 := n1_; have HB := n2_; clear n0_ n1_ n2_; (try clear hb); (try clear hb2); (try clear hk); (try clear hi); (try clear ho0))|((with_reducible refine gate_callee (f := 24) rfl ?_); refine goesL_ (some 69) rfl rfl Try.func24 (by kernel_rfl) rfl #[.int .i64 t459, .slice Ao18 t460.length co18] rfl (by (try simp only [List.map_toArray, List.map_cons, List.map_nil]); first | done | rfl|(simp only [List.length_drop, List.length_take]; rfl)) ?_; (with_reducible refine (spec_AreaOf.calls k t459 _ _ t460 t467 t468 _ ?side1 ?side2 A6.out).mono ?_);(case side1 => repeat (first|exact (Kd.R_reads' HO462.out).2.2|(with_reducible refine Kd.C_alloc ?_ _)|(with_reducible refine Kd.C_drewN ?_ _)|(with_reducible refine Kd.C_drew ?_)));(case side2 => exact (Kd.R_reads' HO462.out).2.1); rintro e w20 ⟨v469, rfl, ho0, hb⟩; refine ⟨_, rfl, ?_⟩; have n0_ := Aside0.mk (Kd.R_below (by (with_reducible repeat (first|apply Kd.R_alloc|apply Kd.R_drewN|apply Kd.R_drew)); exact HO462.out) hb); have n1_ := Aside0.mk (Kd.R_below (by (with_reducible repeat (first|apply Kd.R_alloc|apply Kd.R_drewN|apply Kd.R_drew)); exact HO466.out) hb); have n2_ := Aside0.mk (Kd.R_lower ho0 (below_size (by repeat (first|(with_reducible first|exact HB.out|apply below_alloc|apply pw_below_drewN|apply below_drew1)|exact HB.out)))); have n3_ := Aside0.mk (below_step (by repeat (first|(with_reducible first|exact HB.out|apply below_alloc|apply pw_below_drewN|apply below_drew1)|exact HB.out)) hb); clear HO462; clear HO466; clear HB; have HO462 := n0_; have HO466 := n1_; have HO470 := n2_; have HB := n3_; clear n0_ n1_ n2_ n3_; (try clear hb); (try clear hb2); (try clear hk); (try clear hi); (try clear ho0))|((with_reducible refine gate_callee (f := 25) rfl ?_); refine goesL_ (some 73) rfl rfl Try.func25 (by kernel_rfl) rfl #[.slice A1 l1.length c1] rfl (by (try simp only [List.map_toArray, List.map_cons, List.map_nil]); first | done | rfl|(simp only [List.length_drop, List.length_take]; rfl)) ?_; (with_reducible refine (spec_DrawWriteAll.calls k _ _ l1 t471 _ ?side1 ?side2 A7.out).mono ?_);(case side1 => repeat (first|exact (Kd.C_below HR1.out HB.out)|(with_reducible refine Kd.C_alloc ?_ _)|(with_reducible refine Kd.C_drewN ?_ _)|(with_reducible refine Kd.C_drew ?_)));(case side2 => exact HC1.out); rintro e w21 ⟨v472, rfl, ho0, hb⟩; refine ⟨_, rfl, ?_⟩; have n0_ := Aside0.mk (Kd.R_below (by (with_reducible repeat (first|apply Kd.R_alloc|apply Kd.R_drewN|apply Kd.R_drew)); exact HO462.out) hb); have n1_ := Aside0.mk (Kd.R_below (by (with_reducible repeat (first|apply Kd.R_alloc|apply Kd.R_drewN|apply Kd.R_drew)); exact HO466.out) hb); have n2_ := Aside0.mk (Kd.R_below (by (with_reducible repeat (first|apply Kd.R_alloc|apply Kd.R_drewN|apply Kd.R_drew)); exact HO470.out) hb); have n3_ := Aside0.mk (Kd.S_lower ho0 (below_size (by repeat (first|(with_reducible first|exact HB.out|apply below_alloc|apply pw_below_drewN|apply below_drew1)|exact HB.out)))); have n4_ := Aside0.mk (below_step (by repeat (first|(with_reducible first|exact HB.out|apply below_alloc|apply pw_below_drewN|apply below_drew1)|exact HB.out)) hb); clear HO462; clear HO466; clear HO470; clear HB; have HO462 := n0_; have HO466 := n1_; have HO470 := n2_; have HO473 := n3_; have HB := n4_; clear n0_ n1_ n2_ n3_ n4_; (try clear hb); (try clear hb2); (try clear hk); (try clear hi); (try clear ho0); obtain ⟨Ao22, co22, eo22⟩ := Kd.S_slice HO473.out; subst eo22)|((with_reducible refine gate_callee (f := 26) rfl ?_); refine goesL_ (some 76) rfl rfl Try.func26 (by kernel_rfl) rfl #[.slice Ao22 t471.length co22] rfl (by (try simp only [List.map_toArray, List.map_cons, List.map_nil]); first | done | rfl|(simp only [List.length_drop, List.length_take]; rfl)) ?_; (with_reducible refine (impl_WriteAll.calls k _ _ t471 t474 t475 t476 _ ?side1 ?side2 A8.out).mono ?_);(case side1 => repeat (first|exact (Kd.S_reads' HO473.out).2.2|(with_reducible refine Kd.C_alloc ?_ _)|(with_reducible refine Kd.C_drewN ?_ _)|(with_reducible refine Kd.C_drew ?_)));(case side2 => exact (Kd.S_reads' HO473.out).2.1); rintro e w23 ⟨v477, v479, rfl, ho0, ho1, hb⟩; refine ⟨_, rfl, ?_⟩; have n0_ := Aside0.mk (Kd.R_below (by (with_reducible repeat (first|apply Kd.R_alloc|apply Kd.R_drewN|apply Kd.R_drew)); exact HO462.out) hb); have n1_ := Aside0.mk (Kd.R_below (by (with_reducible repeat (first|apply Kd.R_alloc|apply Kd.R_drewN|apply Kd.R_drew)); exact HO466.out) hb); have n2_ := Aside0.mk (Kd.R_below (by (with_reducible repeat (first|apply Kd.R_alloc|apply Kd.R_drewN|apply Kd.R_drew)); exact HO470.out) hb); have n3_ := Aside0.mk (Kd.S_below (by (with_reducible repeat (first|apply Kd.S_alloc|apply Kd.S_drewN|apply Kd.S_drew)); exact HO473.out) hb); have n4_ := Aside0.mk (Kd.R_lower (Kd.R_mono (ok' := fun _ => True) ho0 (fun _ _ => trivial)) (below_size (by repeat (first|(with_reducible first|exact HB.out|apply below_alloc|apply pw_below_drewN|apply below_drew1)|exact HB.out)))); have n5_ := Aside0.mk (Kd.R_lower (Kd.R_mono (ok' := fun _ => True) ho1 (fun _ _ => trivial)) (below_size (by repeat (first|(with_reducible first|exact HB.out|apply below_alloc|apply pw_below_drewN|apply below_drew1)|exact HB.out)))); have n6_ := Aside0.mk (below_step (by repeat (first|(with_reducible first|exact HB.out|apply below_alloc|apply pw_below_drewN|apply below_drew1)|exact HB.out)) hb); clear HO462; clear HO466; clear HO470; clear HO473; clear HB; have HO462 := n0_; have HO466 := n1_; have HO470 := n2_; have HO473 := n3_; have HO478 := n4_; have HO480 := n5_; have HB := n6_; clear n0_ n1_ n2_ n3_ n4_ n5_ n6_; (try clear hb); (try clear hb2); (try clear hk); (try clear hi); (try clear ho0); (try clear ho1))|((with_reducible refine gate_callee (f := 27) rfl ?_); refine goesL_ (some 82) rfl rfl Try.func27 (by kernel_rfl) rfl #[.slice Ao22 t471.length co22] rfl (by (try simp only [List.map_toArray, List.map_cons, List.map_nil]); first | done | rfl|(simp only [List.length_drop, List.length_take]; rfl)) ?_; (with_reducible refine (spec_WriteAll.calls k _ _ t471 t481 t482 t483 _ ?side1 ?side2 A9.out).mono ?_);(case side1 => repeat (first|exact (Kd.S_reads' HO473.out).2.2|(with_reducible refine Kd.C_alloc ?_ _)|(with_reducible refine Kd.C_drewN ?_ _)|(with_reducible refine Kd.C_drew ?_)));(case side2 => exact (Kd.S_reads' HO473.out).2.1); rintro e w24 ⟨v484, v486, rfl, ho0, ho1, hb⟩; refine ⟨_, rfl, ?_⟩; have n0_ := Aside0.mk (Kd.R_below (by (with_reducible repeat (first|apply Kd.R_alloc|apply Kd.R_drewN|apply Kd.R_drew)); exact HO462.out) hb); have n1_ := Aside0.mk (Kd.R_below (by (with_reducible repeat (first|apply Kd.R_alloc|apply Kd.R_drewN|apply Kd.R_drew)); exact HO466.out) hb); have n2_ := Aside0.mk (Kd.R_below (by (with_reducible repeat (first|apply Kd.R_alloc|apply Kd.R_drewN|apply Kd.R_drew)); exact HO470.out) hb); have n3_ := Aside0.mk (Kd.S_below (by (with_reducible repeat (first|apply Kd.S_alloc|apply Kd.S_drewN|apply Kd.S_drew)); exact HO473.out) hb); have n4_ := Aside0.mk (Kd.R_below (by (with_reducible repeat (first|apply Kd.R_alloc|apply Kd.R_drewN|apply Kd.R_drew)); exact HO478.out) hb); have n5_ := Aside0.mk (Kd.R_below (by (with_reducible repeat (first|apply Kd.R_alloc|apply Kd.R_drewN|apply Kd.R_drew)); exact HO480.out) hb); have n6_ := Aside0.mk (Kd.R_lower (Kd.R_mono (ok' := fun _ => True) ho0 (fun _ _ => trivial)) (below_size (by repeat (first|(with_reducible first|exact HB.out|apply below_alloc|apply pw_below_drewN|apply below_drew1)|exact HB.out)))); have n7_ := Aside0.mk (Kd.R_lower (Kd.R_mono (ok' := fun _ => True) ho1 (fun _ _ => trivial)) (below_size (by repeat (first|(with_reducible first|exact HB.out|apply below_alloc|apply pw_below_drewN|apply below_drew1)|exact HB.out)))); have n8_ := Aside0.mk (below_step (by repeat (first|(with_reducible first|exact HB.out|apply below_alloc|apply pw_below_drewN|apply below_drew1)|exact HB.out)) hb); clear HO462; clear HO466; clear HO470; clear HO473; clear HO478; clear HO480; clear HB; have HO462 := n0_; have HO466 := n1_; have HO470 := n2_; have HO473 := n3_; have HO478 := n4_; have HO480 := n5_; have HO485 := n6_; have HO487 := n7_; have HB := n8_; clear n0_ n1_ n2_ n3_ n4_ n5_ n6_ n7_ n8_; (try clear hb); (try clear hb2); (try clear hk); (try clear hi); (try clear ho0); (try clear ho1))|((with_reducible refine gate_callee (f := 28) rfl ?_); refine goesL_ (some 88) rfl rfl Try.func28 (by kernel_rfl) rfl #[.slice A1 l1.length c1] rfl (by (try simp only [List.map_toArray, List.map_cons, List.map_nil]); first | done | rfl|(simp only [List.length_drop, List.length_take]; rfl)) ?_; (with_reducible refine (spec_DrawDamageArea.calls k _ _ l1 t488 t489 t490 _ ?side1 ?side2 A10.out).mono ?_);(case side1 => repeat (first|exact (Kd.C_below HR1.out HB.out)|(with_reducible refine Kd.C_alloc ?_ _)|(with_reducible refine Kd.C_drewN ?_ _)|(with_reducible refine Kd.C_drew ?_)));(case side2 => exact HC1.out); rintro e w25 ⟨v491, rfl, ho0, hb⟩; refine ⟨_, rfl, ?_⟩; have n0_ := Aside0.mk (Kd.R_below (by (with_reducible repeat (first|apply Kd.R_alloc|apply Kd.R_drewN|apply Kd.R_drew)); exact HO462.out) hb); have n1_ := Aside0.mk (Kd.R_below (by (with_reducible repeat (first|apply Kd.R_alloc|apply Kd.R_drewN|apply Kd.R_drew)); exact HO466.out) hb); have n2_ := Aside0.mk (Kd.R_below (by (with_reducible repeat (first|apply Kd.R_alloc|apply Kd.R_drewN|apply Kd.R_drew)); exact HO470.out) hb); have n3_ := Aside0.mk (Kd.S_below (by (with_reducible repeat (first|apply Kd.S_alloc|apply Kd.S_drewN|apply Kd.S_drew)); exact HO473.out) hb); have n4_ := Aside0.mk (Kd.R_below (by (with_reducible repeat (first|apply Kd.R_alloc|apply Kd.R_drewN|apply Kd.R_drew)); exact HO478.out) hb); have n5_ := Aside0.mk (Kd.R_below (by (with_reducible repeat (first|apply Kd.R_alloc|apply Kd.R_drewN|apply Kd.R_drew)); exact HO480.out) hb); have n6_ := Aside0.mk (Kd.R_below (by (with_reducible repeat (first|apply Kd.R_alloc|apply Kd.R_drewN|apply Kd.R_drew)); exact HO485.out) hb); have n7_ := Aside0.mk (Kd.R_below (by (with_reducible repeat (first|apply Kd.R_alloc|apply Kd.R_drewN|apply Kd.R_drew)); exact HO487.out) hb); have n8_ := Aside0.mk (Kd.Q_lower ho0 (below_size (by repeat (first|(with_reducible first|exact HB.out|apply below_alloc|apply pw_below_drewN|apply below_drew1)|exact HB.out)))); have n9_ := Aside0.mk (below_step (by repeat (first|(with_reducible first|exact HB.out|apply below_alloc|apply pw_below_drewN|apply below_drew1)|exact HB.out)) hb); clear HO462; clear HO466; clear HO470; clear HO473; clear HO478; clear HO480; clear HO485; clear HO487; clear HB; have HO462 := n0_; have HO466 := n1_; have HO470 := n2_; have HO473 := n3_; have HO478 := n4_; have HO480 := n5_; have HO485 := n6_; have HO487 := n7_; have HO492 := n8_; have HB := n9_; clear n0_ n1_ n2_ n3_ n4_ n5_ n6_ n7_ n8_ n9_; (try clear hb); (try clear hb2); (try clear hk); (try clear hi); (try clear ho0); obtain ⟨Ao26, co26, eo26, _⟩ := Kd.Q_slice HO492.out; subst eo26)|((with_reducible refine gate_callee (f := 29) rfl ?_); refine goesL_ (some 96) rfl rfl Try.func29 (by kernel_rfl) rfl #[.slice Ao26 t488.length co26, .int .i64 t489, .int .i64 t490] rfl (by (try simp only [List.map_toArray, List.map_cons, List.map_nil]); first | done | rfl|(simp only [List.length_drop, List.length_take]; rfl)) ?_; (with_reducible refine (impl_DamageArea.calls k _ _ t488 t489 t490 t493 t494 _ ?side1 ?side2 A11.out).mono ?_);(case side1 => repeat (first|exact (Kd.Q_reads' HO492.out).2.2|(with_reducible refine Kd.C_alloc ?_ _)|(with_reducible refine Kd.C_drewN ?_ _)|(with_reducible refine Kd.C_drew ?_)));(case side2 => exact (Kd.Q_reads' HO492.out).2.1); rintro e w27 ⟨v495, rfl, ho0, hb⟩; refine ⟨_, rfl, ?_⟩; have n0_ := Aside0.mk (Kd.R_below (by (with_reducible repeat (first|apply Kd.R_alloc|apply Kd.R_drewN|apply Kd.R_drew)); exact HO462.out) hb); have n1_ := Aside0.mk (Kd.R_below (by (with_reducible repeat (first|apply Kd.R_alloc|apply Kd.R_drewN|apply Kd.R_drew)); exact HO466.out) hb); have n2_ := Aside0.mk (Kd.R_below (by (with_reducible repeat (first|apply Kd.R_alloc|apply Kd.R_drewN|apply Kd.R_drew)); exact HO470.out) hb); have n3_ := Aside0.mk (Kd.S_below (by (with_reducible repeat (first|apply Kd.S_alloc|apply Kd.S_drewN|apply Kd.S_drew)); exact HO473.out) hb); have n4_ := Aside0.mk (Kd.R_below (by (with_reducible repeat (first|apply Kd.R_alloc|apply Kd.R_drewN|apply Kd.R_drew)); exact HO478.out) hb); have n5_ := Aside0.mk (Kd.R_below (by (with_reducible repeat (first|apply Kd.R_alloc|apply Kd.R_drewN|apply Kd.R_drew)); exact HO480.out) hb); have n6_ := Aside0.mk (Kd.R_below (by (with_reducible repeat (first|apply Kd.R_alloc|apply Kd.R_drewN|apply Kd.R_drew)); exact HO485.out) hb); have n7_ := Aside0.mk (Kd.R_below (by (with_reducible repeat (first|apply Kd.R_alloc|apply Kd.R_drewN|apply Kd.R_drew)); exact HO487.out) hb); have n8_ := Aside0.mk (Kd.Q_below (by (with_reducible repeat (first|apply Kd.Q_alloc|apply Kd.Q_drewN|apply Kd.Q_drew)); exact HO492.out) hb); have n9_ := Aside0.mk (Kd.R_lower ho0 (below_size (by repeat (first|(with_reducible first|exact HB.out|apply below_alloc|apply pw_below_drewN|apply below_drew1)|exact HB.out)))); have n10_ := Aside0.mk (below_step (by repeat (first|(with_reducible first|exact HB.out|apply below_alloc|apply pw_below_drewN|apply below_drew1)|exact HB.out)) hb); clear HO462; clear HO466; clear HO470; clear HO473; clear HO478; clear HO480; clear HO485; clear HO487; clear HO492; clear HB; have HO462 := n0_; have HO466 := n1_; have HO470 := n2_; have HO473 := n3_; have HO478 := n4_; have HO480 := n5_; have HO485 := n6_; have HO487 := n7_; have HO492 := n8_; have HO496 := n9_; have HB := n10_; clear n0_ n1_ n2_ n3_ n4_ n5_ n6_ n7_ n8_ n9_ n10_; (try clear hb); (try clear hb2); (try clear hk); (try clear hi); (try clear ho0))|((with_reducible refine gate_callee (f := 30) rfl ?_); refine goesL_ (some 103) rfl rfl Try.func30 (by kernel_rfl) rfl #[.slice Ao26 t488.length co26, .int .i64 t489, .int .i64 t490] rfl (by (try simp only [List.map_toArray, List.map_cons, List.map_nil]); first | done | rfl|(simp only [List.length_drop, List.length_take]; rfl)) ?_; (with_reducible refine (spec_DamageArea.calls k _ _ t488 t489 t490 t497 t498 _ ?side1 ?side2 A12.out).mono ?_);(case side1 => repeat (first|exact (Kd.Q_reads' HO492.out).2.2|(with_reducible refine Kd.C_alloc ?_ _)|(with_reducible refine Kd.C_drewN ?_ _)|(with_reducible refine Kd.C_drew ?_)));(case side2 => exact (Kd.Q_reads' HO492.out).2.1); rintro e w28 ⟨v499, rfl, ho0, hb⟩; refine ⟨_, rfl, ?_⟩; have n0_ := Aside0.mk (Kd.R_below (by (with_reducible repeat (first|apply Kd.R_alloc|apply Kd.R_drewN|apply Kd.R_drew)); exact HO462.out) hb); have n1_ := Aside0.mk (Kd.R_below (by (with_reducible repeat (first|apply Kd.R_alloc|apply Kd.R_drewN|apply Kd.R_drew)); exact HO466.out) hb); have n2_ := Aside0.mk (Kd.R_below (by (with_reducible repeat (first|apply Kd.R_alloc|apply Kd.R_drewN|apply Kd.R_drew)); exact HO470.out) hb); have n3_ := Aside0.mk (Kd.S_below (by (with_reducible repeat (first|apply Kd.S_alloc|apply Kd.S_drewN|apply Kd.S_drew)); exact HO473.out) hb); have n4_ := Aside0.mk (Kd.R_below (by (with_reducible repeat (first|apply Kd.R_alloc|apply Kd.R_drewN|apply Kd.R_drew)); exact HO478.out) hb); have n5_ := Aside0.mk (Kd.R_below (by (with_reducible repeat (first|apply Kd.R_alloc|apply Kd.R_drewN|apply Kd.R_drew)); exact HO480.out) hb); have n6_ := Aside0.mk (Kd.R_below (by (with_reducible repeat (first|apply Kd.R_alloc|apply Kd.R_drewN|apply Kd.R_drew)); exact HO485.out) hb); have n7_ := Aside0.mk (Kd.R_below (by (with_reducible repeat (first|apply Kd.R_alloc|apply Kd.R_drewN|apply Kd.R_drew)); exact HO487.out) hb); have n8_ := Aside0.mk (Kd.Q_below (by (with_reducible repeat (first|apply Kd.Q_alloc|apply Kd.Q_drewN|apply Kd.Q_drew)); exact HO492.out) hb); have n9_ := Aside0.mk (Kd.R_below (by (with_reducible repeat (first|apply Kd.R_alloc|apply Kd.R_drewN|apply Kd.R_drew)); exact HO496.out) hb); have n10_ := Aside0.mk (Kd.R_lower ho0 (below_size (by repeat (first|(with_reducible first|exact HB.out|apply below_alloc|apply pw_below_drewN|apply below_drew1)|exact HB.out)))); have n11_ := Aside0.mk (below_step (by repeat (first|(with_reducible first|exact HB.out|apply below_alloc|apply pw_below_drewN|apply below_drew1)|exact HB.out)) hb); clear HO462; clear HO466; clear HO470; clear HO473; clear HO478; clear HO480; clear HO485; clear HO487; clear HO492; clear HO496; clear HB; have HO462 := n0_; have HO466 := n1_; have HO470 := n2_; have HO473 := n3_; have HO478 := n4_; have HO480 := n5_; have HO485 := n6_; have HO487 := n7_; have HO492 := n8_; have HO496 := n9_; have HO500 := n10_; have HB := n11_; clear n0_ n1_ n2_ n3_ n4_ n5_ n6_ n7_ n8_ n9_ n10_ n11_; (try clear hb); (try clear hb2); (try clear hk); (try clear hi); (try clear ho0))|((with_reducible refine gate_callee (f := 31) rfl ?_); refine goesL_ (some 107) rfl rfl Try.func31 (by kernel_rfl) rfl #[.slice A1 l1.length c1] rfl (by (try simp only [List.map_toArray, List.map_cons, List.map_nil]); first | done | rfl|(simp only [List.length_drop, List.length_take]; rfl)) ?_; (with_reducible refine (spec_DrawReadArea.calls k _ _ l1 t501 _ ?side1 ?side2 A13.out).mono ?_);(case side1 => repeat (first|exact (Kd.C_below HR1.out HB.out)|(with_reducible refine Kd.C_alloc ?_ _)|(with_reducible refine Kd.C_drewN ?_ _)|(with_reducible refine Kd.C_drew ?_)));(case side2 => exact HC1.out); rintro e w29 ⟨v502, rfl, ho0, hb⟩; refine ⟨_, rfl, ?_⟩; have n0_ := Aside0.mk (Kd.R_below (by (with_reducible repeat (first|apply Kd.R_alloc|apply Kd.R_drewN|apply Kd.R_drew)); exact HO462.out) hb); have n1_ := Aside0.mk (Kd.R_below (by (with_reducible repeat (first|apply Kd.R_alloc|apply Kd.R_drewN|apply Kd.R_drew)); exact HO466.out) hb); have n2_ := Aside0.mk (Kd.R_below (by (with_reducible repeat (first|apply Kd.R_alloc|apply Kd.R_drewN|apply Kd.R_drew)); exact HO470.out) hb); have n3_ := Aside0.mk (Kd.S_below (by (with_reducible repeat (first|apply Kd.S_alloc|apply Kd.S_drewN|apply Kd.S_drew)); exact HO473.out) hb); have n4_ := Aside0.mk (Kd.R_below (by (with_reducible repeat (first|apply Kd.R_alloc|apply Kd.R_drewN|apply Kd.R_drew)); exact HO478.out) hb); have n5_ := Aside0.mk (Kd.R_below (by (with_reducible repeat (first|apply Kd.R_alloc|apply Kd.R_drewN|apply Kd.R_drew)); exact HO480.out) hb); have n6_ := Aside0.mk (Kd.R_below (by (with_reducible repeat (first|apply Kd.R_alloc|apply Kd.R_drewN|apply Kd.R_drew)); exact HO485.out) hb); have n7_ := Aside0.mk (Kd.R_below (by (with_reducible repeat (first|apply Kd.R_alloc|apply Kd.R_drewN|apply Kd.R_drew)); exact HO487.out) hb); have n8_ := Aside0.mk (Kd.Q_below (by (with_reducible repeat (first|apply Kd.Q_alloc|apply Kd.Q_drewN|apply Kd.Q_drew)); exact HO492.out) hb); have n9_ := Aside0.mk (Kd.R_below (by (with_reducible repeat (first|apply Kd.R_alloc|apply Kd.R_drewN|apply Kd.R_drew)); exact HO496.out) hb); have n10_ := Aside0.mk (Kd.R_below (by (with_reducible repeat (first|apply Kd.R_alloc|apply Kd.R_drewN|apply Kd.R_drew)); exact HO500.out) hb); have n11_ := Aside0.mk (Kd.Q_lower ho0 (below_size (by repeat (first|(with_reducible first|exact HB.out|apply below_alloc|apply pw_below_drewN|apply below_drew1)|exact HB.out)))); have n12_ := Aside0.mk (below_step (by repeat (first|(with_reducible first|exact HB.out|apply below_alloc|apply pw_below_drewN|apply below_drew1)|exact HB.out)) hb); clear HO462; clear HO466; clear HO470; clear HO473; clear HO478; clear HO480; clear HO485; clear HO487; clear HO492; clear HO496; clear HO500; clear HB; have HO462 := n0_; have HO466 := n1_; have HO470 := n2_; have HO473 := n3_; have HO478 := n4_; have HO480 := n5_; have HO485 := n6_; have HO487 := n7_; have HO492 := n8_; have HO496 := n9_; have HO500 := n10_; have HO503 := n11_; have HB := n12_; clear n0_ n1_ n2_ n3_ n4_ n5_ n6_ n7_ n8_ n9_ n10_ n11_ n12_; (try clear hb); (try clear hb2); (try clear hk); (try clear hi); (try clear ho0); obtain ⟨Ao30, co30, eo30, _⟩ := Kd.Q_slice HO503.out; subst eo30)|((with_reducible refine gate_callee (f := 32) rfl ?_); refine goesL_ (some 110) rfl rfl Try.func32 (by kernel_rfl) rfl #[.slice Ao30 t501.length co30] rfl (by (try simp only [List.map_toArray, List.map_cons, List.map_nil]); first | done | rfl|(simp only [List.length_drop, List.length_take]; rfl)) ?_; (with_reducible refine (impl_ReadArea.calls k _ _ t501 t504 t505 t506 _ ?side1 ?side2 A14.out).mono ?_);(case side1 => repeat (first|exact (Kd.Q_reads' HO503.out).2.2|(with_reducible refine Kd.C_alloc ?_ _)|(with_reducible refine Kd.C_drewN ?_ _)|(with_reducible refine Kd.C_drew ?_)));(case side2 => exact (Kd.Q_reads' HO503.out).2.1); rintro e w31 ⟨v507, rfl, ho0, hb⟩; refine ⟨_, rfl, ?_⟩; have n0_ := Aside0.mk (Kd.R_below (by (with_reducible repeat (first|apply Kd.R_alloc|apply Kd.R_drewN|apply Kd.R_drew)); exact HO462.out) hb); have n1_ := Aside0.mk (Kd.R_below (by (with_reducible repeat (first|apply Kd.R_alloc|apply Kd.R_drewN|apply Kd.R_drew)); exact HO466.out) hb); have n2_ := Aside0.mk (Kd.R_below (by (with_reducible repeat (first|apply Kd.R_alloc|apply Kd.R_drewN|apply Kd.R_drew)); exact HO470.out) hb); have n3_ := Aside0.mk (Kd.S_below (by (with_reducible repeat (first|apply Kd.S_alloc|apply Kd.S_drewN|apply Kd.S_drew)); exact HO473.out) hb); have n4_ := Aside0.mk (Kd.R_below (by (with_reducible repeat (first|apply Kd.R_alloc|apply Kd.R_drewN|apply Kd.R_drew)); exact HO478.out) hb); have n5_ := Aside0.mk (Kd.R_below (by (with_reducible repeat (first|apply Kd.R_alloc|apply Kd.R_drewN|apply Kd.R_drew)); exact HO480.out) hb); have n6_ := Aside0.mk (Kd.R_below (by (with_reducible repeat (first|apply Kd.R_alloc|apply Kd.R_drewN|apply Kd.R_drew)); exact HO485.out) hb); have n7_ := Aside0.mk (Kd.R_below (by (with_reducible repeat (first|apply Kd.R_alloc|apply Kd.R_drewN|apply Kd.R_drew)); exact HO487.out) hb); have n8_ := Aside0.mk (Kd.Q_below (by (with_reducible repeat (first|apply Kd.Q_alloc|apply Kd.Q_drewN|apply Kd.Q_drew)); exact HO492.out) hb); have n9_ := Aside0.mk (Kd.R_below (by (with_reducible repeat (first|apply Kd.R_alloc|apply Kd.R_drewN|apply Kd.R_drew)); exact HO496.out) hb); have n10_ := Aside0.mk (Kd.R_below (by (with_reducible repeat (first|apply Kd.R_alloc|apply Kd.R_drewN|apply Kd.R_drew)); exact HO500.out) hb); have n11_ := Aside0.mk (Kd.Q_below (by (with_reducible repeat (first|apply Kd.Q_alloc|apply Kd.Q_drewN|apply Kd.Q_drew)); exact HO503.out) hb); have n12_ := Aside0.mk (Kd.R_lower ho0 (below_size (by repeat (first|(with_reducible first|exact HB.out|apply below_alloc|apply pw_below_drewN|apply below_drew1)|exact HB.out)))); have n13_ := Aside0.mk (below_step (by repeat (first|(with_reducible first|exact HB.out|apply below_alloc|apply pw_below_drewN|apply below_drew1)|exact HB.out)) hb); clear HO462; clear HO466; clear HO470; clear HO473; clear HO478; clear HO480; clear HO485; clear HO487; clear HO492; clear HO496; clear HO500; clear HO503; clear HB; have HO462 := n0_; have HO466 := n1_; have HO470 := n2_; have HO473 := n3_; have HO478 := n4_; have HO480 := n5_; have HO485 := n6_; have HO487 := n7_; have HO492 := n8_; have HO496 := n9_; have HO500 := n10_; have HO503 := n11_; have HO508 := n12_; have HB := n13_; clear n0_ n1_ n2_ n3_ n4_ n5_ n6_ n7_ n8_ n9_ n10_ n11_ n12_ n13_; (try clear hb); (try clear hb2); (try clear hk); (try clear hi); (try clear ho0))|((with_reducible refine gate_callee (f := 33) rfl ?_); refine goesL_ (some 116) rfl rfl Try.func33 (by kernel_rfl) rfl #[.slice Ao30 t501.length co30] rfl (by (try simp only [List.map_toArray, List.map_cons, List.map_nil]); first | done | rfl|(simp only [List.length_drop, List.length_take]; rfl)) ?_; (with_reducible refine (spec_ReadArea.calls k _ _ t501 t509 t510 t511 _ ?side1 ?side2 A15.out).mono ?_);(case side1 => repeat (first|exact (Kd.Q_reads' HO503.out).2.2|(with_reducible refine Kd.C_alloc ?_ _)|(with_reducible refine Kd.C_drewN ?_ _)|(with_reducible refine Kd.C_drew ?_)));(case side2 => exact (Kd.Q_reads' HO503.out).2.1); rintro e w32 ⟨v512, rfl, ho0, hb⟩; refine ⟨_, rfl, ?_⟩; have n0_ := Aside0.mk (Kd.R_below (by (with_reducible repeat (first|apply Kd.R_alloc|apply Kd.R_drewN|apply Kd.R_drew)); exact HO462.out) hb); have n1_ := Aside0.mk (Kd.R_below (by (with_reducible repeat (first|apply Kd.R_alloc|apply Kd.R_drewN|apply Kd.R_drew)); exact HO466.out) hb); have n2_ := Aside0.mk (Kd.R_below (by (with_reducible repeat (first|apply Kd.R_alloc|apply Kd.R_drewN|apply Kd.R_drew)); exact HO470.out) hb); have n3_ := Aside0.mk (Kd.S_below (by (with_reducible repeat (first|apply Kd.S_alloc|apply Kd.S_drewN|apply Kd.S_drew)); exact HO473.out) hb); have n4_ := Aside0.mk (Kd.R_below (by (with_reducible repeat (first|apply Kd.R_alloc|apply Kd.R_drewN|apply Kd.R_drew)); exact HO478.out) hb); have n5_ := Aside0.mk (Kd.R_below (by (with_reducible repeat (first|apply Kd.R_alloc|apply Kd.R_drewN|apply Kd.R_drew)); exact HO480.out) hb); have n6_ := Aside0.mk (Kd.R_below (by (with_reducible repeat (first|apply Kd.R_alloc|apply Kd.R_drewN|apply Kd.R_drew)); exact HO485.out) hb); have n7_ := Aside0.mk (Kd.R_below (by (with_reducible repeat (first|apply Kd.R_alloc|apply Kd.R_drewN|apply Kd.R_drew)); exact HO487.out) hb); have n8_ := Aside0.mk (Kd.Q_below (by (with_reducible repeat (first|apply Kd.Q_alloc|apply Kd.Q_drewN|apply Kd.Q_drew)); exact HO492.out) hb); have n9_ := Aside0.mk (Kd.R_below (by (with_reducible repeat (first|apply Kd.R_alloc|apply Kd.R_drewN|apply Kd.R_drew)); exact HO496.out) hb); have n10_ := Aside0.mk (Kd.R_below (by (with_reducible repeat (first|apply Kd.R_alloc|apply Kd.R_drewN|apply Kd.R_drew)); exact HO500.out) hb); have n11_ := Aside0.mk (Kd.Q_below (by (with_reducible repeat (first|apply Kd.Q_alloc|apply Kd.Q_drewN|apply Kd.Q_drew)); exact HO503.out) hb); have n12_ := Aside0.mk (Kd.R_below (by (with_reducible repeat (first|apply Kd.R_alloc|apply Kd.R_drewN|apply Kd.R_drew)); exact HO508.out) hb); have n13_ := Aside0.mk (Kd.R_lower ho0 (below_size (by repeat (first|(with_reducible first|exact HB.out|apply below_alloc|apply pw_below_drewN|apply below_drew1)|exact HB.out)))); have n14_ := Aside0.mk (below_step (by repeat (first|(with_reducible first|exact HB.out|apply below_alloc|apply pw_below_drewN|apply below_drew1)|exact HB.out)) hb); clear HO462; clear HO466; clear HO470; clear HO473; clear HO478; clear HO480; clear HO485; clear HO487; clear HO492; clear HO496; clear HO500; clear HO503; clear HO508; clear HB; have HO462 := n0_; have HO466 := n1_; have HO470 := n2_; have HO473 := n3_; have HO478 := n4_; have HO480 := n5_; have HO485 := n6_; have HO487 := n7_; have HO492 := n8_; have HO496 := n9_; have HO500 := n10_; have HO503 := n11_; have HO508 := n12_; have HO513 := n13_; have HB := n14_; clear n0_ n1_ n2_ n3_ n4_ n5_ n6_ n7_ n8_ n9_ n10_ n11_ n12_ n13_ n14_; (try clear hb); (try clear hb2); (try clear hk); (try clear hi); (try clear ho0)))
    (try simp only [Act.put, List.setIfInBounds_toArray, List.set_cons_zero, List.set_cons_succ])
    go_cut [172] (fun v172 wc => ∃ (kq : Nat) (x172_15 : Bool), v172 = .bool x172_15 ∧ Aside0 (laws_FnAreas.j0 kq t459 t460 t463 t464 t467 t471 t474 t475 t476 t481 t482 t488 t489 t490 t493 t494 t501 t504 t505 t506 x172_15 = some r) ∧ Aside0 (kq ≤ k) ∧ Aside0 (Kd.R (Kd.int .i64) 3 wc w.heap.size (fun _ => True) (.slice Ao18 t460.length co18) t460) ∧ Aside0 (Kd.R (Kd.int .i64) 3 wc w.heap.size (fun _ => True) v465 t463) ∧ Aside0 (Kd.R (Kd.int .i64) 3 wc w.heap.size (fun _ => True) v469 t467) ∧ Aside0 (Kd.S (Kd.slice 3 (Kd.int .i64)) 37 wc w.heap.size (fun _ => True) (.slice Ao22 t471.length co22) t471) ∧ Aside0 (Kd.R (Kd.int .i64) 3 wc w.heap.size (fun _ => True) v477 t474) ∧ Aside0 (Kd.R (Kd.int .i64) 3 wc w.heap.size (fun _ => True) v479 t475) ∧ Aside0 (Kd.R (Kd.int .i64) 3 wc w.heap.size (fun _ => True) v484 t481) ∧ Aside0 (Kd.R (Kd.int .i64) 3 wc w.heap.size (fun _ => True) v486 t482) ∧ Aside0 (Kd.Q (Kd.int .i64) 3 wc w.heap.size (fun _ => True) (.slice Ao26 t488.length co26) t488) ∧ Aside0 (Kd.R (Kd.int .i64) 3 wc w.heap.size (fun _ => True) v495 t493) ∧ Aside0 (Kd.Q (Kd.int .i64) 3 wc w.heap.size (fun _ => True) (.slice Ao30 t501.length co30) t501) ∧ Aside0 (Kd.R (Kd.int .i64) 3 wc w.heap.size (fun _ => True) v507 t505) ∧ Aside0 (Below w.heap.size w wc))
    case first =>
      as_aux_lemma =>
       have H := HC16.out
       clear HC16
       by_cases c33 : (t464 != t468) = true
       · rw [if_pos c33] at H
         have c33b0 : (t464 != t468) = true := c33
         (try (have c33b1 : decide (t464 = t468) = false := by simpa using c33))
         (try (have c33b2 : (t464 == t468) = false := by simpa using c33))
         (try (have c33b3 : ¬ (t464 = t468) := by simpa using c33))
         clear c33
         (first|rw [c33b0]|(simp only [i64_w, i32_w]; rw [c33b0]) | skip)
         have H' := Aside0.mk H
         clear H
         go_wp2
         all_goals
          go_meet
          case rel => exact ⟨_, (true), (by first | rfl|(simp;done)|(simp [*];done)), H', ⟨by first | omega|exact Nat.le_refl _⟩, ⟨by (with_reducible repeat (first|apply Kd.R_alloc|apply Kd.R_drewN|apply Kd.R_drew)); exact HO462.out⟩, ⟨by (with_reducible repeat (first|apply Kd.R_alloc|apply Kd.R_drewN|apply Kd.R_drew)); exact HO466.out⟩, ⟨by (with_reducible repeat (first|apply Kd.R_alloc|apply Kd.R_drewN|apply Kd.R_drew)); exact HO470.out⟩, ⟨by (with_reducible repeat (first|apply Kd.S_alloc|apply Kd.S_drewN|apply Kd.S_drew)); exact HO473.out⟩, ⟨by (with_reducible repeat (first|apply Kd.R_alloc|apply Kd.R_drewN|apply Kd.R_drew)); exact HO478.out⟩, ⟨by (with_reducible repeat (first|apply Kd.R_alloc|apply Kd.R_drewN|apply Kd.R_drew)); exact HO480.out⟩, ⟨by (with_reducible repeat (first|apply Kd.R_alloc|apply Kd.R_drewN|apply Kd.R_drew)); exact HO485.out⟩, ⟨by (with_reducible repeat (first|apply Kd.R_alloc|apply Kd.R_drewN|apply Kd.R_drew)); exact HO487.out⟩, ⟨by (with_reducible repeat (first|apply Kd.Q_alloc|apply Kd.Q_drewN|apply Kd.Q_drew)); exact HO492.out⟩, ⟨by (with_reducible repeat (first|apply Kd.R_alloc|apply Kd.R_drewN|apply Kd.R_drew)); exact HO496.out⟩, ⟨by (with_reducible repeat (first|apply Kd.Q_alloc|apply Kd.Q_drewN|apply Kd.Q_drew)); exact HO503.out⟩, ⟨by (with_reducible repeat (first|apply Kd.R_alloc|apply Kd.R_drewN|apply Kd.R_drew)); exact HO508.out⟩, ⟨by repeat (first|(with_reducible first|exact HB.out|apply below_alloc|apply pw_below_drewN|apply below_drew1)|exact HB.out)⟩⟩
       · rw [if_neg c33] at H
         have c33b0 : (t464 != t468) = false := by simpa using c33
         (try (have c33b1 : decide (t464 = t468) = true := by simpa using c33))
         (try (have c33b2 : (t464 == t468) = true := by simpa using c33))
         clear c33
         (first|rw [c33b0]|(simp only [i64_w, i32_w]; rw [c33b0]) | skip)
         replace H := Option.bind_eq_some_iff.mp H
         obtain ⟨t514, A340, H⟩ := H
         try dsimp only at H
         have A34 := Aside0.mk A340
         clear A340
         by_cases c35 : t514 = true
         · subst c35
           have H1 : (if (t476 != t483) = true then (laws_FnAreas.j0 k t459 t460 t463 t464 t467 t471 t474 t475 t476 t481 t482 t488 t489 t490 t493 t494 t501 t504 t505 t506 true) else ((laws_qInts.f k t474 t481).bind fun t515 => (if t515 = true then ((laws_qInts.f k t475 t482).bind fun t516 => (if t516 = true then (if (t494 != t498) = true then (laws_FnAreas.j0 k t459 t460 t463 t464 t467 t471 t474 t475 t476 t481 t482 t488 t489 t490 t493 t494 t501 t504 t505 t506 true) else ((laws_qInts.f k t493 t497).bind fun t517 => (if t517 = true then (if (t506 != t511) = true then (laws_FnAreas.j0 k t459 t460 t463 t464 t467 t471 t474 t475 t476 t481 t482 t488 t489 t490 t493 t494 t501 t504 t505 t506 true) else (if t504 = t509 then ((laws_qInts.f k t505 t510).bind fun t518 => (laws_FnAreas.j0 k t459 t460 t463 t464 t467 t471 t474 t475 t476 t481 t482 t488 t489 t490 t493 t494 t501 t504 t505 t506 (!t518))) else (laws_FnAreas.j0 k t459 t460 t463 t464 t467 t471 t474 t475 t476 t481 t482 t488 t489 t490 t493 t494 t501 t504 t505 t506 true))) else (laws_FnAreas.j0 k t459 t460 t463 t464 t467 t471 t474 t475 t476 t481 t482 t488 t489 t490 t493 t494 t501 t504 t505 t506 true)))) else (laws_FnAreas.j0 k t459 t460 t463 t464 t467 t471 t474 t475 t476 t481 t482 t488 t489 t490 t493 t494 t501 t504 t505 t506 true))) else (laws_FnAreas.j0 k t459 t460 t463 t464 t467 t471 t474 t475 t476 t481 t482 t488 t489 t490 t493 t494 t501 t504 t505 t506 true)))) = some r := by rw [if_pos rfl] at H; exact H
           clear H
           have H := H1
           clear H1
           by_cases c36 : (t476 != t483) = true
           · rw [if_pos c36] at H
             have c36b0 : (t476 != t483) = true := c36
             (try (have c36b1 : decide (t476 = t483) = false := by simpa using c36))
             (try (have c36b2 : (t476 == t483) = false := by simpa using c36))
             (try (have c36b3 : ¬ (t476 = t483) := by simpa using c36))
             clear c36
             exact (laws_FnAreas.j0_true (H.trans (congrArg some HR_.out))).elim
           · rw [if_neg c36] at H
             have c36b0 : (t476 != t483) = false := by simpa using c36
             (try (have c36b1 : decide (t476 = t483) = true := by simpa using c36))
             (try (have c36b2 : (t476 == t483) = true := by simpa using c36))
             clear c36
             replace H := Option.bind_eq_some_iff.mp H
             obtain ⟨t515, A390, H⟩ := H
             try dsimp only at H
             have A39 := Aside0.mk A390
             clear A390
             by_cases c40 : t515 = true
             · subst c40
               have H1 : ((laws_qInts.f k t475 t482).bind fun t516 => (if t516 = true then (if (t494 != t498) = true then (laws_FnAreas.j0 k t459 t460 t463 t464 t467 t471 t474 t475 t476 t481 t482 t488 t489 t490 t493 t494 t501 t504 t505 t506 true) else ((laws_qInts.f k t493 t497).bind fun t517 => (if t517 = true then (if (t506 != t511) = true then (laws_FnAreas.j0 k t459 t460 t463 t464 t467 t471 t474 t475 t476 t481 t482 t488 t489 t490 t493 t494 t501 t504 t505 t506 true) else (if t504 = t509 then ((laws_qInts.f k t505 t510).bind fun t518 => (laws_FnAreas.j0 k t459 t460 t463 t464 t467 t471 t474 t475 t476 t481 t482 t488 t489 t490 t493 t494 t501 t504 t505 t506 (!t518))) else (laws_FnAreas.j0 k t459 t460 t463 t464 t467 t471 t474 t475 t476 t481 t482 t488 t489 t490 t493 t494 t501 t504 t505 t506 true))) else (laws_FnAreas.j0 k t459 t460 t463 t464 t467 t471 t474 t475 t476 t481 t482 t488 t489 t490 t493 t494 t501 t504 t505 t506 true)))) else (laws_FnAreas.j0 k t459 t460 t463 t464 t467 t471 t474 t475 t476 t481 t482 t488 t489 t490 t493 t494 t501 t504 t505 t506 true))) = some r := by rw [if_pos rfl] at H; exact H
               clear H
               have H := H1
               clear H1
               replace H := Option.bind_eq_some_iff.mp H
               obtain ⟨t516, A410, H⟩ := H
               try dsimp only at H
               have A41 := Aside0.mk A410
               clear A410
               by_cases c42 : t516 = true
               · subst c42
                 have H1 : (if (t494 != t498) = true then (laws_FnAreas.j0 k t459 t460 t463 t464 t467 t471 t474 t475 t476 t481 t482 t488 t489 t490 t493 t494 t501 t504 t505 t506 true) else ((laws_qInts.f k t493 t497).bind fun t517 => (if t517 = true then (if (t506 != t511) = true then (laws_FnAreas.j0 k t459 t460 t463 t464 t467 t471 t474 t475 t476 t481 t482 t488 t489 t490 t493 t494 t501 t504 t505 t506 true) else (if t504 = t509 then ((laws_qInts.f k t505 t510).bind fun t518 => (laws_FnAreas.j0 k t459 t460 t463 t464 t467 t471 t474 t475 t476 t481 t482 t488 t489 t490 t493 t494 t501 t504 t505 t506 (!t518))) else (laws_FnAreas.j0 k t459 t460 t463 t464 t467 t471 t474 t475 t476 t481 t482 t488 t489 t490 t493 t494 t501 t504 t505 t506 true))) else (laws_FnAreas.j0 k t459 t460 t463 t464 t467 t471 t474 t475 t476 t481 t482 t488 t489 t490 t493 t494 t501 t504 t505 t506 true)))) = some r := by rw [if_pos rfl] at H; exact H
                 clear H
                 have H := H1
                 clear H1
                 by_cases c43 : (t494 != t498) = true
                 · rw [if_pos c43] at H
                   have c43b0 : (t494 != t498) = true := c43
                   (try (have c43b1 : decide (t494 = t498) = false := by simpa using c43))
                   (try (have c43b2 : (t494 == t498) = false := by simpa using c43))
                   (try (have c43b3 : ¬ (t494 = t498) := by simpa using c43))
                   clear c43
                   exact (laws_FnAreas.j0_true (H.trans (congrArg some HR_.out))).elim
                 · rw [if_neg c43] at H
                   have c43b0 : (t494 != t498) = false := by simpa using c43
                   (try (have c43b1 : decide (t494 = t498) = true := by simpa using c43))
                   (try (have c43b2 : (t494 == t498) = true := by simpa using c43))
                   clear c43
                   replace H := Option.bind_eq_some_iff.mp H
                   obtain ⟨t517, A500, H⟩ := H
                   try dsimp only at H
                   have A50 := Aside0.mk A500
                   clear A500
                   by_cases c51 : t517 = true
                   · subst c51
                     have H1 : (if (t506 != t511) = true then (laws_FnAreas.j0 k t459 t460 t463 t464 t467 t471 t474 t475 t476 t481 t482 t488 t489 t490 t493 t494 t501 t504 t505 t506 true) else (if t504 = t509 then ((laws_qInts.f k t505 t510).bind fun t518 => (laws_FnAreas.j0 k t459 t460 t463 t464 t467 t471 t474 t475 t476 t481 t482 t488 t489 t490 t493 t494 t501 t504 t505 t506 (!t518))) else (laws_FnAreas.j0 k t459 t460 t463 t464 t467 t471 t474 t475 t476 t481 t482 t488 t489 t490 t493 t494 t501 t504 t505 t506 true))) = some r := by rw [if_pos rfl] at H; exact H
                     clear H
                     have H := H1
                     clear H1
                     by_cases c52 : (t506 != t511) = true
                     · rw [if_pos c52] at H
                       have c52b0 : (t506 != t511) = true := c52
                       (try (have c52b1 : decide (t506 = t511) = false := by simpa using c52))
                       (try (have c52b2 : (t506 == t511) = false := by simpa using c52))
                       (try (have c52b3 : ¬ (t506 = t511) := by simpa using c52))
                       clear c52
                       exact (laws_FnAreas.j0_true (H.trans (congrArg some HR_.out))).elim
                     · rw [if_neg c52] at H
                       have c52b0 : (t506 != t511) = false := by simpa using c52
                       (try (have c52b1 : decide (t506 = t511) = true := by simpa using c52))
                       (try (have c52b2 : (t506 == t511) = true := by simpa using c52))
                       clear c52
                       by_cases c61 : t504 = t509
                       · rw [if_pos c61] at H
                         have c61b0 : (t504 == t509) = true := beq_iff_eq.mpr c61
                         have c61b1 : (t504 != t509) = false := bne_eq_false_iff_eq.mpr c61
                         clear c61
                         replace H := Option.bind_eq_some_iff.mp H
                         obtain ⟨t518, A620, H⟩ := H
                         try dsimp only at H
                         have A62 := Aside0.mk A620
                         clear A620
                         have H' := Aside0.mk H
                         clear H
                         obtain ⟨Ao63, co63, eo63⟩ := Kd.R_slice HO466.out
                         subst eo63
                         obtain ⟨Ao64, co64, eo64⟩ := Kd.R_slice HO470.out
                         subst eo64
                         go_wp2_with (first|(go_at_call 20; (with_reducible refine (laws_qInts.calls k _ _ t463 _ _ t467 true _ ?side1 ?side2 ?side3 ?side4 A34.out).mono ?_);(case side1 => repeat (first|exact (Kd.R_reads' HO466.out).2.2|(with_reducible refine Kd.C_alloc ?_ _)|(with_reducible refine Kd.C_drewN ?_ _)|(with_reducible refine Kd.C_drew ?_)));(case side2 => exact (Kd.R_reads' HO466.out).2.1);(case side3 => repeat (first|exact (Kd.R_reads' HO470.out).2.2|(with_reducible refine Kd.C_alloc ?_ _)|(with_reducible refine Kd.C_drewN ?_ _)|(with_reducible refine Kd.C_drew ?_)));(case side4 => exact (Kd.R_reads' HO470.out).2.1); rintro e w' ⟨rfl, ⟨nd, rfl⟩⟩; obtain ⟨Ao65, co65, eo65⟩ := Kd.R_slice HO478.out; subst eo65; obtain ⟨Ao66, co66, eo66⟩ := Kd.R_slice HO485.out; subst eo66)|(go_at_call 20; (with_reducible refine (laws_qInts.calls k _ _ t474 _ _ t481 true _ ?side1 ?side2 ?side3 ?side4 A39.out).mono ?_);(case side1 => repeat (first|exact (Kd.R_reads' HO478.out).2.2|(with_reducible refine Kd.C_alloc ?_ _)|(with_reducible refine Kd.C_drewN ?_ _)|(with_reducible refine Kd.C_drew ?_)));(case side2 => exact (Kd.R_reads' HO478.out).2.1);(case side3 => repeat (first|exact (Kd.R_reads' HO485.out).2.2|(with_reducible refine Kd.C_alloc ?_ _)|(with_reducible refine Kd.C_drewN ?_ _)|(with_reducible refine Kd.C_drew ?_)));(case side4 => exact (Kd.R_reads' HO485.out).2.1); rintro e w' ⟨rfl, ⟨nd, rfl⟩⟩; obtain ⟨Ao67, co67, eo67⟩ := Kd.R_slice HO480.out; subst eo67; obtain ⟨Ao68, co68, eo68⟩ := Kd.R_slice HO487.out; subst eo68)|(go_at_call 20; (with_reducible refine (laws_qInts.calls k _ _ t475 _ _ t482 true _ ?side1 ?side2 ?side3 ?side4 A41.out).mono ?_);(case side1 => repeat (first|exact (Kd.R_reads' HO480.out).2.2|(with_reducible refine Kd.C_alloc ?_ _)|(with_reducible refine Kd.C_drewN ?_ _)|(with_reducible refine Kd.C_drew ?_)));(case side2 => exact (Kd.R_reads' HO480.out).2.1);(case side3 => repeat (first|exact (Kd.R_reads' HO487.out).2.2|(with_reducible refine Kd.C_alloc ?_ _)|(with_reducible refine Kd.C_drewN ?_ _)|(with_reducible refine Kd.C_drew ?_)));(case side4 => exact (Kd.R_reads' HO487.out).2.1); rintro e w' ⟨rfl, ⟨nd, rfl⟩⟩; obtain ⟨Ao69, co69, eo69⟩ := Kd.R_slice HO496.out; subst eo69; obtain ⟨Ao70, co70, eo70⟩ := Kd.R_slice HO500.out; subst eo70)|(go_at_call 20; (with_reducible refine (laws_qInts.calls k _ _ t493 _ _ t497 true _ ?side1 ?side2 ?side3 ?side4 A50.out).mono ?_);(case side1 => repeat (first|exact (Kd.R_reads' HO496.out).2.2|(with_reducible refine Kd.C_alloc ?_ _)|(with_reducible refine Kd.C_drewN ?_ _)|(with_reducible refine Kd.C_drew ?_)));(case side2 => exact (Kd.R_reads' HO496.out).2.1);(case side3 => repeat (first|exact (Kd.R_reads' HO500.out).2.2|(with_reducible refine Kd.C_alloc ?_ _)|(with_reducible refine Kd.C_drewN ?_ _)|(with_reducible refine Kd.C_drew ?_)));(case side4 => exact (Kd.R_reads' HO500.out).2.1); rintro e w' ⟨rfl, ⟨nd, rfl⟩⟩; obtain ⟨Ao71, co71, eo71⟩ := Kd.R_slice HO508.out; subst eo71; obtain ⟨Ao72, co72, eo72⟩ := Kd.R_slice HO513.out; subst eo72)|(go_at_call 20; (with_reducible refine (laws_qInts.calls k _ _ t505 _ _ t510 t518 _ ?side1 ?side2 ?side3 ?side4 A62.out).mono ?_);(case side1 => repeat (first|exact (Kd.R_reads' HO508.out).2.2|(with_reducible refine Kd.C_alloc ?_ _)|(with_reducible refine Kd.C_drewN ?_ _)|(with_reducible refine Kd.C_drew ?_)));(case side2 => exact (Kd.R_reads' HO508.out).2.1);(case side3 => repeat (first|exact (Kd.R_reads' HO513.out).2.2|(with_reducible refine Kd.C_alloc ?_ _)|(with_reducible refine Kd.C_drewN ?_ _)|(with_reducible refine Kd.C_drew ?_)));(case side4 => exact (Kd.R_reads' HO513.out).2.1); rintro e w' ⟨rfl, ⟨nd, rfl⟩⟩))
                         all_goals
                          go_meet
                          case rel => exact ⟨_, (!t518), (by first | rfl|(simp;done)|(simp [*];done)), H', ⟨by first | omega|exact Nat.le_refl _⟩, ⟨by (with_reducible repeat (first|apply Kd.R_alloc|apply Kd.R_drewN|apply Kd.R_drew)); exact HO462.out⟩, ⟨by (with_reducible repeat (first|apply Kd.R_alloc|apply Kd.R_drewN|apply Kd.R_drew)); exact HO466.out⟩, ⟨by (with_reducible repeat (first|apply Kd.R_alloc|apply Kd.R_drewN|apply Kd.R_drew)); exact HO470.out⟩, ⟨by (with_reducible repeat (first|apply Kd.S_alloc|apply Kd.S_drewN|apply Kd.S_drew)); exact HO473.out⟩, ⟨by (with_reducible repeat (first|apply Kd.R_alloc|apply Kd.R_drewN|apply Kd.R_drew)); exact HO478.out⟩, ⟨by (with_reducible repeat (first|apply Kd.R_alloc|apply Kd.R_drewN|apply Kd.R_drew)); exact HO480.out⟩, ⟨by (with_reducible repeat (first|apply Kd.R_alloc|apply Kd.R_drewN|apply Kd.R_drew)); exact HO485.out⟩, ⟨by (with_reducible repeat (first|apply Kd.R_alloc|apply Kd.R_drewN|apply Kd.R_drew)); exact HO487.out⟩, ⟨by (with_reducible repeat (first|apply Kd.Q_alloc|apply Kd.Q_drewN|apply Kd.Q_drew)); exact HO492.out⟩, ⟨by (with_reducible repeat (first|apply Kd.R_alloc|apply Kd.R_drewN|apply Kd.R_drew)); exact HO496.out⟩, ⟨by (with_reducible repeat (first|apply Kd.Q_alloc|apply Kd.Q_drewN|apply Kd.Q_drew)); exact HO503.out⟩, ⟨by (with_reducible repeat (first|apply Kd.R_alloc|apply Kd.R_drewN|apply Kd.R_drew)); exact HO508.out⟩, ⟨by repeat (first|(with_reducible first|exact HB.out|apply below_alloc|apply pw_below_drewN|apply below_drew1)|exact HB.out)⟩⟩
                       · rw [if_neg c61] at H
                         have c61b0 : (t504 == t509) = false := beq_eq_false_iff_ne.mpr c61
                         have c61b1 : (t504 != t509) = true := bne_iff_ne.mpr c61
                         exact (laws_FnAreas.j0_true (H.trans (congrArg some HR_.out))).elim
                   · replace c51 := Bool.eq_false_iff.mpr c51
                     subst c51
                     have H1 : (laws_FnAreas.j0 k t459 t460 t463 t464 t467 t471 t474 t475 t476 t481 t482 t488 t489 t490 t493 t494 t501 t504 t505 t506 true) = some r := by rw [if_neg (show ¬ (false = true) by decide)] at H; exact H
                     clear H
                     have H := H1
                     clear H1
                     exact (laws_FnAreas.j0_true (H.trans (congrArg some HR_.out))).elim
               · replace c42 := Bool.eq_false_iff.mpr c42
                 subst c42
                 have H1 : (laws_FnAreas.j0 k t459 t460 t463 t464 t467 t471 t474 t475 t476 t481 t482 t488 t489 t490 t493 t494 t501 t504 t505 t506 true) = some r := by rw [if_neg (show ¬ (false = true) by decide)] at H; exact H
                 clear H
                 have H := H1
                 clear H1
                 exact (laws_FnAreas.j0_true (H.trans (congrArg some HR_.out))).elim
             · replace c40 := Bool.eq_false_iff.mpr c40
               subst c40
               have H1 : (laws_FnAreas.j0 k t459 t460 t463 t464 t467 t471 t474 t475 t476 t481 t482 t488 t489 t490 t493 t494 t501 t504 t505 t506 true) = some r := by rw [if_neg (show ¬ (false = true) by decide)] at H; exact H
               clear H
               have H := H1
               clear H1
               exact (laws_FnAreas.j0_true (H.trans (congrArg some HR_.out))).elim
         · replace c35 := Bool.eq_false_iff.mpr c35
           subst c35
           have H1 : (laws_FnAreas.j0 k t459 t460 t463 t464 t467 t471 t474 t475 t476 t481 t482 t488 t489 t490 t493 t494 t501 t504 t505 t506 true) = some r := by rw [if_neg (show ¬ (false = true) by decide)] at H; exact H
           clear H
           have H := H1
           clear H1
           exact (laws_FnAreas.j0_true (H.trans (congrArg some HR_.out))).elim
    case rest =>
      as_aux_lemma =>
       clear HC16
       try clear c1
       try clear c2
       try clear p2
       try clear c3
       try clear c3b0
       try clear c4
       try clear c5
       try clear c6
       try clear p6
       try clear c22
       try clear c23
       try clear c24
       try clear c25
       try clear c26
       try clear c27
       try clear c28
       try clear c29
       try clear c30
       try clear c31
       try clear c32
       try clear c33
       try clear c33b0
       try clear c33b1
       try clear c33b2
       try clear c35
       try clear c36
       try clear c36b0
       try clear c36b1
       try clear c36b2
       try clear c40
       try clear c42
       try clear c43
       try clear c43b0
       try clear c43b1
       try clear c43b2
       try clear c51
       try clear c52
       try clear c52b0
       try clear c52b1
       try clear c52b2
       try clear c61
       try clear c61b0
       try clear c61b1
       try clear p64
       obtain ⟨kq, x172_15, rfl, HA, HJ15, HO_6, HO_7, HO_9, HO_11, HO_12, HO_13, HO_15, HO_16, HO_18, HO_21, HO_25, HO_27, HB⟩ := hcut
       cases kq with
       | zero => exact absurd HA.out (by simp [laws_FnAreas.j0])
       | succ kj15 =>
         have H := HA.out
         clear HA
         simp only [laws_FnAreas.j0] at H
         by_cases c101 : x172_15 = true
         · subst c101
           have H1 : (some false) = some r := by rw [if_pos rfl] at H; exact H
           clear H
           have H := H1
           clear H1
           exact absurd ((Option.some.inj H).trans HR_.out) (by decide)
         · replace c101 := Bool.eq_false_iff.mpr c101
           subst c101
           have H1 : (if t506 = true then ((impl_AreaOf.f kj15 t504 t505).bind fun bt519 => (if bt519.2 = true then ((laws_qInts.f kj15 bt519.1 t501).bind fun t523 => (if t523 = true then (laws_FnAreas.j1 kj15 t459 t460 t463 t464 t467 t471 t474 t475 t476 t481 t482 t488 t489 t490 t493 t494) else (some false))) else (some false))) else (laws_FnAreas.j1 kj15 t459 t460 t463 t464 t467 t471 t474 t475 t476 t481 t482 t488 t489 t490 t493 t494)) = some r := by rw [if_neg (show ¬ (false = true) by decide)] at H; exact H
           clear H
           have H := H1
           clear H1
           have HC102 := Aside0.mk H
           clear H
           go_upto_if 173 with (fail)
           go_cut [] (fun wc => ∃ (kq : Nat), Aside0 (laws_FnAreas.j1 kq t459 t460 t463 t464 t467 t471 t474 t475 t476 t481 t482 t488 t489 t490 t493 t494 = some r) ∧ Aside0 (kq ≤ kj15) ∧ Aside0 (Kd.R (Kd.int .i64) 3 wc w.heap.size (fun _ => True) (.slice Ao18 t460.length co18) t460) ∧ Aside0 (Kd.R (Kd.int .i64) 3 wc w.heap.size (fun _ => True) v465 t463) ∧ Aside0 (Kd.R (Kd.int .i64) 3 wc w.heap.size (fun _ => True) v469 t467) ∧ Aside0 (Kd.S (Kd.slice 3 (Kd.int .i64)) 37 wc w.heap.size (fun _ => True) (.slice Ao22 t471.length co22) t471) ∧ Aside0 (Kd.R (Kd.int .i64) 3 wc w.heap.size (fun _ => True) v477 t474) ∧ Aside0 (Kd.R (Kd.int .i64) 3 wc w.heap.size (fun _ => True) v479 t475) ∧ Aside0 (Kd.R (Kd.int .i64) 3 wc w.heap.size (fun _ => True) v484 t481) ∧ Aside0 (Kd.R (Kd.int .i64) 3 wc w.heap.size (fun _ => True) v486 t482) ∧ Aside0 (Kd.Q (Kd.int .i64) 3 wc w.heap.size (fun _ => True) (.slice Ao26 t488.length co26) t488) ∧ Aside0 (Kd.R (Kd.int .i64) 3 wc w.heap.size (fun _ => True) v495 t493) ∧ Aside0 (Below w.heap.size w wc))
           case first =>
             as_aux_lemma =>
              have H := HC102.out
              clear HC102
              by_cases c103 : t506 = true
              · subst c103
                have H1 : ((impl_AreaOf.f kj15 t504 t505).bind fun bt519 => (if bt519.2 = true then ((laws_qInts.f kj15 bt519.1 t501).bind fun t523 => (if t523 = true then (laws_FnAreas.j1 kj15 t459 t460 t463 t464 t467 t471 t474 t475 t476 t481 t482 t488 t489 t490 t493 t494) else (some false))) else (some false))) = some r := by rw [if_pos rfl] at H; exact H
                clear H
                have H := H1
                clear H1
                replace H := Option.bind_eq_some_iff.mp H
                obtain ⟨⟨t519, t520⟩, A1040, H⟩ := H
                try dsimp only at H
                have A104 := Aside0.mk A1040
                clear A1040
                by_cases c105 : t520 = true
                · subst c105
                  have H1 : ((laws_qInts.f kj15 t519 t501).bind fun t523 => (if t523 = true then (laws_FnAreas.j1 kj15 t459 t460 t463 t464 t467 t471 t474 t475 t476 t481 t482 t488 t489 t490 t493 t494) else (some false))) = some r := by rw [if_pos rfl] at H; exact H
                  clear H
                  have H := H1
                  clear H1
                  replace H := Option.bind_eq_some_iff.mp H
                  obtain ⟨t523, A1060, H⟩ := H
                  try dsimp only at H
                  have A106 := Aside0.mk A1060
                  clear A1060
                  by_cases c107 : t523 = true
                  · subst c107
                    have H1 : (laws_FnAreas.j1 kj15 t459 t460 t463 t464 t467 t471 t474 t475 t476 t481 t482 t488 t489 t490 t493 t494) = some r := by rw [if_pos rfl] at H; exact H
                    clear H
                    have H := H1
                    clear H1
                    have H' := Aside0.mk H
                    clear H
                    obtain ⟨Ao108, co108, eo108⟩ := Kd.R_slice HO_27.out
                    subst eo108
                    go_wp2_with (first|((with_reducible refine gate_callee (f := 23) rfl ?_); refine goesL_ (some 177) rfl rfl Try.func23 (by kernel_rfl) rfl #[.int .i64 t504, .slice Ao108 t505.length co108] rfl (by (try simp only [List.map_toArray, List.map_cons, List.map_nil]); first | done | rfl|(simp only [List.length_drop, List.length_take]; rfl)) ?_; (with_reducible refine (impl_AreaOf.calls kj15 t504 _ _ t505 t519 true _ ?side1 ?side2 A104.out).mono ?_);(case side1 => repeat (first|exact (Kd.R_reads' HO_27.out).2.2|(with_reducible refine Kd.C_alloc ?_ _)|(with_reducible refine Kd.C_drewN ?_ _)|(with_reducible refine Kd.C_drew ?_)));(case side2 => exact (Kd.R_reads' HO_27.out).2.1); rintro e w109 ⟨v521, rfl, ho0, hb⟩; refine ⟨_, rfl, ?_⟩; have n0_ := Aside0.mk (Kd.R_below (by (with_reducible repeat (first|apply Kd.R_alloc|apply Kd.R_drewN|apply Kd.R_drew)); exact HO_6.out) hb); have n1_ := Aside0.mk (Kd.R_below (by (with_reducible repeat (first|apply Kd.R_alloc|apply Kd.R_drewN|apply Kd.R_drew)); exact HO_7.out) hb); have n2_ := Aside0.mk (Kd.R_below (by (with_reducible repeat (first|apply Kd.R_alloc|apply Kd.R_drewN|apply Kd.R_drew)); exact HO_9.out) hb); have n3_ := Aside0.mk (Kd.S_below (by (with_reducible repeat (first|apply Kd.S_alloc|apply Kd.S_drewN|apply Kd.S_drew)); exact HO_11.out) hb); have n4_ := Aside0.mk (Kd.R_below (by (with_reducible repeat (first|apply Kd.R_alloc|apply Kd.R_drewN|apply Kd.R_drew)); exact HO_12.out) hb); have n5_ := Aside0.mk (Kd.R_below (by (with_reducible repeat (first|apply Kd.R_alloc|apply Kd.R_drewN|apply Kd.R_drew)); exact HO_13.out) hb); have n6_ := Aside0.mk (Kd.R_below (by (with_reducible repeat (first|apply Kd.R_alloc|apply Kd.R_drewN|apply Kd.R_drew)); exact HO_15.out) hb); have n7_ := Aside0.mk (Kd.R_below (by (with_reducible repeat (first|apply Kd.R_alloc|apply Kd.R_drewN|apply Kd.R_drew)); exact HO_16.out) hb); have n8_ := Aside0.mk (Kd.Q_below (by (with_reducible repeat (first|apply Kd.Q_alloc|apply Kd.Q_drewN|apply Kd.Q_drew)); exact HO_18.out) hb); have n9_ := Aside0.mk (Kd.R_below (by (with_reducible repeat (first|apply Kd.R_alloc|apply Kd.R_drewN|apply Kd.R_drew)); exact HO_21.out) hb); have n10_ := Aside0.mk (Kd.Q_below (by (with_reducible repeat (first|apply Kd.Q_alloc|apply Kd.Q_drewN|apply Kd.Q_drew)); exact HO_25.out) hb); have n11_ := Aside0.mk (Kd.R_below (by (with_reducible repeat (first|apply Kd.R_alloc|apply Kd.R_drewN|apply Kd.R_drew)); exact HO_27.out) hb); have n12_ := Aside0.mk (Kd.R_lower ho0 (below_size (by repeat (first|(with_reducible first|exact HB.out|apply below_alloc|apply pw_below_drewN|apply below_drew1)|exact HB.out)))); have n13_ := Aside0.mk (below_step (by repeat (first|(with_reducible first|exact HB.out|apply below_alloc|apply pw_below_drewN|apply below_drew1)|exact HB.out)) hb); clear HO_6; clear HO_7; clear HO_9; clear HO_11; clear HO_12; clear HO_13; clear HO_15; clear HO_16; clear HO_18; clear HO_21; clear HO_25; clear HO_27; clear HB; have HO_6 := n0_; have HO_7 := n1_; have HO_9 := n2_; have HO_11 := n3_; have HO_12 := n4_; have HO_13 := n5_; have HO_15 := n6_; have HO_16 := n7_; have HO_18 := n8_; have HO_21 := n9_; have HO_25 := n10_; have HO_27 := n11_; have HO522 := n12_; have HB := n13_; clear n0_ n1_ n2_ n3_ n4_ n5_ n6_ n7_ n8_ n9_ n10_ n11_ n12_ n13_; (try clear hb); (try clear hb2); (try clear hk); (try clear hi); (try clear ho0); obtain ⟨Ao110, co110, eo110⟩ := Kd.R_slice HO522.out; subst eo110)|(go_at_call 20; (with_reducible refine (laws_qInts.calls kj15 _ _ t519 _ _ t501 true _ ?side1 ?side2 ?side3 ?side4 A106.out).mono ?_);(case side1 => repeat (first|exact (Kd.R_reads' HO522.out).2.2|(with_reducible refine Kd.C_alloc ?_ _)|(with_reducible refine Kd.C_drewN ?_ _)|(with_reducible refine Kd.C_drew ?_)));(case side2 => exact (Kd.R_reads' HO522.out).2.1);(case side3 => repeat (first|exact (Kd.Q_reads' HO_25.out).2.2|(with_reducible refine Kd.C_alloc ?_ _)|(with_reducible refine Kd.C_drewN ?_ _)|(with_reducible refine Kd.C_drew ?_)));(case side4 => exact (Kd.Q_reads' HO_25.out).2.1); rintro e w' ⟨rfl, ⟨nd, rfl⟩⟩))
                    all_goals
                     go_meet
                     case rel => exact ⟨_, H', ⟨by have := HJ15.out; first | omega|exact Nat.le_refl _⟩, ⟨by (with_reducible repeat (first|apply Kd.R_alloc|apply Kd.R_drewN|apply Kd.R_drew)); exact HO_6.out⟩, ⟨by (with_reducible repeat (first|apply Kd.R_alloc|apply Kd.R_drewN|apply Kd.R_drew)); exact HO_7.out⟩, ⟨by (with_reducible repeat (first|apply Kd.R_alloc|apply Kd.R_drewN|apply Kd.R_drew)); exact HO_9.out⟩, ⟨by (with_reducible repeat (first|apply Kd.S_alloc|apply Kd.S_drewN|apply Kd.S_drew)); exact HO_11.out⟩, ⟨by (with_reducible repeat (first|apply Kd.R_alloc|apply Kd.R_drewN|apply Kd.R_drew)); exact HO_12.out⟩, ⟨by (with_reducible repeat (first|apply Kd.R_alloc|apply Kd.R_drewN|apply Kd.R_drew)); exact HO_13.out⟩, ⟨by (with_reducible repeat (first|apply Kd.R_alloc|apply Kd.R_drewN|apply Kd.R_drew)); exact HO_15.out⟩, ⟨by (with_reducible repeat (first|apply Kd.R_alloc|apply Kd.R_drewN|apply Kd.R_drew)); exact HO_16.out⟩, ⟨by (with_reducible repeat (first|apply Kd.Q_alloc|apply Kd.Q_drewN|apply Kd.Q_drew)); exact HO_18.out⟩, ⟨by (with_reducible repeat (first|apply Kd.R_alloc|apply Kd.R_drewN|apply Kd.R_drew)); exact HO_21.out⟩, ⟨by repeat (first|(with_reducible first|exact HB.out|apply below_alloc|apply pw_below_drewN|apply below_drew1)|exact HB.out)⟩⟩
                  · replace c107 := Bool.eq_false_iff.mpr c107
                    subst c107
                    have H1 : (some false) = some r := by rw [if_neg (show ¬ (false = true) by decide)] at H; exact H
                    clear H
                    have H := H1
                    clear H1
                    exact absurd ((Option.some.inj H).trans HR_.out) (by decide)
                · replace c105 := Bool.eq_false_iff.mpr c105
                  subst c105
                  have H1 : (some false) = some r := by rw [if_neg (show ¬ (false = true) by decide)] at H; exact H
                  clear H
                  have H := H1
                  clear H1
                  exact absurd ((Option.some.inj H).trans HR_.out) (by decide)
              · replace c103 := Bool.eq_false_iff.mpr c103
                subst c103
                have H1 : (laws_FnAreas.j1 kj15 t459 t460 t463 t464 t467 t471 t474 t475 t476 t481 t482 t488 t489 t490 t493 t494) = some r := by rw [if_neg (show ¬ (false = true) by decide)] at H; exact H
                clear H
                have H := H1
                clear H1
                have H' := Aside0.mk H
                clear H
                go_wp2
                all_goals
                 go_meet
                 case rel => exact ⟨_, H', ⟨by have := HJ15.out; first | omega|exact Nat.le_refl _⟩, ⟨by (with_reducible repeat (first|apply Kd.R_alloc|apply Kd.R_drewN|apply Kd.R_drew)); exact HO_6.out⟩, ⟨by (with_reducible repeat (first|apply Kd.R_alloc|apply Kd.R_drewN|apply Kd.R_drew)); exact HO_7.out⟩, ⟨by (with_reducible repeat (first|apply Kd.R_alloc|apply Kd.R_drewN|apply Kd.R_drew)); exact HO_9.out⟩, ⟨by (with_reducible repeat (first|apply Kd.S_alloc|apply Kd.S_drewN|apply Kd.S_drew)); exact HO_11.out⟩, ⟨by (with_reducible repeat (first|apply Kd.R_alloc|apply Kd.R_drewN|apply Kd.R_drew)); exact HO_12.out⟩, ⟨by (with_reducible repeat (first|apply Kd.R_alloc|apply Kd.R_drewN|apply Kd.R_drew)); exact HO_13.out⟩, ⟨by (with_reducible repeat (first|apply Kd.R_alloc|apply Kd.R_drewN|apply Kd.R_drew)); exact HO_15.out⟩, ⟨by (with_reducible repeat (first|apply Kd.R_alloc|apply Kd.R_drewN|apply Kd.R_drew)); exact HO_16.out⟩, ⟨by (with_reducible repeat (first|apply Kd.Q_alloc|apply Kd.Q_drewN|apply Kd.Q_drew)); exact HO_18.out⟩, ⟨by (with_reducible repeat (first|apply Kd.R_alloc|apply Kd.R_drewN|apply Kd.R_drew)); exact HO_21.out⟩, ⟨by repeat (first|(with_reducible first|exact HB.out|apply below_alloc|apply pw_below_drewN|apply below_drew1)|exact HB.out)⟩⟩
           case rest =>
             as_aux_lemma =>
              clear HC102
              try clear c1
              try clear c2
              try clear p2
              try clear c3
              try clear c3b0
              try clear c4
              try clear c5
              try clear c6
              try clear p6
              try clear c10
              try clear c22
              try clear c23
              try clear c24
              try clear c25
              try clear c26
              try clear c27
              try clear c28
              try clear c29
              try clear c30
              try clear c31
              try clear c32
              try clear c33
              try clear c33b0
              try clear c33b1
              try clear c33b2
              try clear c35
              try clear c36
              try clear c36b0
              try clear c36b1
              try clear c36b2
              try clear c40
              try clear c42
              try clear c43
              try clear c43b0
              try clear c43b1
              try clear c43b2
              try clear c51
              try clear c52
              try clear c52b0
              try clear c52b1
              try clear c52b2
              try clear c61
              try clear c61b0
              try clear c61b1
              try clear p64
              try clear c101
              try clear c103
              try clear c105
              try clear c107
              try clear p2
              try clear p6
              try clear p64
              obtain ⟨kq, HA, HJ101, HO_6, HO_7, HO_9, HO_11, HO_12, HO_13, HO_15, HO_16, HO_18, HO_21, HB⟩ := hcut
              cases kq with
              | zero => exact absurd HA.out (by simp [laws_FnAreas.j1])
              | succ kj101 =>
                have H := HA.out
                clear HA
                simp only [laws_FnAreas.j1] at H
                have HC116 := Aside0.mk H
                clear H
                go_upto_if 188 with (fail)
                go_cut [] (fun wc => ∃ (kq : Nat), Aside0 (laws_FnAreas.j3 kq t459 t460 t463 t464 t467 t471 t474 t475 t476 t481 t482 = some r) ∧ Aside0 (kq ≤ kj101) ∧ Aside0 (Kd.R (Kd.int .i64) 3 wc w.heap.size (fun _ => True) (.slice Ao18 t460.length co18) t460) ∧ Aside0 (Kd.R (Kd.int .i64) 3 wc w.heap.size (fun _ => True) v465 t463) ∧ Aside0 (Kd.R (Kd.int .i64) 3 wc w.heap.size (fun _ => True) v469 t467) ∧ Aside0 (Kd.S (Kd.slice 3 (Kd.int .i64)) 37 wc w.heap.size (fun _ => True) (.slice Ao22 t471.length co22) t471) ∧ Aside0 (Kd.R (Kd.int .i64) 3 wc w.heap.size (fun _ => True) v477 t474) ∧ Aside0 (Kd.R (Kd.int .i64) 3 wc w.heap.size (fun _ => True) v479 t475) ∧ Aside0 (Kd.R (Kd.int .i64) 3 wc w.heap.size (fun _ => True) v484 t481) ∧ Aside0 (Kd.R (Kd.int .i64) 3 wc w.heap.size (fun _ => True) v486 t482) ∧ Aside0 (Below w.heap.size w wc))
                case first =>
                  as_aux_lemma =>
                   have H := HC116.out
                   clear HC116
                   by_cases c117 : t494 = true
                   · subst c117
                     have H1 : (if 0 ≤ t489 then (if t489 < (t488.length : Int) then ((impl_DamageArea.f kj101 t493 t489 (rd t488 t489)).bind fun bt525 => ((impl_ReadArea.f kj101 t488).bind fun bt529 => ((impl_ReadArea.f kj101 t493).bind fun bt534 => (if bt525.2 = true then ((laws_qInts.f kj101 bt525.1 t488).bind fun t539 => (laws_FnAreas.j2 kj101 t459 t460 t463 t464 t467 t471 t474 t475 t476 t481 t482 t488 t489 t490 bt529.2.2 bt534.2.2 (!t539))) else (laws_FnAreas.j2 kj101 t459 t460 t463 t464 t467 t471 t474 t475 t476 t481 t482 t488 t489 t490 bt529.2.2 bt534.2.2 true))))) else (none)) else (none)) = some r := by rw [if_pos rfl] at H; exact H
                     clear H
                     have H := H1
                     clear H1
                     by_cases c118 : 0 ≤ t489
                     · rw [if_pos c118] at H
                       have c118b0 : decide (0 ≤ t489) = true := decide_eq_true c118
                       clear c118
                       (first|rw [c118b0]|(simp only [i64_w, i32_w]; rw [c118b0]) | skip)
                       by_cases c119 : t489 < (t488.length : Int)
                       · rw [if_pos c119] at H
                         have c119b0 : decide (t489 < (t488.length : Int)) = true := decide_eq_true c119
                         clear c119
                         replace H := Option.bind_eq_some_iff.mp H
                         obtain ⟨⟨t525, t526⟩, A1200, H⟩ := H
                         try dsimp only at H
                         have A120 := Aside0.mk A1200
                         clear A1200
                         replace H := Option.bind_eq_some_iff.mp H
                         obtain ⟨⟨t529, t530, t531⟩, A1210, H⟩ := H
                         try dsimp only at H
                         have A121 := Aside0.mk A1210
                         clear A1210
                         replace H := Option.bind_eq_some_iff.mp H
                         obtain ⟨⟨t534, t535, t536⟩, A1220, H⟩ := H
                         try dsimp only at H
                         have A122 := Aside0.mk A1220
                         clear A1220
                         have HC123 := Aside0.mk H
                         clear H
                         have p524 : 0 ≤ (t489 : Int) := of_decide_eq_true (by first|(with_reducible assumption) | assumption)
                         have q524 : t489 < (t488.length : Int) := of_decide_eq_true (by first|(with_reducible assumption) | assumption)
                         obtain ⟨ad524, e524, hx524_0⟩ := Kd.at_int (Kd.Q_reads' HO_18.out).2.2 t489 p524 q524
                         cases e524
                         replace p524 := eq_true p524
                         replace q524 := eq_true q524
                         obtain ⟨Ao124, co124, eo124⟩ := Kd.R_slice HO_21.out
                         subst eo124
                         go_upto_region 25 with (first|((with_reducible refine gate_callee (f := 29) rfl ?_); refine goesL_ (some 196) rfl rfl Try.func29 (by kernel_rfl) rfl #[.slice Ao124 t493.length co124, .int .i64 t489, .int .i64 (rd t488 t489)] rfl (by (try simp only [List.map_toArray, List.map_cons, List.map_nil]); first | done | rfl|(simp only [List.length_drop, List.length_take]; rfl)) ?_; (with_reducible refine (impl_DamageArea.calls kj101 _ _ t493 t489 (rd t488 t489) t525 t526 _ ?side1 ?side2 A120.out).mono ?_);(case side1 => repeat (first|exact (Kd.R_reads' HO_21.out).2.2|(with_reducible refine Kd.C_alloc ?_ _)|(with_reducible refine Kd.C_drewN ?_ _)|(with_reducible refine Kd.C_drew ?_)));(case side2 => exact (Kd.R_reads' HO_21.out).2.1); rintro e w125 ⟨v527, rfl, ho0, hb⟩; refine ⟨_, rfl, ?_⟩; have n0_ := Aside0.mk (Kd.R_below (by (with_reducible repeat (first|apply Kd.R_alloc|apply Kd.R_drewN|apply Kd.R_drew)); exact HO_6.out) hb); have n1_ := Aside0.mk (Kd.R_below (by (with_reducible repeat (first|apply Kd.R_alloc|apply Kd.R_drewN|apply Kd.R_drew)); exact HO_7.out) hb); have n2_ := Aside0.mk (Kd.R_below (by (with_reducible repeat (first|apply Kd.R_alloc|apply Kd.R_drewN|apply Kd.R_drew)); exact HO_9.out) hb); have n3_ := Aside0.mk (Kd.S_below (by (with_reducible repeat (first|apply Kd.S_alloc|apply Kd.S_drewN|apply Kd.S_drew)); exact HO_11.out) hb); have n4_ := Aside0.mk (Kd.R_below (by (with_reducible repeat (first|apply Kd.R_alloc|apply Kd.R_drewN|apply Kd.R_drew)); exact HO_12.out) hb); have n5_ := Aside0.mk (Kd.R_below (by (with_reducible repeat (first|apply Kd.R_alloc|apply Kd.R_drewN|apply Kd.R_drew)); exact HO_13.out) hb); have n6_ := Aside0.mk (Kd.R_below (by (with_reducible repeat (first|apply Kd.R_alloc|apply Kd.R_drewN|apply Kd.R_drew)); exact HO_15.out) hb); have n7_ := Aside0.mk (Kd.R_below (by (with_reducible repeat (first|apply Kd.R_alloc|apply Kd.R_drewN|apply Kd.R_drew)); exact HO_16.out) hb); have n8_ := Aside0.mk (Kd.Q_below (by (with_reducible repeat (first|apply Kd.Q_alloc|apply Kd.Q_drewN|apply Kd.Q_drew)); exact HO_18.out) hb); have n9_ := Aside0.mk (Kd.R_below (by (with_reducible repeat (first|apply Kd.R_alloc|apply Kd.R_drewN|apply Kd.R_drew)); exact HO_21.out) hb); have n10_ := Aside0.mk (Kd.R_lower ho0 (below_size (by repeat (first|(with_reducible first|exact HB.out|apply below_alloc|apply pw_below_drewN|apply below_drew1)|exact HB.out)))); have n11_ := Aside0.mk (below_step (by repeat (first|(with_reducible first|exact HB.out|apply below_alloc|apply pw_below_drewN|apply below_drew1)|exact HB.out)) hb); clear HO_6; clear HO_7; clear HO_9; clear HO_11; clear HO_12; clear HO_13; clear HO_15; clear HO_16; clear HO_18; clear HO_21; clear HB; have HO_6 := n0_; have HO_7 := n1_; have HO_9 := n2_; have HO_11 := n3_; have HO_12 := n4_; have HO_13 := n5_; have HO_15 := n6_; have HO_16 := n7_; have HO_18 := n8_; have HO_21 := n9_; have HO528 := n10_; have HB := n11_; clear n0_ n1_ n2_ n3_ n4_ n5_ n6_ n7_ n8_ n9_ n10_ n11_; (try clear hb); (try clear hb2); (try clear hk); (try clear hi); (try clear ho0))|((with_reducible refine gate_callee (f := 32) rfl ?_); refine goesL_ (some 201) rfl rfl Try.func32 (by kernel_rfl) rfl #[.slice (some ad524) t488.length co26] rfl (by (try simp only [List.map_toArray, List.map_cons, List.map_nil]); first | done | rfl|(simp only [List.length_drop, List.length_take]; rfl)) ?_; (with_reducible refine (impl_ReadArea.calls kj101 _ _ t488 t529 t530 t531 _ ?side1 ?side2 A121.out).mono ?_);(case side1 => repeat (first|exact (Kd.Q_reads' HO_18.out).2.2|(with_reducible refine Kd.C_alloc ?_ _)|(with_reducible refine Kd.C_drewN ?_ _)|(with_reducible refine Kd.C_drew ?_)));(case side2 => exact (Kd.Q_reads' HO_18.out).2.1); rintro e w126 ⟨v532, rfl, ho0, hb⟩; refine ⟨_, rfl, ?_⟩; have n0_ := Aside0.mk (Kd.R_below (by (with_reducible repeat (first|apply Kd.R_alloc|apply Kd.R_drewN|apply Kd.R_drew)); exact HO_6.out) hb); have n1_ := Aside0.mk (Kd.R_below (by (with_reducible repeat (first|apply Kd.R_alloc|apply Kd.R_drewN|apply Kd.R_drew)); exact HO_7.out) hb); have n2_ := Aside0.mk (Kd.R_below (by (with_reducible repeat (first|apply Kd.R_alloc|apply Kd.R_drewN|apply Kd.R_drew)); exact HO_9.out) hb); have n3_ := Aside0.mk (Kd.S_below (by (with_reducible repeat (first|apply Kd.S_alloc|apply Kd.S_drewN|apply Kd.S_drew)); exact HO_11.out) hb); have n4_ := Aside0.mk (Kd.R_below (by (with_reducible repeat (first|apply Kd.R_alloc|apply Kd.R_drewN|apply Kd.R_drew)); exact HO_12.out) hb); have n5_ := Aside0.mk (Kd.R_below (by (with_reducible repeat (first|apply Kd.R_alloc|apply Kd.R_drewN|apply Kd.R_drew)); exact HO_13.out) hb); have n6_ := Aside0.mk (Kd.R_below (by (with_reducible repeat (first|apply Kd.R_alloc|apply Kd.R_drewN|apply Kd.R_drew)); exact HO_15.out) hb); have n7_ := Aside0.mk (Kd.R_below (by (with_reducible repeat (first|apply Kd.R_alloc|apply Kd.R_drewN|apply Kd.R_drew)); exact HO_16.out) hb); have n8_ := Aside0.mk (Kd.Q_below (by (with_reducible repeat (first|apply Kd.Q_alloc|apply Kd.Q_drewN|apply Kd.Q_drew)); exact HO_18.out) hb); have n9_ := Aside0.mk (Kd.R_below (by (with_reducible repeat (first|apply Kd.R_alloc|apply Kd.R_drewN|apply Kd.R_drew)); exact HO_21.out) hb); have n10_ := Aside0.mk (Kd.R_below (by (with_reducible repeat (first|apply Kd.R_alloc|apply Kd.R_drewN|apply Kd.R_drew)); exact HO528.out) hb); have n11_ := Aside0.mk (Kd.R_lower ho0 (below_size (by repeat (first|(with_reducible first|exact HB.out|apply below_alloc|apply pw_below_drewN|apply below_drew1)|exact HB.out)))); have n12_ := Aside0.mk (below_step (by repeat (first|(with_reducible first|exact HB.out|apply below_alloc|apply pw_below_drewN|apply below_drew1)|exact HB.out)) hb); clear HO_6; clear HO_7; clear HO_9; clear HO_11; clear HO_12; clear HO_13; clear HO_15; clear HO_16; clear HO_18; clear HO_21; clear HO528; clear HB; have HO_6 := n0_; have HO_7 := n1_; have HO_9 := n2_; have HO_11 := n3_; have HO_12 := n4_; have HO_13 := n5_; have HO_15 := n6_; have HO_16 := n7_; have HO_18 := n8_; have HO_21 := n9_; have HO528 := n10_; have HO533 := n11_; have HB := n12_; clear n0_ n1_ n2_ n3_ n4_ n5_ n6_ n7_ n8_ n9_ n10_ n11_ n12_; (try clear hb); (try clear hb2); (try clear hk); (try clear hi); (try clear ho0))|((with_reducible refine gate_callee (f := 32) rfl ?_); refine goesL_ (some 207) rfl rfl Try.func32 (by kernel_rfl) rfl #[.slice Ao124 t493.length co124] rfl (by (try simp only [List.map_toArray, List.map_cons, List.map_nil]); first | done | rfl|(simp only [List.length_drop, List.length_take]; rfl)) ?_; (with_reducible refine (impl_ReadArea.calls kj101 _ _ t493 t534 t535 t536 _ ?side1 ?side2 A122.out).mono ?_);(case side1 => repeat (first|exact (Kd.R_reads' HO_21.out).2.2|(with_reducible refine Kd.C_alloc ?_ _)|(with_reducible refine Kd.C_drewN ?_ _)|(with_reducible refine Kd.C_drew ?_)));(case side2 => exact (Kd.R_reads' HO_21.out).2.1); rintro e w127 ⟨v537, rfl, ho0, hb⟩; refine ⟨_, rfl, ?_⟩; have n0_ := Aside0.mk (Kd.R_below (by (with_reducible repeat (first|apply Kd.R_alloc|apply Kd.R_drewN|apply Kd.R_drew)); exact HO_6.out) hb); have n1_ := Aside0.mk (Kd.R_below (by (with_reducible repeat (first|apply Kd.R_alloc|apply Kd.R_drewN|apply Kd.R_drew)); exact HO_7.out) hb); have n2_ := Aside0.mk (Kd.R_below (by (with_reducible repeat (first|apply Kd.R_alloc|apply Kd.R_drewN|apply Kd.R_drew)); exact HO_9.out) hb); have n3_ := Aside0.mk (Kd.S_below (by (with_reducible repeat (first|apply Kd.S_alloc|apply Kd.S_drewN|apply Kd.S_drew)); exact HO_11.out) hb); have n4_ := Aside0.mk (Kd.R_below (by (with_reducible repeat (first|apply Kd.R_alloc|apply Kd.R_drewN|apply Kd.R_drew)); exact HO_12.out) hb); have n5_ := Aside0.mk (Kd.R_below (by (with_reducible repeat (first|apply Kd.R_alloc|apply Kd.R_drewN|apply Kd.R_drew)); exact HO_13.out) hb); have n6_ := Aside0.mk (Kd.R_below (by (with_reducible repeat (first|apply Kd.R_alloc|apply Kd.R_drewN|apply Kd.R_drew)); exact HO_15.out) hb); have n7_ := Aside0.mk (Kd.R_below (by (with_reducible repeat (first|apply Kd.R_alloc|apply Kd.R_drewN|apply Kd.R_drew)); exact HO_16.out) hb); have n8_ := Aside0.mk (Kd.Q_below (by (with_reducible repeat (first|apply Kd.Q_alloc|apply Kd.Q_drewN|apply Kd.Q_drew)); exact HO_18.out) hb); have n9_ := Aside0.mk (Kd.R_below (by (with_reducible repeat (first|apply Kd.R_alloc|apply Kd.R_drewN|apply Kd.R_drew)); exact HO_21.out) hb); have n10_ := Aside0.mk (Kd.R_below (by (with_reducible repeat (first|apply Kd.R_alloc|apply Kd.R_drewN|apply Kd.R_drew)); exact HO528.out) hb); have n11_ := Aside0.mk (Kd.R_below (by (with_reducible repeat (first|apply Kd.R_alloc|apply Kd.R_drewN|apply Kd.R_drew)); exact HO533.out) hb); have n12_ := Aside0.mk (Kd.R_lower ho0 (below_size (by repeat (first|(with_reducible first|exact HB.out|apply below_alloc|apply pw_below_drewN|apply below_drew1)|exact HB.out)))); have n13_ := Aside0.mk (below_step (by repeat (first|(with_reducible first|exact HB.out|apply below_alloc|apply pw_below_drewN|apply below_drew1)|exact HB.out)) hb); clear HO_6; clear HO_7; clear HO_9; clear HO_11; clear HO_12; clear HO_13; clear HO_15; clear HO_16; clear HO_18; clear HO_21; clear HO528; clear HO533; clear HB; have HO_6 := n0_; have HO_7 := n1_; have HO_9 := n2_; have HO_11 := n3_; have HO_12 := n4_; have HO_13 := n5_; have HO_15 := n6_; have HO_16 := n7_; have HO_18 := n8_; have HO_21 := n9_; have HO528 := n10_; have HO533 := n11_; have HO538 := n12_; have HB := n13_; clear n0_ n1_ n2_ n3_ n4_ n5_ n6_ n7_ n8_ n9_ n10_ n11_ n12_ n13_; (try clear hb); (try clear hb2); (try clear hk); (try clear hi); (try clear ho0)))
                         (try simp only [Act.put, List.setIfInBounds_toArray, List.set_cons_zero, List.set_cons_succ])
                         go_cut [218] (fun v218 wc => ∃ (kq : Nat) (x218_122 : Bool), v218 = .bool x218_122 ∧ Aside0 (laws_FnAreas.j2 kq t459 t460 t463 t464 t467 t471 t474 t475 t476 t481 t482 t488 t489 t490 t531 t536 x218_122 = some r) ∧ Aside0 (kq ≤ kj101) ∧ Aside0 (Kd.R (Kd.int .i64) 3 wc w.heap.size (fun _ => True) (.slice Ao18 t460.length co18) t460) ∧ Aside0 (Kd.R (Kd.int .i64) 3 wc w.heap.size (fun _ => True) v465 t463) ∧ Aside0 (Kd.R (Kd.int .i64) 3 wc w.heap.size (fun _ => True) v469 t467) ∧ Aside0 (Kd.S (Kd.slice 3 (Kd.int .i64)) 37 wc w.heap.size (fun _ => True) (.slice Ao22 t471.length co22) t471) ∧ Aside0 (Kd.R (Kd.int .i64) 3 wc w.heap.size (fun _ => True) v477 t474) ∧ Aside0 (Kd.R (Kd.int .i64) 3 wc w.heap.size (fun _ => True) v479 t475) ∧ Aside0 (Kd.R (Kd.int .i64) 3 wc w.heap.size (fun _ => True) v484 t481) ∧ Aside0 (Kd.R (Kd.int .i64) 3 wc w.heap.size (fun _ => True) v486 t482) ∧ Aside0 (Kd.Q (Kd.int .i64) 3 wc w.heap.size (fun _ => True) (.slice (some ad524) t488.length co26) t488) ∧ Aside0 (Below w.heap.size w wc))
                         case first =>
                           as_aux_lemma =>
                            have H := HC123.out
                            clear HC123
                            by_cases c128 : t526 = true
                            · subst c128
                              have H1 : ((laws_qInts.f kj101 t525 t488).bind fun t539 => (laws_FnAreas.j2 kj101 t459 t460 t463 t464 t467 t471 t474 t475 t476 t481 t482 t488 t489 t490 t531 t536 (!t539))) = some r := by rw [if_pos rfl] at H; exact H
                              clear H
                              have H := H1
                              clear H1
                              replace H := Option.bind_eq_some_iff.mp H
                              obtain ⟨t539, A1290, H⟩ := H
                              try dsimp only at H
                              have A129 := Aside0.mk A1290
                              clear A1290
                              have H' := Aside0.mk H
                              clear H
                              obtain ⟨Ao130, co130, eo130⟩ := Kd.R_slice HO528.out
                              subst eo130
                              go_wp2_with (first|(go_at_call 20; (with_reducible refine (laws_qInts.calls kj101 _ _ t525 _ _ t488 t539 _ ?side1 ?side2 ?side3 ?side4 A129.out).mono ?_);(case side1 => repeat (first|exact (Kd.R_reads' HO528.out).2.2|(with_reducible refine Kd.C_alloc ?_ _)|(with_reducible refine Kd.C_drewN ?_ _)|(with_reducible refine Kd.C_drew ?_)));(case side2 => exact (Kd.R_reads' HO528.out).2.1);(case side3 => repeat (first|exact (Kd.Q_reads' HO_18.out).2.2|(with_reducible refine Kd.C_alloc ?_ _)|(with_reducible refine Kd.C_drewN ?_ _)|(with_reducible refine Kd.C_drew ?_)));(case side4 => exact (Kd.Q_reads' HO_18.out).2.1); rintro e w' ⟨rfl, ⟨nd, rfl⟩⟩))
                              all_goals
                               go_meet
                               case rel => exact ⟨_, (!t539), (by first | rfl|(simp;done)|(simp [*];done)), H', ⟨by have := HJ15.out; have := HJ101.out; first | omega|exact Nat.le_refl _⟩, ⟨by (with_reducible repeat (first|apply Kd.R_alloc|apply Kd.R_drewN|apply Kd.R_drew)); exact HO_6.out⟩, ⟨by (with_reducible repeat (first|apply Kd.R_alloc|apply Kd.R_drewN|apply Kd.R_drew)); exact HO_7.out⟩, ⟨by (with_reducible repeat (first|apply Kd.R_alloc|apply Kd.R_drewN|apply Kd.R_drew)); exact HO_9.out⟩, ⟨by (with_reducible repeat (first|apply Kd.S_alloc|apply Kd.S_drewN|apply Kd.S_drew)); exact HO_11.out⟩, ⟨by (with_reducible repeat (first|apply Kd.R_alloc|apply Kd.R_drewN|apply Kd.R_drew)); exact HO_12.out⟩, ⟨by (with_reducible repeat (first|apply Kd.R_alloc|apply Kd.R_drewN|apply Kd.R_drew)); exact HO_13.out⟩, ⟨by (with_reducible repeat (first|apply Kd.R_alloc|apply Kd.R_drewN|apply Kd.R_drew)); exact HO_15.out⟩, ⟨by (with_reducible repeat (first|apply Kd.R_alloc|apply Kd.R_drewN|apply Kd.R_drew)); exact HO_16.out⟩, ⟨by (with_reducible repeat (first|apply Kd.Q_alloc|apply Kd.Q_drewN|apply Kd.Q_drew)); exact HO_18.out⟩, ⟨by repeat (first|(with_reducible first|exact HB.out|apply below_alloc|apply pw_below_drewN|apply below_drew1)|exact HB.out)⟩⟩
                            · replace c128 := Bool.eq_false_iff.mpr c128
                              subst c128
                              have H1 : (laws_FnAreas.j2 kj101 t459 t460 t463 t464 t467 t471 t474 t475 t476 t481 t482 t488 t489 t490 t531 t536 true) = some r := by rw [if_neg (show ¬ (false = true) by decide)] at H; exact H
                              clear H
                              have H := H1
                              clear H1
                              exact (laws_FnAreas.j2_true (H.trans (congrArg some HR_.out))).elim
                         case rest =>
                           as_aux_lemma =>
                            clear HC123
                            try clear c1
                            try clear c2
                            try clear p2
                            try clear c3
                            try clear c3b0
                            try clear c4
                            try clear c5
                            try clear p5
                            try clear q5
                            try clear hx5
                            try clear c6
                            try clear p6
                            try clear c10
                            try clear c11
                            try clear c12
                            try clear c22
                            try clear c23
                            try clear c24
                            try clear c25
                            try clear c26
                            try clear c27
                            try clear c28
                            try clear c29
                            try clear c30
                            try clear c31
                            try clear c32
                            try clear c33
                            try clear c33b0
                            try clear c33b1
                            try clear c33b2
                            try clear c35
                            try clear c36
                            try clear c36b0
                            try clear c36b1
                            try clear c36b2
                            try clear c40
                            try clear c42
                            try clear c43
                            try clear c43b0
                            try clear c43b1
                            try clear c43b2
                            try clear c51
                            try clear c52
                            try clear c52b0
                            try clear c52b1
                            try clear c52b2
                            try clear p52
                            try clear q52
                            try clear hx52
                            try clear c61
                            try clear c61b0
                            try clear c61b1
                            try clear p64
                            try clear c101
                            try clear c103
                            try clear c105
                            try clear c107
                            try clear c117
                            try clear c118
                            try clear c118b0
                            try clear c119
                            try clear c119b0
                            try clear c128
                            try clear hx524_0
                            try clear p2
                            try clear p524
                            try clear p6
                            try clear p64
                            try clear q524
                            obtain ⟨kq, x218_122, rfl, HA, HJ122, HO_6, HO_7, HO_9, HO_11, HO_12, HO_13, HO_15, HO_16, HO_18, HB⟩ := hcut
                            cases kq with
                            | zero => exact absurd HA.out (by simp [laws_FnAreas.j2])
                            | succ kj122 =>
                              have H := HA.out
                              clear HA
                              simp only [laws_FnAreas.j2] at H
                              by_cases c131 : x218_122 = true
                              · subst c131
                                have H1 : (some false) = some r := by rw [if_pos rfl] at H; exact H
                                clear H
                                have H := H1
                                clear H1
                                exact absurd ((Option.some.inj H).trans HR_.out) (by decide)
                              · replace c131 := Bool.eq_false_iff.mpr c131
                                subst c131
                                have H1 : (if t531 = true then (if t536 = true then (if 0 ≤ t489 then (if t489 < (t488.length : Int) then (if t490 = (rd t488 t489) then (laws_FnAreas.j3 kj122 t459 t460 t463 t464 t467 t471 t474 t475 t476 t481 t482) else (some false)) else (none)) else (none)) else (laws_FnAreas.j3 kj122 t459 t460 t463 t464 t467 t471 t474 t475 t476 t481 t482)) else (laws_FnAreas.j3 kj122 t459 t460 t463 t464 t467 t471 t474 t475 t476 t481 t482)) = some r := by rw [if_neg (show ¬ (false = true) by decide)] at H; exact H
                                clear H
                                have H := H1
                                clear H1
                                by_cases c132 : t531 = true
                                · subst c132
                                  have H1 : (if t536 = true then (if 0 ≤ t489 then (if t489 < (t488.length : Int) then (if t490 = (rd t488 t489) then (laws_FnAreas.j3 kj122 t459 t460 t463 t464 t467 t471 t474 t475 t476 t481 t482) else (some false)) else (none)) else (none)) else (laws_FnAreas.j3 kj122 t459 t460 t463 t464 t467 t471 t474 t475 t476 t481 t482)) = some r := by rw [if_pos rfl] at H; exact H
                                  clear H
                                  have H := H1
                                  clear H1
                                  by_cases c133 : t536 = true
                                  · subst c133
                                    have H1 : (if 0 ≤ t489 then (if t489 < (t488.length : Int) then (if t490 = (rd t488 t489) then (laws_FnAreas.j3 kj122 t459 t460 t463 t464 t467 t471 t474 t475 t476 t481 t482) else (some false)) else (none)) else (none)) = some r := by rw [if_pos rfl] at H; exact H
                                    clear H
                                    have H := H1
                                    clear H1
                                    by_cases c134 : 0 ≤ t489
                                    · rw [if_pos c134] at H
                                      have c134b0 : decide (0 ≤ t489) = true := decide_eq_true c134
                                      clear c134
                                      by_cases c135 : t489 < (t488.length : Int)
                                      · rw [if_pos c135] at H
                                        have c135b0 : decide (t489 < (t488.length : Int)) = true := decide_eq_true c135
                                        clear c135
                                        by_cases c136 : t490 = (rd t488 t489)
                                        · rw [if_pos c136] at H
                                          have c136b0 : (t490 == (rd t488 t489)) = true := beq_iff_eq.mpr c136
                                          have c136b1 : (t490 != (rd t488 t489)) = false := bne_eq_false_iff_eq.mpr c136
                                          clear c136
                                          have H' := Aside0.mk H
                                          clear H
                                          have p540 : 0 ≤ (t489 : Int) := of_decide_eq_true (by first|(with_reducible assumption) | assumption)
                                          have q540 : t489 < (t488.length : Int) := of_decide_eq_true (by first|(with_reducible assumption) | assumption)
                                          obtain ⟨ad540, e540, hx540_0⟩ := Kd.at_int (Kd.Q_reads' HO_18.out).2.2 t489 p540 q540
                                          obtain rfl : ad524 = ad540 := (by injection e540)
                                          replace p540 := eq_true p540
                                          replace q540 := eq_true q540
                                          go_wp2
                                          all_goals
                                           go_meet
                                           case rel => exact ⟨_, H', ⟨by have := HJ15.out; have := HJ101.out; have := HJ122.out; first | omega|exact Nat.le_refl _⟩, ⟨by (with_reducible repeat (first|apply Kd.R_alloc|apply Kd.R_drewN|apply Kd.R_drew)); exact HO_6.out⟩, ⟨by (with_reducible repeat (first|apply Kd.R_alloc|apply Kd.R_drewN|apply Kd.R_drew)); exact HO_7.out⟩, ⟨by (with_reducible repeat (first|apply Kd.R_alloc|apply Kd.R_drewN|apply Kd.R_drew)); exact HO_9.out⟩, ⟨by (with_reducible repeat (first|apply Kd.S_alloc|apply Kd.S_drewN|apply Kd.S_drew)); exact HO_11.out⟩, ⟨by (with_reducible repeat (first|apply Kd.R_alloc|apply Kd.R_drewN|apply Kd.R_drew)); exact HO_12.out⟩, ⟨by (with_reducible repeat (first|apply Kd.R_alloc|apply Kd.R_drewN|apply Kd.R_drew)); exact HO_13.out⟩, ⟨by (with_reducible repeat (first|apply Kd.R_alloc|apply Kd.R_drewN|apply Kd.R_drew)); exact HO_15.out⟩, ⟨by (with_reducible repeat (first|apply Kd.R_alloc|apply Kd.R_drewN|apply Kd.R_drew)); exact HO_16.out⟩, ⟨by repeat (first|(with_reducible first|exact HB.out|apply below_alloc|apply pw_below_drewN|apply below_drew1)|exact HB.out)⟩⟩
                                        · rw [if_neg c136] at H
                                          have c136b0 : (t490 == (rd t488 t489)) = false := beq_eq_false_iff_ne.mpr c136
                                          have c136b1 : (t490 != (rd t488 t489)) = true := bne_iff_ne.mpr c136
                                          exact absurd ((Option.some.inj H).trans HR_.out) (by decide)
                                      · rw [if_neg c135] at H
                                        exact absurd H (by simp)
                                    · rw [if_neg c134] at H
                                      exact absurd H (by simp)
                                  · replace c133 := Bool.eq_false_iff.mpr c133
                                    subst c133
                                    have H1 : (laws_FnAreas.j3 kj122 t459 t460 t463 t464 t467 t471 t474 t475 t476 t481 t482) = some r := by rw [if_neg (show ¬ (false = true) by decide)] at H; exact H
                                    clear H
                                    have H := H1
                                    clear H1
                                    have H' := Aside0.mk H
                                    clear H
                                    go_wp2
                                    all_goals
                                     go_meet
                                     case rel => exact ⟨_, H', ⟨by have := HJ15.out; have := HJ101.out; have := HJ122.out; first | omega|exact Nat.le_refl _⟩, ⟨by (with_reducible repeat (first|apply Kd.R_alloc|apply Kd.R_drewN|apply Kd.R_drew)); exact HO_6.out⟩, ⟨by (with_reducible repeat (first|apply Kd.R_alloc|apply Kd.R_drewN|apply Kd.R_drew)); exact HO_7.out⟩, ⟨by (with_reducible repeat (first|apply Kd.R_alloc|apply Kd.R_drewN|apply Kd.R_drew)); exact HO_9.out⟩, ⟨by (with_reducible repeat (first|apply Kd.S_alloc|apply Kd.S_drewN|apply Kd.S_drew)); exact HO_11.out⟩, ⟨by (with_reducible repeat (first|apply Kd.R_alloc|apply Kd.R_drewN|apply Kd.R_drew)); exact HO_12.out⟩, ⟨by (with_reducible repeat (first|apply Kd.R_alloc|apply Kd.R_drewN|apply Kd.R_drew)); exact HO_13.out⟩, ⟨by (with_reducible repeat (first|apply Kd.R_alloc|apply Kd.R_drewN|apply Kd.R_drew)); exact HO_15.out⟩, ⟨by (with_reducible repeat (first|apply Kd.R_alloc|apply Kd.R_drewN|apply Kd.R_drew)); exact HO_16.out⟩, ⟨by repeat (first|(with_reducible first|exact HB.out|apply below_alloc|apply pw_below_drewN|apply below_drew1)|exact HB.out)⟩⟩
                                · replace c132 := Bool.eq_false_iff.mpr c132
                                  subst c132
                                  have H1 : (laws_FnAreas.j3 kj122 t459 t460 t463 t464 t467 t471 t474 t475 t476 t481 t482) = some r := by rw [if_neg (show ¬ (false = true) by decide)] at H; exact H
                                  clear H
                                  have H := H1
                                  clear H1
                                  have H' := Aside0.mk H
                                  clear H
                                  go_wp2
                                  all_goals
                                   go_meet
                                   case rel => exact ⟨_, H', ⟨by have := HJ15.out; have := HJ101.out; have := HJ122.out; first | omega|exact Nat.le_refl _⟩, ⟨by (with_reducible repeat (first|apply Kd.R_alloc|apply Kd.R_drewN|apply Kd.R_drew)); exact HO_6.out⟩, ⟨by (with_reducible repeat (first|apply Kd.R_alloc|apply Kd.R_drewN|apply Kd.R_drew)); exact HO_7.out⟩, ⟨by (with_reducible repeat (first|apply Kd.R_alloc|apply Kd.R_drewN|apply Kd.R_drew)); exact HO_9.out⟩, ⟨by (with_reducible repeat (first|apply Kd.S_alloc|apply Kd.S_drewN|apply Kd.S_drew)); exact HO_11.out⟩, ⟨by (with_reducible repeat (first|apply Kd.R_alloc|apply Kd.R_drewN|apply Kd.R_drew)); exact HO_12.out⟩, ⟨by (with_reducible repeat (first|apply Kd.R_alloc|apply Kd.R_drewN|apply Kd.R_drew)); exact HO_13.out⟩, ⟨by (with_reducible repeat (first|apply Kd.R_alloc|apply Kd.R_drewN|apply Kd.R_drew)); exact HO_15.out⟩, ⟨by (with_reducible repeat (first|apply Kd.R_alloc|apply Kd.R_drewN|apply Kd.R_drew)); exact HO_16.out⟩, ⟨by repeat (first|(with_reducible first|exact HB.out|apply below_alloc|apply pw_below_drewN|apply below_drew1)|exact HB.out)⟩⟩
                       · rw [if_neg c119] at H
                         exact absurd H (by simp)
                     · rw [if_neg c118] at H
                       exact absurd H (by simp)
                   · replace c117 := Bool.eq_false_iff.mpr c117
                     subst c117
                     have H1 : (laws_FnAreas.j3 kj101 t459 t460 t463 t464 t467 t471 t474 t475 t476 t481 t482) = some r := by rw [if_neg (show ¬ (false = true) by decide)] at H; exact H
                     clear H
                     have H := H1
                     clear H1
                     have H' := Aside0.mk H
                     clear H
                     go_wp2
                     all_goals
                      go_meet
                      case rel => exact ⟨_, H', ⟨by have := HJ15.out; have := HJ101.out; first | omega|exact Nat.le_refl _⟩, ⟨by (with_reducible repeat (first|apply Kd.R_alloc|apply Kd.R_drewN|apply Kd.R_drew)); exact HO_6.out⟩, ⟨by (with_reducible repeat (first|apply Kd.R_alloc|apply Kd.R_drewN|apply Kd.R_drew)); exact HO_7.out⟩, ⟨by (with_reducible repeat (first|apply Kd.R_alloc|apply Kd.R_drewN|apply Kd.R_drew)); exact HO_9.out⟩, ⟨by (with_reducible repeat (first|apply Kd.S_alloc|apply Kd.S_drewN|apply Kd.S_drew)); exact HO_11.out⟩, ⟨by (with_reducible repeat (first|apply Kd.R_alloc|apply Kd.R_drewN|apply Kd.R_drew)); exact HO_12.out⟩, ⟨by (with_reducible repeat (first|apply Kd.R_alloc|apply Kd.R_drewN|apply Kd.R_drew)); exact HO_13.out⟩, ⟨by (with_reducible repeat (first|apply Kd.R_alloc|apply Kd.R_drewN|apply Kd.R_drew)); exact HO_15.out⟩, ⟨by (with_reducible repeat (first|apply Kd.R_alloc|apply Kd.R_drewN|apply Kd.R_drew)); exact HO_16.out⟩, ⟨by repeat (first|(with_reducible first|exact HB.out|apply below_alloc|apply pw_below_drewN|apply below_drew1)|exact HB.out)⟩⟩
                case rest =>
                  as_aux_lemma =>
                   clear HC116
                   try clear c1
                   try clear c2
                   try clear p2
                   try clear c3
                   try clear c3b0
                   try clear c4
                   try clear c5
                   try clear p5
                   try clear q5
                   try clear hx5
                   try clear c6
                   try clear p6
                   try clear c10
                   try clear c11
                   try clear c12
                   try clear c13
                   try clear c22
                   try clear c23
                   try clear c24
                   try clear c25
                   try clear c26
                   try clear c27
                   try clear c28
                   try clear c29
                   try clear c30
                   try clear c31
                   try clear c32
                   try clear c33
                   try clear c33b0
                   try clear c33b1
                   try clear c33b2
                   try clear c35
                   try clear c36
                   try clear c36b0
                   try clear c36b1
                   try clear c36b2
                   try clear c40
                   try clear c42
                   try clear c43
                   try clear c43b0
                   try clear c43b1
                   try clear c43b2
                   try clear c51
                   try clear c52
                   try clear c52b0
                   try clear c52b1
                   try clear c52b2
                   try clear p52
                   try clear q52
                   try clear hx52
                   try clear p54
                   try clear q54
                   try clear hx54
                   try clear c61
                   try clear c61b0
                   try clear c61b1
                   try clear p64
                   try clear c101
                   try clear c103
                   try clear c105
                   try clear c107
                   try clear c117
                   try clear c118
                   try clear c118b0
                   try clear c119
                   try clear c119b0
                   try clear c128
                   try clear c131
                   try clear c132
                   try clear c133
                   try clear c134
                   try clear c134b0
                   try clear c135
                   try clear c135b0
                   try clear c136
                   try clear c136b0
                   try clear c136b1
                   try clear hx524_0
                   try clear hx540_0
                   try clear p2
                   try clear p5
                   try clear p52
                   try clear p524
                   try clear p540
                   try clear p6
                   try clear p64
                   try clear q5
                   try clear q52
                   try clear q524
                   try clear q540
                   obtain ⟨kq, HA, HJ115, HO_6, HO_7, HO_9, HO_11, HO_12, HO_13, HO_15, HO_16, HB⟩ := hcut
                   cases kq with
                   | zero => exact absurd HA.out (by simp [laws_FnAreas.j3])
                   | succ kj115 =>
                     have H := HA.out
                     clear HA
                     simp only [laws_FnAreas.j3] at H
                     have HC137 := Aside0.mk H
                     clear H
                     go_upto_if 231 with (fail)
                     go_cut [] (fun wc => ∃ (kq : Nat), Aside0 (laws_FnAreas.j4 kq t459 t460 t463 t464 t467 = some r) ∧ Aside0 (kq ≤ kj115) ∧ Aside0 (Kd.R (Kd.int .i64) 3 wc w.heap.size (fun _ => True) (.slice Ao18 t460.length co18) t460) ∧ Aside0 (Kd.R (Kd.int .i64) 3 wc w.heap.size (fun _ => True) v465 t463) ∧ Aside0 (Kd.R (Kd.int .i64) 3 wc w.heap.size (fun _ => True) v469 t467) ∧ Aside0 (Below w.heap.size w wc))
                     case first =>
                       as_aux_lemma =>
                        have H := HC137.out
                        clear HC137
                        by_cases c138 : t476 = true
                        · subst c138
                          have H1 : ((impl_RecoverState.f kj115 t474 t475).bind fun bt541 => ((spec_RecoverState.f kj115 t481 t482).bind fun bt546 => (if (bt541.2.2 != bt546.2.2) = true then (some false) else (if bt541.1 = bt546.1 then ((laws_qInts.f kj115 bt541.2.1 bt546.2.1).bind fun t551 => (if t551 = true then (if (bt546.2.2 != (decide ((t471.length : Int) > 0))) = true then (some false) else (if bt546.2.2 = true then (if bt546.1 = (t471.length : Int) then (if 0 ≤ (wrap64 ((t471.length : Int) - 1)) then (if (wrap64 ((t471.length : Int) - 1)) < (t471.length : Int) then ((laws_qInts.f kj115 bt546.2.1 (rd_L2 t471 (wrap64 ((t471.length : Int) - 1)))).bind fun t553 => (if t553 = true then (laws_FnAreas.j4 kj115 t459 t460 t463 t464 t467) else (some false))) else (none)) else (none)) else (some false)) else (laws_FnAreas.j4 kj115 t459 t460 t463 t464 t467))) else (some false))) else (some false))))) = some r := by rw [if_pos rfl] at H; exact H
                          clear H
                          have H := H1
                          clear H1
                          replace H := Option.bind_eq_some_iff.mp H
                          obtain ⟨⟨t541, t542, t543⟩, A1390, H⟩ := H
                          try dsimp only at H
                          have A139 := Aside0.mk A1390
                          clear A1390
                          replace H := Option.bind_eq_some_iff.mp H
                          obtain ⟨⟨t546, t547, t548⟩, A1400, H⟩ := H
                          try dsimp only at H
                          have A140 := Aside0.mk A1400
                          clear A1400
                          by_cases c141 : (t543 != t548) = true
                          · rw [if_pos c141] at H
                            have c141b0 : (t543 != t548) = true := c141
                            (try (have c141b1 : decide (t543 = t548) = false := by simpa using c141))
                            (try (have c141b2 : (t543 == t548) = false := by simpa using c141))
                            (try (have c141b3 : ¬ (t543 = t548) := by simpa using c141))
                            clear c141
                            (first|rw [c141b0]|(simp only [i64_w, i32_w]; rw [c141b0]) | skip)
                            exact absurd ((Option.some.inj H).trans HR_.out) (by decide)
                          · rw [if_neg c141] at H
                            have c141b0 : (t543 != t548) = false := by simpa using c141
                            (try (have c141b1 : decide (t543 = t548) = true := by simpa using c141))
                            (try (have c141b2 : (t543 == t548) = true := by simpa using c141))
                            clear c141
                            (first|rw [c141b0]|(simp only [i64_w, i32_w]; rw [c141b0]) | skip)
                            by_cases c148 : t541 = t546
                            · rw [if_pos c148] at H
                              have c148b0 : (t541 == t546) = true := beq_iff_eq.mpr c148
                              have c148b1 : (t541 != t546) = false := bne_eq_false_iff_eq.mpr c148
                              clear c148
                              replace H := Option.bind_eq_some_iff.mp H
                              obtain ⟨t551, A1490, H⟩ := H
                              try dsimp only at H
                              have A149 := Aside0.mk A1490
                              clear A1490
                              by_cases c150 : t551 = true
                              · subst c150
                                have H1 : (if (t548 != (decide ((t471.length : Int) > 0))) = true then (some false) else (if t548 = true then (if t546 = (t471.length : Int) then (if 0 ≤ (wrap64 ((t471.length : Int) - 1)) then (if (wrap64 ((t471.length : Int) - 1)) < (t471.length : Int) then ((laws_qInts.f kj115 t547 (rd_L2 t471 (wrap64 ((t471.length : Int) - 1)))).bind fun t553 => (if t553 = true then (laws_FnAreas.j4 kj115 t459 t460 t463 t464 t467) else (some false))) else (none)) else (none)) else (some false)) else (laws_FnAreas.j4 kj115 t459 t460 t463 t464 t467))) = some r := by rw [if_pos rfl] at H; exact H
                                clear H
                                have H := H1
                                clear H1
                                by_cases c151 : (t548 != (decide ((t471.length : Int) > 0))) = true
                                · rw [if_pos c151] at H
                                  have cz_ : (t548 = true ∧ t471 = []) ∨ (t548 = false ∧ decide ((t471.length : Int) > 0) = true) := by
                                    by_cases z_ : (t471.length : Int) > 0
                                    · have y_ : decide ((t471.length : Int) > 0) = true := decide_eq_true z_
                                      refine .inr ⟨?_, y_⟩
                                      rw [y_] at c151
                                      cases hb_ : t548 with
                                      | true => rw [hb_] at c151; exact absurd c151 (by decide)
                                      | false => rfl
                                    · have y_ : decide ((t471.length : Int) > 0) = false := decide_eq_false z_
                                      refine .inl ⟨?_, List.length_eq_zero_iff.1 (by omega)⟩
                                      rw [y_] at c151
                                      cases hb_ : t548 with
                                      | true => rfl
                                      | false => rw [hb_] at c151; exact absurd c151 (by decide)
                                  clear c151
                                  rcases cz_ with ⟨hz_, rfl⟩ | ⟨hz_, cz_⟩
                                  · skip
                                    subst hz_
                                    have cz_ : decide ((([] : List (List Int)).length : Int) > 0) = false := rfl
                                    have czn_ : decide (0 < ([] : List (List Int)).length) = false := rfl
                                    obtain rfl := Option.some.inj H
                                    obtain ⟨Ao152, co152, eo152⟩ := Kd.R_slice HO_12.out
                                    subst eo152
                                    obtain ⟨Ao153, co153, eo153⟩ := Kd.R_slice HO_13.out
                                    subst eo153
                                    go_wp2_with (first|((with_reducible refine gate_callee (f := 34) rfl ?_); refine goesL_ (some 235) rfl rfl Try.func34 (by kernel_rfl) rfl #[.slice Ao152 t474.length co152, .slice Ao153 t475.length co153] rfl (by (try simp only [List.map_toArray, List.map_cons, List.map_nil]); first | done | rfl|(simp only [List.length_drop, List.length_take]; rfl)) ?_; (with_reducible refine (impl_RecoverState.calls kj115 _ _ t474 _ _ t475 t541 t542 t543 _ ?side1 ?side2 ?side3 ?side4 A139.out).mono ?_);(case side1 => repeat (first|exact (Kd.R_reads' HO_12.out).2.2|(with_reducible refine Kd.C_alloc ?_ _)|(with_reducible refine Kd.C_drewN ?_ _)|(with_reducible refine Kd.C_drew ?_)));(case side2 => exact (Kd.R_reads' HO_12.out).2.1);(case side3 => repeat (first|exact (Kd.R_reads' HO_13.out).2.2|(with_reducible refine Kd.C_alloc ?_ _)|(with_reducible refine Kd.C_drewN ?_ _)|(with_reducible refine Kd.C_drew ?_)));(case side4 => exact (Kd.R_reads' HO_13.out).2.1); rintro e w154 ⟨v544, rfl, ho0, hb⟩; refine ⟨_, rfl, ?_⟩; have n0_ := Aside0.mk (Kd.R_below (by (with_reducible repeat (first|apply Kd.R_alloc|apply Kd.R_drewN|apply Kd.R_drew)); exact HO_6.out) hb); have n1_ := Aside0.mk (Kd.R_below (by (with_reducible repeat (first|apply Kd.R_alloc|apply Kd.R_drewN|apply Kd.R_drew)); exact HO_7.out) hb); have n2_ := Aside0.mk (Kd.R_below (by (with_reducible repeat (first|apply Kd.R_alloc|apply Kd.R_drewN|apply Kd.R_drew)); exact HO_9.out) hb); have n3_ := Aside0.mk (Kd.S_below (by (with_reducible repeat (first|apply Kd.S_alloc|apply Kd.S_drewN|apply Kd.S_drew)); exact HO_11.out) hb); have n4_ := Aside0.mk (Kd.R_below (by (with_reducible repeat (first|apply Kd.R_alloc|apply Kd.R_drewN|apply Kd.R_drew)); exact HO_12.out) hb); have n5_ := Aside0.mk (Kd.R_below (by (with_reducible repeat (first|apply Kd.R_alloc|apply Kd.R_drewN|apply Kd.R_drew)); exact HO_13.out) hb); have n6_ := Aside0.mk (Kd.R_below (by (with_reducible repeat (first|apply Kd.R_alloc|apply Kd.R_drewN|apply Kd.R_drew)); exact HO_15.out) hb); have n7_ := Aside0.mk (Kd.R_below (by (with_reducible repeat (first|apply Kd.R_alloc|apply Kd.R_drewN|apply Kd.R_drew)); exact HO_16.out) hb); have n8_ := Aside0.mk (Kd.R_lower ho0 (below_size (by repeat (first|(with_reducible first|exact HB.out|apply below_alloc|apply pw_below_drewN|apply below_drew1)|exact HB.out)))); have n9_ := Aside0.mk (below_step (by repeat (first|(with_reducible first|exact HB.out|apply below_alloc|apply pw_below_drewN|apply below_drew1)|exact HB.out)) hb); clear HO_6; clear HO_7; clear HO_9; clear HO_11; clear HO_12; clear HO_13; clear HO_15; clear HO_16; clear HB; have HO_6 := n0_; have HO_7 := n1_; have HO_9 := n2_; have HO_11 := n3_; have HO_12 := n4_; have HO_13 := n5_; have HO_15 := n6_; have HO_16 := n7_; have HO545 := n8_; have HB := n9_; clear n0_ n1_ n2_ n3_ n4_ n5_ n6_ n7_ n8_ n9_; (try clear hb); (try clear hb2); (try clear hk); (try clear hi); (try clear ho0); obtain ⟨Ao155, co155, eo155⟩ := Kd.R_slice HO_15.out; subst eo155; obtain ⟨Ao156, co156, eo156⟩ := Kd.R_slice HO_16.out; subst eo156)|((with_reducible refine gate_callee (f := 35) rfl ?_); refine goesL_ (some 242) rfl rfl Try.func35 (by kernel_rfl) rfl #[.slice Ao155 t481.length co155, .slice Ao156 t482.length co156] rfl (by (try simp only [List.map_toArray, List.map_cons, List.map_nil]); first | done | rfl|(simp only [List.length_drop, List.length_take]; rfl)) ?_; (with_reducible refine (spec_RecoverState.calls kj115 _ _ t481 _ _ t482 t546 t547 true _ ?side1 ?side2 ?side3 ?side4 A140.out).mono ?_);(case side1 => repeat (first|exact (Kd.R_reads' HO_15.out).2.2|(with_reducible refine Kd.C_alloc ?_ _)|(with_reducible refine Kd.C_drewN ?_ _)|(with_reducible refine Kd.C_drew ?_)));(case side2 => exact (Kd.R_reads' HO_15.out).2.1);(case side3 => repeat (first|exact (Kd.R_reads' HO_16.out).2.2|(with_reducible refine Kd.C_alloc ?_ _)|(with_reducible refine Kd.C_drewN ?_ _)|(with_reducible refine Kd.C_drew ?_)));(case side4 => exact (Kd.R_reads' HO_16.out).2.1); rintro e w157 ⟨v549, rfl, ho0, hb⟩; refine ⟨_, rfl, ?_⟩; have n0_ := Aside0.mk (Kd.R_below (by (with_reducible repeat (first|apply Kd.R_alloc|apply Kd.R_drewN|apply Kd.R_drew)); exact HO_6.out) hb); have n1_ := Aside0.mk (Kd.R_below (by (with_reducible repeat (first|apply Kd.R_alloc|apply Kd.R_drewN|apply Kd.R_drew)); exact HO_7.out) hb); have n2_ := Aside0.mk (Kd.R_below (by (with_reducible repeat (first|apply Kd.R_alloc|apply Kd.R_drewN|apply Kd.R_drew)); exact HO_9.out) hb); have n3_ := Aside0.mk (Kd.S_below (by (with_reducible repeat (first|apply Kd.S_alloc|apply Kd.S_drewN|apply Kd.S_drew)); exact HO_11.out) hb); have n4_ := Aside0.mk (Kd.R_below (by (with_reducible repeat (first|apply Kd.R_alloc|apply Kd.R_drewN|apply Kd.R_drew)); exact HO_12.out) hb); have n5_ := Aside0.mk (Kd.R_below (by (with_reducible repeat (first|apply Kd.R_alloc|apply Kd.R_drewN|apply Kd.R_drew)); exact HO_13.out) hb); have n6_ := Aside0.mk (Kd.R_below (by (with_reducible repeat (first|apply Kd.R_alloc|apply Kd.R_drewN|apply Kd.R_drew)); exact HO_15.out) hb); have n7_ := Aside0.mk (Kd.R_below (by (with_reducible repeat (first|apply Kd.R_alloc|apply Kd.R_drewN|apply Kd.R_drew)); exact HO_16.out) hb); have n8_ := Aside0.mk (Kd.R_below (by (with_reducible repeat (first|apply Kd.R_alloc|apply Kd.R_drewN|apply Kd.R_drew)); exact HO545.out) hb); have n9_ := Aside0.mk (Kd.R_lower ho0 (below_size (by repeat (first|(with_reducible first|exact HB.out|apply below_alloc|apply pw_below_drewN|apply below_drew1)|exact HB.out)))); have n10_ := Aside0.mk (below_step (by repeat (first|(with_reducible first|exact HB.out|apply below_alloc|apply pw_below_drewN|apply below_drew1)|exact HB.out)) hb); clear HO_6; clear HO_7; clear HO_9; clear HO_11; clear HO_12; clear HO_13; clear HO_15; clear HO_16; clear HO545; clear HB; have HO_6 := n0_; have HO_7 := n1_; have HO_9 := n2_; have HO_11 := n3_; have HO_12 := n4_; have HO_13 := n5_; have HO_15 := n6_; have HO_16 := n7_; have HO545 := n8_; have HO550 := n9_; have HB := n10_; clear n0_ n1_ n2_ n3_ n4_ n5_ n6_ n7_ n8_ n9_ n10_; (try clear hb); (try clear hb2); (try clear hk); (try clear hi); (try clear ho0); obtain ⟨Ao158, co158, eo158⟩ := Kd.R_slice HO545.out; subst eo158; obtain ⟨Ao159, co159, eo159⟩ := Kd.R_slice HO550.out; subst eo159)|(go_at_call 20; (with_reducible refine (laws_qInts.calls kj115 _ _ t542 _ _ t547 true _ ?side1 ?side2 ?side3 ?side4 A149.out).mono ?_);(case side1 => repeat (first|exact (Kd.R_reads' HO545.out).2.2|(with_reducible refine Kd.C_alloc ?_ _)|(with_reducible refine Kd.C_drewN ?_ _)|(with_reducible refine Kd.C_drew ?_)));(case side2 => exact (Kd.R_reads' HO545.out).2.1);(case side3 => repeat (first|exact (Kd.R_reads' HO550.out).2.2|(with_reducible refine Kd.C_alloc ?_ _)|(with_reducible refine Kd.C_drewN ?_ _)|(with_reducible refine Kd.C_drew ?_)));(case side4 => exact (Kd.R_reads' HO550.out).2.1); rintro e w' ⟨rfl, ⟨nd, rfl⟩⟩))
                                    go_ret
                                    exact ⟨by first | rfl|(simp [errW_none, errW_some] <;> rfl)|(simp [*, errW_none, errW_some] <;> rfl), by repeat (first|(with_reducible first|exact HB.out|apply below_alloc|apply pw_below_drewN|apply below_drew1)|exact HB.out)⟩
                                  · skip
                                    subst hz_
                                    have czp_ : 0 < t471.length := by have h_ := of_decide_eq_true cz_; omega
                                    have czn_ : decide (0 < t471.length) = true := decide_eq_true czp_
                                    obtain rfl := Option.some.inj H
                                    obtain ⟨Ao152, co152, eo152⟩ := Kd.R_slice HO_12.out
                                    subst eo152
                                    obtain ⟨Ao153, co153, eo153⟩ := Kd.R_slice HO_13.out
                                    subst eo153
                                    go_wp2_with (first|((with_reducible refine gate_callee (f := 34) rfl ?_); refine goesL_ (some 235) rfl rfl Try.func34 (by kernel_rfl) rfl #[.slice Ao152 t474.length co152, .slice Ao153 t475.length co153] rfl (by (try simp only [List.map_toArray, List.map_cons, List.map_nil]); first | done | rfl|(simp only [List.length_drop, List.length_take]; rfl)) ?_; (with_reducible refine (impl_RecoverState.calls kj115 _ _ t474 _ _ t475 t541 t542 t543 _ ?side1 ?side2 ?side3 ?side4 A139.out).mono ?_);(case side1 => repeat (first|exact (Kd.R_reads' HO_12.out).2.2|(with_reducible refine Kd.C_alloc ?_ _)|(with_reducible refine Kd.C_drewN ?_ _)|(with_reducible refine Kd.C_drew ?_)));(case side2 => exact (Kd.R_reads' HO_12.out).2.1);(case side3 => repeat (first|exact (Kd.R_reads' HO_13.out).2.2|(with_reducible refine Kd.C_alloc ?_ _)|(with_reducible refine Kd.C_drewN ?_ _)|(with_reducible refine Kd.C_drew ?_)));(case side4 => exact (Kd.R_reads' HO_13.out).2.1); rintro e w154 ⟨v544, rfl, ho0, hb⟩; refine ⟨_, rfl, ?_⟩; have n0_ := Aside0.mk (Kd.R_below (by (with_reducible repeat (first|apply Kd.R_alloc|apply Kd.R_drewN|apply Kd.R_drew)); exact HO_6.out) hb); have n1_ := Aside0.mk (Kd.R_below (by (with_reducible repeat (first|apply Kd.R_alloc|apply Kd.R_drewN|apply Kd.R_drew)); exact HO_7.out) hb); have n2_ := Aside0.mk (Kd.R_below (by (with_reducible repeat (first|apply Kd.R_alloc|apply Kd.R_drewN|apply Kd.R_drew)); exact HO_9.out) hb); have n3_ := Aside0.mk (Kd.S_below (by (with_reducible repeat (first|apply Kd.S_alloc|apply Kd.S_drewN|apply Kd.S_drew)); exact HO_11.out) hb); have n4_ := Aside0.mk (Kd.R_below (by (with_reducible repeat (first|apply Kd.R_alloc|apply Kd.R_drewN|apply Kd.R_drew)); exact HO_12.out) hb); have n5_ := Aside0.mk (Kd.R_below (by (with_reducible repeat (first|apply Kd.R_alloc|apply Kd.R_drewN|apply Kd.R_drew)); exact HO_13.out) hb); have n6_ := Aside0.mk (Kd.R_below (by (with_reducible repeat (first|apply Kd.R_alloc|apply Kd.R_drewN|apply Kd.R_drew)); exact HO_15.out) hb); have n7_ := Aside0.mk (Kd.R_below (by (with_reducible repeat (first|apply Kd.R_alloc|apply Kd.R_drewN|apply Kd.R_drew)); exact HO_16.out) hb); have n8_ := Aside0.mk (Kd.R_lower ho0 (below_size (by repeat (first|(with_reducible first|exact HB.out|apply below_alloc|apply pw_below_drewN|apply below_drew1)|exact HB.out)))); have n9_ := Aside0.mk (below_step (by repeat (first|(with_reducible first|exact HB.out|apply below_alloc|apply pw_below_drewN|apply below_drew1)|exact HB.out)) hb); clear HO_6; clear HO_7; clear HO_9; clear HO_11; clear HO_12; clear HO_13; clear HO_15; clear HO_16; clear HB; have HO_6 := n0_; have HO_7 := n1_; have HO_9 := n2_; have HO_11 := n3_; have HO_12 := n4_; have HO_13 := n5_; have HO_15 := n6_; have HO_16 := n7_; have HO545 := n8_; have HB := n9_; clear n0_ n1_ n2_ n3_ n4_ n5_ n6_ n7_ n8_ n9_; (try clear hb); (try clear hb2); (try clear hk); (try clear hi); (try clear ho0); obtain ⟨Ao155, co155, eo155⟩ := Kd.R_slice HO_15.out; subst eo155; obtain ⟨Ao156, co156, eo156⟩ := Kd.R_slice HO_16.out; subst eo156)|((with_reducible refine gate_callee (f := 35) rfl ?_); refine goesL_ (some 242) rfl rfl Try.func35 (by kernel_rfl) rfl #[.slice Ao155 t481.length co155, .slice Ao156 t482.length co156] rfl (by (try simp only [List.map_toArray, List.map_cons, List.map_nil]); first | done | rfl|(simp only [List.length_drop, List.length_take]; rfl)) ?_; (with_reducible refine (spec_RecoverState.calls kj115 _ _ t481 _ _ t482 t546 t547 false _ ?side1 ?side2 ?side3 ?side4 A140.out).mono ?_);(case side1 => repeat (first|exact (Kd.R_reads' HO_15.out).2.2|(with_reducible refine Kd.C_alloc ?_ _)|(with_reducible refine Kd.C_drewN ?_ _)|(with_reducible refine Kd.C_drew ?_)));(case side2 => exact (Kd.R_reads' HO_15.out).2.1);(case side3 => repeat (first|exact (Kd.R_reads' HO_16.out).2.2|(with_reducible refine Kd.C_alloc ?_ _)|(with_reducible refine Kd.C_drewN ?_ _)|(with_reducible refine Kd.C_drew ?_)));(case side4 => exact (Kd.R_reads' HO_16.out).2.1); rintro e w157 ⟨v549, rfl, ho0, hb⟩; refine ⟨_, rfl, ?_⟩; have n0_ := Aside0.mk (Kd.R_below (by (with_reducible repeat (first|apply Kd.R_alloc|apply Kd.R_drewN|apply Kd.R_drew)); exact HO_6.out) hb); have n1_ := Aside0.mk (Kd.R_below (by (with_reducible repeat (first|apply Kd.R_alloc|apply Kd.R_drewN|apply Kd.R_drew)); exact HO_7.out) hb); have n2_ := Aside0.mk (Kd.R_below (by (with_reducible repeat (first|apply Kd.R_alloc|apply Kd.R_drewN|apply Kd.R_drew)); exact HO_9.out) hb); have n3_ := Aside0.mk (Kd.S_below (by (with_reducible repeat (first|apply Kd.S_alloc|apply Kd.S_drewN|apply Kd.S_drew)); exact HO_11.out) hb); have n4_ := Aside0.mk (Kd.R_below (by (with_reducible repeat (first|apply Kd.R_alloc|apply Kd.R_drewN|apply Kd.R_drew)); exact HO_12.out) hb); have n5_ := Aside0.mk (Kd.R_below (by (with_reducible repeat (first|apply Kd.R_alloc|apply Kd.R_drewN|apply Kd.R_drew)); exact HO_13.out) hb); have n6_ := Aside0.mk (Kd.R_below (by (with_reducible repeat (first|apply Kd.R_alloc|apply Kd.R_drewN|apply Kd.R_drew)); exact HO_15.out) hb); have n7_ := Aside0.mk (Kd.R_below (by (with_reducible repeat (first|apply Kd.R_alloc|apply Kd.R_drewN|apply Kd.R_drew)); exact HO_16.out) hb); have n8_ := Aside0.mk (Kd.R_below (by (with_reducible repeat (first|apply Kd.R_alloc|apply Kd.R_drewN|apply Kd.R_drew)); exact HO545.out) hb); have n9_ := Aside0.mk (Kd.R_lower ho0 (below_size (by repeat (first|(with_reducible first|exact HB.out|apply below_alloc|apply pw_below_drewN|apply below_drew1)|exact HB.out)))); have n10_ := Aside0.mk (below_step (by repeat (first|(with_reducible first|exact HB.out|apply below_alloc|apply pw_below_drewN|apply below_drew1)|exact HB.out)) hb); clear HO_6; clear HO_7; clear HO_9; clear HO_11; clear HO_12; clear HO_13; clear HO_15; clear HO_16; clear HO545; clear HB; have HO_6 := n0_; have HO_7 := n1_; have HO_9 := n2_; have HO_11 := n3_; have HO_12 := n4_; have HO_13 := n5_; have HO_15 := n6_; have HO_16 := n7_; have HO545 := n8_; have HO550 := n9_; have HB := n10_; clear n0_ n1_ n2_ n3_ n4_ n5_ n6_ n7_ n8_ n9_ n10_; (try clear hb); (try clear hb2); (try clear hk); (try clear hi); (try clear ho0); obtain ⟨Ao158, co158, eo158⟩ := Kd.R_slice HO545.out; subst eo158; obtain ⟨Ao159, co159, eo159⟩ := Kd.R_slice HO550.out; subst eo159)|(go_at_call 20; (with_reducible refine (laws_qInts.calls kj115 _ _ t542 _ _ t547 true _ ?side1 ?side2 ?side3 ?side4 A149.out).mono ?_);(case side1 => repeat (first|exact (Kd.R_reads' HO545.out).2.2|(with_reducible refine Kd.C_alloc ?_ _)|(with_reducible refine Kd.C_drewN ?_ _)|(with_reducible refine Kd.C_drew ?_)));(case side2 => exact (Kd.R_reads' HO545.out).2.1);(case side3 => repeat (first|exact (Kd.R_reads' HO550.out).2.2|(with_reducible refine Kd.C_alloc ?_ _)|(with_reducible refine Kd.C_drewN ?_ _)|(with_reducible refine Kd.C_drew ?_)));(case side4 => exact (Kd.R_reads' HO550.out).2.1); rintro e w' ⟨rfl, ⟨nd, rfl⟩⟩))
                                    go_ret
                                    exact ⟨by first | rfl|(simp [errW_none, errW_some] <;> rfl)|(simp [*, errW_none, errW_some] <;> rfl), by repeat (first|(with_reducible first|exact HB.out|apply below_alloc|apply pw_below_drewN|apply below_drew1)|exact HB.out)⟩
                                · rw [if_neg c151] at H
                                  have cz_ : t548 = decide ((t471.length : Int) > 0) := by
                                    cases h_ : (t548 != decide ((t471.length : Int) > 0)) with
                                    | true => exact absurd h_ c151
                                    | false => simpa using h_
                                  clear c151
                                  by_cases c160 : t548 = true
                                  · subst c160
                                    replace cz_ : decide ((t471.length : Int) > 0) = true := cz_.symm
                                    have czp_ : 0 < t471.length := by have h_ := of_decide_eq_true cz_; omega
                                    have czn_ : decide (0 < t471.length) = true := decide_eq_true czp_
                                    have H1 : (if t546 = (t471.length : Int) then (if 0 ≤ (wrap64 ((t471.length : Int) - 1)) then (if (wrap64 ((t471.length : Int) - 1)) < (t471.length : Int) then ((laws_qInts.f kj115 t547 (rd_L2 t471 (wrap64 ((t471.length : Int) - 1)))).bind fun t553 => (if t553 = true then (laws_FnAreas.j4 kj115 t459 t460 t463 t464 t467) else (some false))) else (none)) else (none)) else (some false)) = some r := by rw [if_pos rfl] at H; exact H
                                    clear H
                                    have H := H1
                                    clear H1
                                    by_cases c161 : t546 = (t471.length : Int)
                                    · rw [if_pos c161] at H
                                      have c161b0 : (t546 == (t471.length : Int)) = true := beq_iff_eq.mpr c161
                                      have c161b1 : (t546 != (t471.length : Int)) = false := bne_eq_false_iff_eq.mpr c161
                                      clear c161
                                      obtain ⟨ji162, hji162⟩ : ∃ j_ : Int, (wrap64 ((t471.length : Int) - 1)) = j_ := ⟨_, rfl⟩
                                      replace H : (if 0 ≤ (ji162) then (if (ji162) < (t471.length : Int) then ((laws_qInts.f kj115 t547 (rd_L2 t471 (ji162))).bind fun t553 => (if t553 = true then (laws_FnAreas.j4 kj115 t459 t460 t463 t464 t467) else (some false))) else (none)) else (none)) = some r := by first|(rw [hji162] at H; exact H)|(simp only [hji162] at H ⊢; exact H)
                                      (try rw [hji162] at A139)
                                      (try rw [hji162] at A140)
                                      (try rw [hji162] at A149)
                                      have hji162w : (IntKind.i64.wrap ((t471.length : Int) - 1)) = ji162 := (i64_w _).trans hji162
                                      by_cases c163 : 0 ≤ (ji162)
                                      · rw [if_pos c163] at H
                                        have c163b0 : decide (0 ≤ (ji162)) = true := decide_eq_true c163
                                        clear c163
                                        by_cases c164 : (ji162) < (t471.length : Int)
                                        · rw [if_pos c164] at H
                                          have c164b0 : decide ((ji162) < (t471.length : Int)) = true := decide_eq_true c164
                                          clear c164
                                          replace H := Option.bind_eq_some_iff.mp H
                                          obtain ⟨t553, A1650, H⟩ := H
                                          try dsimp only at H
                                          have A165 := Aside0.mk A1650
                                          clear A1650
                                          by_cases c166 : t553 = true
                                          · subst c166
                                            have H1 : (laws_FnAreas.j4 kj115 t459 t460 t463 t464 t467) = some r := by rw [if_pos rfl] at H; exact H
                                            clear H
                                            have H := H1
                                            clear H1
                                            have H' := Aside0.mk H
                                            clear H
                                            obtain ⟨Ao167, co167, eo167⟩ := Kd.R_slice HO_12.out
                                            subst eo167
                                            obtain ⟨Ao168, co168, eo168⟩ := Kd.R_slice HO_13.out
                                            subst eo168
                                            go_wp2_with (first|((with_reducible refine gate_callee (f := 34) rfl ?_); refine goesL_ (some 235) rfl rfl Try.func34 (by kernel_rfl) rfl #[.slice Ao167 t474.length co167, .slice Ao168 t475.length co168] rfl (by (try simp only [List.map_toArray, List.map_cons, List.map_nil]); first | done | rfl|(simp only [List.length_drop, List.length_take]; rfl)) ?_; (with_reducible refine (impl_RecoverState.calls kj115 _ _ t474 _ _ t475 t541 t542 t543 _ ?side1 ?side2 ?side3 ?side4 A139.out).mono ?_);(case side1 => repeat (first|exact (Kd.R_reads' HO_12.out).2.2|(with_reducible refine Kd.C_alloc ?_ _)|(with_reducible refine Kd.C_drewN ?_ _)|(with_reducible refine Kd.C_drew ?_)));(case side2 => exact (Kd.R_reads' HO_12.out).2.1);(case side3 => repeat (first|exact (Kd.R_reads' HO_13.out).2.2|(with_reducible refine Kd.C_alloc ?_ _)|(with_reducible refine Kd.C_drewN ?_ _)|(with_reducible refine Kd.C_drew ?_)));(case side4 => exact (Kd.R_reads' HO_13.out).2.1); rintro e w169 ⟨v544, rfl, ho0, hb⟩; refine ⟨_, rfl, ?_⟩; have n0_ := Aside0.mk (Kd.R_below (by (with_reducible repeat (first|apply Kd.R_alloc|apply Kd.R_drewN|apply Kd.R_drew)); exact HO_6.out) hb); have n1_ := Aside0.mk (Kd.R_below (by (with_reducible repeat (first|apply Kd.R_alloc|apply Kd.R_drewN|apply Kd.R_drew)); exact HO_7.out) hb); have n2_ := Aside0.mk (Kd.R_below (by (with_reducible repeat (first|apply Kd.R_alloc|apply Kd.R_drewN|apply Kd.R_drew)); exact HO_9.out) hb); have n3_ := Aside0.mk (Kd.S_below (by (with_reducible repeat (first|apply Kd.S_alloc|apply Kd.S_drewN|apply Kd.S_drew)); exact HO_11.out) hb); have n4_ := Aside0.mk (Kd.R_below (by (with_reducible repeat (first|apply Kd.R_alloc|apply Kd.R_drewN|apply Kd.R_drew)); exact HO_12.out) hb); have n5_ := Aside0.mk (Kd.R_below (by (with_reducible repeat (first|apply Kd.R_alloc|apply Kd.R_drewN|apply Kd.R_drew)); exact HO_13.out) hb); have n6_ := Aside0.mk (Kd.R_below (by (with_reducible repeat (first|apply Kd.R_alloc|apply Kd.R_drewN|apply Kd.R_drew)); exact HO_15.out) hb); have n7_ := Aside0.mk (Kd.R_below (by (with_reducible repeat (first|apply Kd.R_alloc|apply Kd.R_drewN|apply Kd.R_drew)); exact HO_16.out) hb); have n8_ := Aside0.mk (Kd.R_lower ho0 (below_size (by repeat (first|(with_reducible first|exact HB.out|apply below_alloc|apply pw_below_drewN|apply below_drew1)|exact HB.out)))); have n9_ := Aside0.mk (below_step (by repeat (first|(with_reducible first|exact HB.out|apply below_alloc|apply pw_below_drewN|apply below_drew1)|exact HB.out)) hb); clear HO_6; clear HO_7; clear HO_9; clear HO_11; clear HO_12; clear HO_13; clear HO_15; clear HO_16; clear HB; have HO_6 := n0_; have HO_7 := n1_; have HO_9 := n2_; have HO_11 := n3_; have HO_12 := n4_; have HO_13 := n5_; have HO_15 := n6_; have HO_16 := n7_; have HO545 := n8_; have HB := n9_; clear n0_ n1_ n2_ n3_ n4_ n5_ n6_ n7_ n8_ n9_; (try clear hb); (try clear hb2); (try clear hk); (try clear hi); (try clear ho0); obtain ⟨Ao170, co170, eo170⟩ := Kd.R_slice HO_15.out; subst eo170; obtain ⟨Ao171, co171, eo171⟩ := Kd.R_slice HO_16.out; subst eo171)|((with_reducible refine gate_callee (f := 35) rfl ?_); refine goesL_ (some 242) rfl rfl Try.func35 (by kernel_rfl) rfl #[.slice Ao170 t481.length co170, .slice Ao171 t482.length co171] rfl (by (try simp only [List.map_toArray, List.map_cons, List.map_nil]); first | done | rfl|(simp only [List.length_drop, List.length_take]; rfl)) ?_; (with_reducible refine (spec_RecoverState.calls kj115 _ _ t481 _ _ t482 t546 t547 true _ ?side1 ?side2 ?side3 ?side4 A140.out).mono ?_);(case side1 => repeat (first|exact (Kd.R_reads' HO_15.out).2.2|(with_reducible refine Kd.C_alloc ?_ _)|(with_reducible refine Kd.C_drewN ?_ _)|(with_reducible refine Kd.C_drew ?_)));(case side2 => exact (Kd.R_reads' HO_15.out).2.1);(case side3 => repeat (first|exact (Kd.R_reads' HO_16.out).2.2|(with_reducible refine Kd.C_alloc ?_ _)|(with_reducible refine Kd.C_drewN ?_ _)|(with_reducible refine Kd.C_drew ?_)));(case side4 => exact (Kd.R_reads' HO_16.out).2.1); rintro e w172 ⟨v549, rfl, ho0, hb⟩; refine ⟨_, rfl, ?_⟩; have n0_ := Aside0.mk (Kd.R_below (by (with_reducible repeat (first|apply Kd.R_alloc|apply Kd.R_drewN|apply Kd.R_drew)); exact HO_6.out) hb); have n1_ := Aside0.mk (Kd.R_below (by (with_reducible repeat (first|apply Kd.R_alloc|apply Kd.R_drewN|apply Kd.R_drew)); exact HO_7.out) hb); have n2_ := Aside0.mk (Kd.R_below (by (with_reducible repeat (first|apply Kd.R_alloc|apply Kd.R_drewN|apply Kd.R_drew)); exact HO_9.out) hb); have n3_ := Aside0.mk (Kd.S_below (by (with_reducible repeat (first|apply Kd.S_alloc|apply Kd.S_drewN|apply Kd.S_drew)); exact HO_11.out) hb); have n4_ := Aside0.mk (Kd.R_below (by (with_reducible repeat (first|apply Kd.R_alloc|apply Kd.R_drewN|apply Kd.R_drew)); exact HO_12.out) hb); have n5_ := Aside0.mk (Kd.R_below (by (with_reducible repeat (first|apply Kd.R_alloc|apply Kd.R_drewN|apply Kd.R_drew)); exact HO_13.out) hb); have n6_ := Aside0.mk (Kd.R_below (by (with_reducible repeat (first|apply Kd.R_alloc|apply Kd.R_drewN|apply Kd.R_drew)); exact HO_15.out) hb); have n7_ := Aside0.mk (Kd.R_below (by (with_reducible repeat (first|apply Kd.R_alloc|apply Kd.R_drewN|apply Kd.R_drew)); exact HO_16.out) hb); have n8_ := Aside0.mk (Kd.R_below (by (with_reducible repeat (first|apply Kd.R_alloc|apply Kd.R_drewN|apply Kd.R_drew)); exact HO545.out) hb); have n9_ := Aside0.mk (Kd.R_lower ho0 (below_size (by repeat (first|(with_reducible first|exact HB.out|apply below_alloc|apply pw_below_drewN|apply below_drew1)|exact HB.out)))); have n10_ := Aside0.mk (below_step (by repeat (first|(with_reducible first|exact HB.out|apply below_alloc|apply pw_below_drewN|apply below_drew1)|exact HB.out)) hb); clear HO_6; clear HO_7; clear HO_9; clear HO_11; clear HO_12; clear HO_13; clear HO_15; clear HO_16; clear HO545; clear HB; have HO_6 := n0_; have HO_7 := n1_; have HO_9 := n2_; have HO_11 := n3_; have HO_12 := n4_; have HO_13 := n5_; have HO_15 := n6_; have HO_16 := n7_; have HO545 := n8_; have HO550 := n9_; have HB := n10_; clear n0_ n1_ n2_ n3_ n4_ n5_ n6_ n7_ n8_ n9_ n10_; (try clear hb); (try clear hb2); (try clear hk); (try clear hi); (try clear ho0); obtain ⟨Ao173, co173, eo173⟩ := Kd.R_slice HO545.out; subst eo173; obtain ⟨Ao174, co174, eo174⟩ := Kd.R_slice HO550.out; subst eo174)|(go_at_call 20; (with_reducible refine (laws_qInts.calls kj115 _ _ t542 _ _ t547 true _ ?side1 ?side2 ?side3 ?side4 A149.out).mono ?_);(case side1 => repeat (first|exact (Kd.R_reads' HO545.out).2.2|(with_reducible refine Kd.C_alloc ?_ _)|(with_reducible refine Kd.C_drewN ?_ _)|(with_reducible refine Kd.C_drew ?_)));(case side2 => exact (Kd.R_reads' HO545.out).2.1);(case side3 => repeat (first|exact (Kd.R_reads' HO550.out).2.2|(with_reducible refine Kd.C_alloc ?_ _)|(with_reducible refine Kd.C_drewN ?_ _)|(with_reducible refine Kd.C_drew ?_)));(case side4 => exact (Kd.R_reads' HO550.out).2.1); rintro e w' ⟨rfl, ⟨nd, rfl⟩⟩; have p552 : 0 ≤ ((ji162) : Int) := of_decide_eq_true (by first|(with_reducible assumption) | assumption); have q552 : (ji162) < (t471.length : Int) := of_decide_eq_true (by first|(with_reducible assumption) | assumption); obtain ⟨ad552, A552_0, c552_0, e552, hx552_0, hl552_0, hi552_0⟩ := at_L2 (Kd.S_reads' HO_11.out).2.2 (ji162) p552 q552; cases e552; obtain ⟨ce552, hce552, hMe552, hcc552⟩ := Kd.S_get HO_11.out [] (ji162) p552 (by first|exact q552|exact of_decide_eq_true (by first|(with_reducible assumption) | assumption)|(have e_ := (Kd.S_reads' HO_11.out).1; omega)); obtain ⟨ve552_0, rfl, ge552_0⟩ := hMe552; have hv552_0 := hcc552 0 _ rfl; rw [Nat.add_zero, show ((Kd.slice 3 (Kd.int .i64))).sz = 1 from rfl, Nat.mul_one] at hv552_0; replace hv552_0 := Option.some.inj (hv552_0.symm.trans hx552_0); rw [hv552_0] at ge552_0; have HL552_0 := Aside0.mk (show Kd.R (Kd.int .i64) 3 _ _ _ _ (rd_L2 t471 (ji162)) from ge552_0); clear hv552_0 ge552_0; clear hcc552 hce552; have HR552_0 := Aside0.mk hi552_0; have HC552_0 := Aside0.mk hl552_0; clear hi552_0 hl552_0; replace p552 := eq_true p552; replace q552 := eq_true q552)|(go_at_call 20; (with_reducible refine (laws_qInts.calls kj115 _ _ t547 _ _ (rd_L2 t471 (ji162)) true _ ?side1 ?side2 ?side3 ?side4 A165.out).mono ?_);(case side1 => repeat (first|exact (Kd.R_reads' HO550.out).2.2|(with_reducible refine Kd.C_alloc ?_ _)|(with_reducible refine Kd.C_drewN ?_ _)|(with_reducible refine Kd.C_drew ?_)));(case side2 => exact (Kd.R_reads' HO550.out).2.1);(case side3 => repeat (first|exact (by repeat (first|(with_reducible exact HR552_0.out)|(with_reducible refine Kd.C_alloc ?_ _)|(with_reducible refine Kd.C_drewN ?_ _)|(with_reducible refine Kd.C_drew ?_)|exact HR552_0.out))|(with_reducible refine Kd.C_alloc ?_ _)|(with_reducible refine Kd.C_drewN ?_ _)|(with_reducible refine Kd.C_drew ?_)));(case side4 => exact HC552_0.out); rintro e w' ⟨rfl, ⟨nd, rfl⟩⟩))
                                            all_goals
                                             go_meet
                                             case rel => exact ⟨_, H', ⟨by have := HJ15.out; have := HJ101.out; have := HJ115.out; first | omega|exact Nat.le_refl _⟩, ⟨by (with_reducible repeat (first|apply Kd.R_alloc|apply Kd.R_drewN|apply Kd.R_drew)); exact HO_6.out⟩, ⟨by (with_reducible repeat (first|apply Kd.R_alloc|apply Kd.R_drewN|apply Kd.R_drew)); exact HO_7.out⟩, ⟨by (with_reducible repeat (first|apply Kd.R_alloc|apply Kd.R_drewN|apply Kd.R_drew)); exact HO_9.out⟩, ⟨by repeat (first|(with_reducible first|exact HB.out|apply below_alloc|apply pw_below_drewN|apply below_drew1)|exact HB.out)⟩⟩
                                          · replace c166 := Bool.eq_false_iff.mpr c166
                                            subst c166
                                            have H1 : (some false) = some r := by rw [if_neg (show ¬ (false = true) by decide)] at H; exact H
                                            clear H
                                            have H := H1
                                            clear H1
                                            exact absurd ((Option.some.inj H).trans HR_.out) (by decide)
                                        · rw [if_neg c164] at H
                                          exact absurd H (by simp)
                                      · rw [if_neg c163] at H
                                        exact absurd H (by simp)
                                    · rw [if_neg c161] at H
                                      have c161b0 : (t546 == (t471.length : Int)) = false := beq_eq_false_iff_ne.mpr c161
                                      have c161b1 : (t546 != (t471.length : Int)) = true := bne_iff_ne.mpr c161
                                      exact absurd ((Option.some.inj H).trans HR_.out) (by decide)
                                  · replace c160 := Bool.eq_false_iff.mpr c160
                                    subst c160
                                    obtain rfl : t471 = [] := List.length_eq_zero_iff.1 (by have h_ := of_decide_eq_false cz_.symm; omega)
                                    clear cz_
                                    have H1 : (laws_FnAreas.j4 kj115 t459 t460 t463 t464 t467) = some r := by rw [if_neg (show ¬ (false = true) by decide)] at H; exact H
                                    clear H
                                    have H := H1
                                    clear H1
                                    have H' := Aside0.mk H
                                    clear H
                                    obtain ⟨Ao191, co191, eo191⟩ := Kd.R_slice HO_12.out
                                    subst eo191
                                    obtain ⟨Ao192, co192, eo192⟩ := Kd.R_slice HO_13.out
                                    subst eo192
                                    go_wp2_with (first|((with_reducible refine gate_callee (f := 34) rfl ?_); refine goesL_ (some 235) rfl rfl Try.func34 (by kernel_rfl) rfl #[.slice Ao191 t474.length co191, .slice Ao192 t475.length co192] rfl (by (try simp only [List.map_toArray, List.map_cons, List.map_nil]); first | done | rfl|(simp only [List.length_drop, List.length_take]; rfl)) ?_; (with_reducible refine (impl_RecoverState.calls kj115 _ _ t474 _ _ t475 t541 t542 t543 _ ?side1 ?side2 ?side3 ?side4 A139.out).mono ?_);(case side1 => repeat (first|exact (Kd.R_reads' HO_12.out).2.2|(with_reducible refine Kd.C_alloc ?_ _)|(with_reducible refine Kd.C_drewN ?_ _)|(with_reducible refine Kd.C_drew ?_)));(case side2 => exact (Kd.R_reads' HO_12.out).2.1);(case side3 => repeat (first|exact (Kd.R_reads' HO_13.out).2.2|(with_reducible refine Kd.C_alloc ?_ _)|(with_reducible refine Kd.C_drewN ?_ _)|(with_reducible refine Kd.C_drew ?_)));(case side4 => exact (Kd.R_reads' HO_13.out).2.1); rintro e w193 ⟨v544, rfl, ho0, hb⟩; refine ⟨_, rfl, ?_⟩; have n0_ := Aside0.mk (Kd.R_below (by (with_reducible repeat (first|apply Kd.R_alloc|apply Kd.R_drewN|apply Kd.R_drew)); exact HO_6.out) hb); have n1_ := Aside0.mk (Kd.R_below (by (with_reducible repeat (first|apply Kd.R_alloc|apply Kd.R_drewN|apply Kd.R_drew)); exact HO_7.out) hb); have n2_ := Aside0.mk (Kd.R_below (by (with_reducible repeat (first|apply Kd.R_alloc|apply Kd.R_drewN|apply Kd.R_drew)); exact HO_9.out) hb); have n3_ := Aside0.mk (Kd.S_below (by (with_reducible repeat (first|apply Kd.S_alloc|apply Kd.S_drewN|apply Kd.S_drew)); exact HO_11.out) hb); have n4_ := Aside0.mk (Kd.R_below (by (with_reducible repeat (first|apply Kd.R_alloc|apply Kd.R_drewN|apply Kd.R_drew)); exact HO_12.out) hb); have n5_ := Aside0.mk (Kd.R_below (by (with_reducible repeat (first|apply Kd.R_alloc|apply Kd.R_drewN|apply Kd.R_drew)); exact HO_13.out) hb); have n6_ := Aside0.mk (Kd.R_below (by (with_reducible repeat (first|apply Kd.R_alloc|apply Kd.R_drewN|apply Kd.R_drew)); exact HO_15.out) hb); have n7_ := Aside0.mk (Kd.R_below (by (with_reducible repeat (first|apply Kd.R_alloc|apply Kd.R_drewN|apply Kd.R_drew)); exact HO_16.out) hb); have n8_ := Aside0.mk (Kd.R_lower ho0 (below_size (by repeat (first|(with_reducible first|exact HB.out|apply below_alloc|apply pw_below_drewN|apply below_drew1)|exact HB.out)))); have n9_ := Aside0.mk (below_step (by repeat (first|(with_reducible first|exact HB.out|apply below_alloc|apply pw_below_drewN|apply below_drew1)|exact HB.out)) hb); clear HO_6; clear HO_7; clear HO_9; clear HO_11; clear HO_12; clear HO_13; clear HO_15; clear HO_16; clear HB; have HO_6 := n0_; have HO_7 := n1_; have HO_9 := n2_; have HO_11 := n3_; have HO_12 := n4_; have HO_13 := n5_; have HO_15 := n6_; have HO_16 := n7_; have HO545 := n8_; have HB := n9_; clear n0_ n1_ n2_ n3_ n4_ n5_ n6_ n7_ n8_ n9_; (try clear hb); (try clear hb2); (try clear hk); (try clear hi); (try clear ho0); obtain ⟨Ao194, co194, eo194⟩ := Kd.R_slice HO_15.out; subst eo194; obtain ⟨Ao195, co195, eo195⟩ := Kd.R_slice HO_16.out; subst eo195)|((with_reducible refine gate_callee (f := 35) rfl ?_); refine goesL_ (some 242) rfl rfl Try.func35 (by kernel_rfl) rfl #[.slice Ao194 t481.length co194, .slice Ao195 t482.length co195] rfl (by (try simp only [List.map_toArray, List.map_cons, List.map_nil]); first | done | rfl|(simp only [List.length_drop, List.length_take]; rfl)) ?_; (with_reducible refine (spec_RecoverState.calls kj115 _ _ t481 _ _ t482 t546 t547 false _ ?side1 ?side2 ?side3 ?side4 A140.out).mono ?_);(case side1 => repeat (first|exact (Kd.R_reads' HO_15.out).2.2|(with_reducible refine Kd.C_alloc ?_ _)|(with_reducible refine Kd.C_drewN ?_ _)|(with_reducible refine Kd.C_drew ?_)));(case side2 => exact (Kd.R_reads' HO_15.out).2.1);(case side3 => repeat (first|exact (Kd.R_reads' HO_16.out).2.2|(with_reducible refine Kd.C_alloc ?_ _)|(with_reducible refine Kd.C_drewN ?_ _)|(with_reducible refine Kd.C_drew ?_)));(case side4 => exact (Kd.R_reads' HO_16.out).2.1); rintro e w196 ⟨v549, rfl, ho0, hb⟩; refine ⟨_, rfl, ?_⟩; have n0_ := Aside0.mk (Kd.R_below (by (with_reducible repeat (first|apply Kd.R_alloc|apply Kd.R_drewN|apply Kd.R_drew)); exact HO_6.out) hb); have n1_ := Aside0.mk (Kd.R_below (by (with_reducible repeat (first|apply Kd.R_alloc|apply Kd.R_drewN|apply Kd.R_drew)); exact HO_7.out) hb); have n2_ := Aside0.mk (Kd.R_below (by (with_reducible repeat (first|apply Kd.R_alloc|apply Kd.R_drewN|apply Kd.R_drew)); exact HO_9.out) hb); have n3_ := Aside0.mk (Kd.S_below (by (with_reducible repeat (first|apply Kd.S_alloc|apply Kd.S_drewN|apply Kd.S_drew)); exact HO_11.out) hb); have n4_ := Aside0.mk (Kd.R_below (by (with_reducible repeat (first|apply Kd.R_alloc|apply Kd.R_drewN|apply Kd.R_drew)); exact HO_12.out) hb); have n5_ := Aside0.mk (Kd.R_below (by (with_reducible repeat (first|apply Kd.R_alloc|apply Kd.R_drewN|apply Kd.R_drew)); exact HO_13.out) hb); have n6_ := Aside0.mk (Kd.R_below (by (with_reducible repeat (first|apply Kd.R_alloc|apply Kd.R_drewN|apply Kd.R_drew)); exact HO_15.out) hb); have n7_ := Aside0.mk (Kd.R_below (by (with_reducible repeat (first|apply Kd.R_alloc|apply Kd.R_drewN|apply Kd.R_drew)); exact HO_16.out) hb); have n8_ := Aside0.mk (Kd.R_below (by (with_reducible repeat (first|apply Kd.R_alloc|apply Kd.R_drewN|apply Kd.R_drew)); exact HO545.out) hb); have n9_ := Aside0.mk (Kd.R_lower ho0 (below_size (by repeat (first|(with_reducible first|exact HB.out|apply below_alloc|apply pw_below_drewN|apply below_drew1)|exact HB.out)))); have n10_ := Aside0.mk (below_step (by repeat (first|(with_reducible first|exact HB.out|apply below_alloc|apply pw_below_drewN|apply below_drew1)|exact HB.out)) hb); clear HO_6; clear HO_7; clear HO_9; clear HO_11; clear HO_12; clear HO_13; clear HO_15; clear HO_16; clear HO545; clear HB; have HO_6 := n0_; have HO_7 := n1_; have HO_9 := n2_; have HO_11 := n3_; have HO_12 := n4_; have HO_13 := n5_; have HO_15 := n6_; have HO_16 := n7_; have HO545 := n8_; have HO550 := n9_; have HB := n10_; clear n0_ n1_ n2_ n3_ n4_ n5_ n6_ n7_ n8_ n9_ n10_; (try clear hb); (try clear hb2); (try clear hk); (try clear hi); (try clear ho0); obtain ⟨Ao197, co197, eo197⟩ := Kd.R_slice HO545.out; subst eo197; obtain ⟨Ao198, co198, eo198⟩ := Kd.R_slice HO550.out; subst eo198)|(go_at_call 20; (with_reducible refine (laws_qInts.calls kj115 _ _ t542 _ _ t547 true _ ?side1 ?side2 ?side3 ?side4 A149.out).mono ?_);(case side1 => repeat (first|exact (Kd.R_reads' HO545.out).2.2|(with_reducible refine Kd.C_alloc ?_ _)|(with_reducible refine Kd.C_drewN ?_ _)|(with_reducible refine Kd.C_drew ?_)));(case side2 => exact (Kd.R_reads' HO545.out).2.1);(case side3 => repeat (first|exact (Kd.R_reads' HO550.out).2.2|(with_reducible refine Kd.C_alloc ?_ _)|(with_reducible refine Kd.C_drewN ?_ _)|(with_reducible refine Kd.C_drew ?_)));(case side4 => exact (Kd.R_reads' HO550.out).2.1); rintro e w' ⟨rfl, ⟨nd, rfl⟩⟩))
                                    all_goals
                                     go_meet
                                     case rel => exact ⟨_, H', ⟨by have := HJ15.out; have := HJ101.out; have := HJ115.out; first | omega|exact Nat.le_refl _⟩, ⟨by (with_reducible repeat (first|apply Kd.R_alloc|apply Kd.R_drewN|apply Kd.R_drew)); exact HO_6.out⟩, ⟨by (with_reducible repeat (first|apply Kd.R_alloc|apply Kd.R_drewN|apply Kd.R_drew)); exact HO_7.out⟩, ⟨by (with_reducible repeat (first|apply Kd.R_alloc|apply Kd.R_drewN|apply Kd.R_drew)); exact HO_9.out⟩, ⟨by repeat (first|(with_reducible first|exact HB.out|apply below_alloc|apply pw_below_drewN|apply below_drew1)|exact HB.out)⟩⟩
                              · replace c150 := Bool.eq_false_iff.mpr c150
                                subst c150
                                have H1 : (some false) = some r := by rw [if_neg (show ¬ (false = true) by decide)] at H; exact H
                                clear H
                                have H := H1
                                clear H1
                                exact absurd ((Option.some.inj H).trans HR_.out) (by decide)
                            · rw [if_neg c148] at H
                              have c148b0 : (t541 == t546) = false := beq_eq_false_iff_ne.mpr c148
                              have c148b1 : (t541 != t546) = true := bne_iff_ne.mpr c148
                              exact absurd ((Option.some.inj H).trans HR_.out) (by decide)
                        · replace c138 := Bool.eq_false_iff.mpr c138
                          subst c138
                          have H1 : (laws_FnAreas.j4 kj115 t459 t460 t463 t464 t467) = some r := by rw [if_neg (show ¬ (false = true) by decide)] at H; exact H
                          clear H
                          have H := H1
                          clear H1
                          have H' := Aside0.mk H
                          clear H
                          go_wp2
                          all_goals
                           go_meet
                           case rel => exact ⟨_, H', ⟨by have := HJ15.out; have := HJ101.out; have := HJ115.out; first | omega|exact Nat.le_refl _⟩, ⟨by (with_reducible repeat (first|apply Kd.R_alloc|apply Kd.R_drewN|apply Kd.R_drew)); exact HO_6.out⟩, ⟨by (with_reducible repeat (first|apply Kd.R_alloc|apply Kd.R_drewN|apply Kd.R_drew)); exact HO_7.out⟩, ⟨by (with_reducible repeat (first|apply Kd.R_alloc|apply Kd.R_drewN|apply Kd.R_drew)); exact HO_9.out⟩, ⟨by repeat (first|(with_reducible first|exact HB.out|apply below_alloc|apply pw_below_drewN|apply below_drew1)|exact HB.out)⟩⟩
                     case rest =>
                       as_aux_lemma =>
                        clear HC137
                        try clear c1
                        try clear c2
                        try clear p2
                        try clear c3
                        try clear c3b0
                        try clear c4
                        try clear c5
                        try clear p5
                        try clear q5
                        try clear hx5
                        try clear c6
                        try clear p6
                        try clear c10
                        try clear c11
                        try clear c12
                        try clear c13
                        try clear c14
                        try clear c15
                        try clear c16
                        try clear c22
                        try clear c23
                        try clear c24
                        try clear c25
                        try clear c26
                        try clear c27
                        try clear c28
                        try clear c29
                        try clear c30
                        try clear c31
                        try clear c32
                        try clear c33
                        try clear c33b0
                        try clear c33b1
                        try clear c33b2
                        try clear c34
                        try clear c35
                        try clear c36
                        try clear c36b0
                        try clear c36b1
                        try clear c36b2
                        try clear c40
                        try clear c42
                        try clear c43
                        try clear c43b0
                        try clear c43b1
                        try clear c43b2
                        try clear c51
                        try clear c52
                        try clear c52b0
                        try clear c52b1
                        try clear c52b2
                        try clear p52
                        try clear q52
                        try clear hx52
                        try clear p54
                        try clear q54
                        try clear hx54
                        try clear c55
                        try clear p55
                        try clear q55
                        try clear hx55
                        try clear c61
                        try clear c61b0
                        try clear c61b1
                        try clear p64
                        try clear c101
                        try clear c103
                        try clear c105
                        try clear c107
                        try clear c117
                        try clear c118
                        try clear c118b0
                        try clear c119
                        try clear c119b0
                        try clear c128
                        try clear c131
                        try clear c132
                        try clear c133
                        try clear c134
                        try clear c134b0
                        try clear c135
                        try clear c135b0
                        try clear c136
                        try clear c136b0
                        try clear c136b1
                        try clear c138
                        try clear c141
                        try clear c141b0
                        try clear c141b1
                        try clear c141b2
                        try clear c148
                        try clear c148b0
                        try clear c148b1
                        try clear c150
                        try clear c151
                        try clear c151b0
                        try clear c151b1
                        try clear c151b2
                        try clear c160
                        try clear c161
                        try clear c161b0
                        try clear c161b1
                        try clear c163
                        try clear c163b0
                        try clear c164
                        try clear c164b0
                        try clear c166
                        try clear hx524_0
                        try clear hx540_0
                        try clear hx552_0
                        try clear p2
                        try clear p5
                        try clear p52
                        try clear p524
                        try clear p54
                        try clear p540
                        try clear p552
                        try clear p6
                        try clear p64
                        try clear q5
                        try clear q52
                        try clear q524
                        try clear q54
                        try clear q540
                        try clear q552
                        obtain ⟨kq, HA, HJ136, HO_6, HO_7, HO_9, HB⟩ := hcut
                        cases kq with
                        | zero => exact absurd HA.out (by simp [laws_FnAreas.j4])
                        | succ kj136 =>
                          have H := HA.out
                          clear HA
                          simp only [laws_FnAreas.j4] at H
                          by_cases c213 : t464 = true
                          · subst c213
                            have H1 : ((impl_ReadArea.f kj136 t463).bind fun bt554 => (if bt554.2.2 = true then (if bt554.1 = t459 then ((laws_qInts.f kj136 bt554.2.1 t460).bind fun t559 => (if t559 = true then (if (t467.length : Int) = 15 then ((impl_IsState.f kj136 t460).bind fun t560 => (some t560)) else (some false)) else (some false))) else (some false)) else (some false))) = some r := by rw [if_pos rfl] at H; exact H
                            clear H
                            have H := H1
                            clear H1
                            replace H := Option.bind_eq_some_iff.mp H
                            obtain ⟨⟨t554, t555, t556⟩, A2140, H⟩ := H
                            try dsimp only at H
                            have A214 := Aside0.mk A2140
                            clear A2140
                            by_cases c215 : t556 = true
                            · subst c215
                              have H1 : (if t554 = t459 then ((laws_qInts.f kj136 t555 t460).bind fun t559 => (if t559 = true then (if (t467.length : Int) = 15 then ((impl_IsState.f kj136 t460).bind fun t560 => (some t560)) else (some false)) else (some false))) else (some false)) = some r := by rw [if_pos rfl] at H; exact H
                              clear H
                              have H := H1
                              clear H1
                              by_cases c216 : t554 = t459
                              · rw [if_pos c216] at H
                                have c216b0 : (t554 == t459) = true := beq_iff_eq.mpr c216
                                have c216b1 : (t554 != t459) = false := bne_eq_false_iff_eq.mpr c216
                                clear c216
                                replace H := Option.bind_eq_some_iff.mp H
                                obtain ⟨t559, A2170, H⟩ := H
                                try dsimp only at H
                                have A217 := Aside0.mk A2170
                                clear A2170
                                by_cases c218 : t559 = true
                                · subst c218
                                  have H1 : (if (t467.length : Int) = 15 then ((impl_IsState.f kj136 t460).bind fun t560 => (some t560)) else (some false)) = some r := by rw [if_pos rfl] at H; exact H
                                  clear H
                                  have H := H1
                                  clear H1
                                  by_cases c219 : (t467.length : Int) = 15
                                  · rw [if_pos c219] at H
                                    have c219b0 : ((t467.length : Int) == 15) = true := beq_iff_eq.mpr c219
                                    have c219b1 : ((t467.length : Int) != 15) = false := bne_eq_false_iff_eq.mpr c219
                                    clear c219
                                    replace H := Option.bind_eq_some_iff.mp H
                                    obtain ⟨t560, A2200, H⟩ := H
                                    try dsimp only at H
                                    have A220 := Aside0.mk A2200
                                    clear A2200
                                    obtain rfl := Option.some.inj H
                                    obtain ⟨Ao221, co221, eo221⟩ := Kd.R_slice HO_7.out
                                    subst eo221
                                    go_wp2_with (first|((with_reducible refine gate_callee (f := 32) rfl ?_); refine goesL_ (some 291) rfl rfl Try.func32 (by kernel_rfl) rfl #[.slice Ao221 t463.length co221] rfl (by (try simp only [List.map_toArray, List.map_cons, List.map_nil]); first | done | rfl|(simp only [List.length_drop, List.length_take]; rfl)) ?_; (with_reducible refine (impl_ReadArea.calls kj136 _ _ t463 t554 t555 true _ ?side1 ?side2 A214.out).mono ?_);(case side1 => repeat (first|exact (Kd.R_reads' HO_7.out).2.2|(with_reducible refine Kd.C_alloc ?_ _)|(with_reducible refine Kd.C_drewN ?_ _)|(with_reducible refine Kd.C_drew ?_)));(case side2 => exact (Kd.R_reads' HO_7.out).2.1); rintro e w222 ⟨v557, rfl, ho0, hb⟩; refine ⟨_, rfl, ?_⟩; have n0_ := Aside0.mk (Kd.R_below (by (with_reducible repeat (first|apply Kd.R_alloc|apply Kd.R_drewN|apply Kd.R_drew)); exact HO_6.out) hb); have n1_ := Aside0.mk (Kd.R_below (by (with_reducible repeat (first|apply Kd.R_alloc|apply Kd.R_drewN|apply Kd.R_drew)); exact HO_7.out) hb); have n2_ := Aside0.mk (Kd.R_below (by (with_reducible repeat (first|apply Kd.R_alloc|apply Kd.R_drewN|apply Kd.R_drew)); exact HO_9.out) hb); have n3_ := Aside0.mk (Kd.R_lower ho0 (below_size (by repeat (first|(with_reducible first|exact HB.out|apply below_alloc|apply pw_below_drewN|apply below_drew1)|exact HB.out)))); have n4_ := Aside0.mk (below_step (by repeat (first|(with_reducible first|exact HB.out|apply below_alloc|apply pw_below_drewN|apply below_drew1)|exact HB.out)) hb); clear HO_6; clear HO_7; clear HO_9; clear HB; have HO_6 := n0_; have HO_7 := n1_; have HO_9 := n2_; have HO558 := n3_; have HB := n4_; clear n0_ n1_ n2_ n3_ n4_; (try clear hb); (try clear hb2); (try clear hk); (try clear hi); (try clear ho0); obtain ⟨Ao223, co223, eo223⟩ := Kd.R_slice HO558.out; subst eo223)|(go_at_call 20; (with_reducible refine (laws_qInts.calls kj136 _ _ t555 _ _ t460 true _ ?side1 ?side2 ?side3 ?side4 A217.out).mono ?_);(case side1 => repeat (first|exact (Kd.R_reads' HO558.out).2.2|(with_reducible refine Kd.C_alloc ?_ _)|(with_reducible refine Kd.C_drewN ?_ _)|(with_reducible refine Kd.C_drew ?_)));(case side2 => exact (Kd.R_reads' HO558.out).2.1);(case side3 => repeat (first|exact (Kd.R_reads' HO_6.out).2.2|(with_reducible refine Kd.C_alloc ?_ _)|(with_reducible refine Kd.C_drewN ?_ _)|(with_reducible refine Kd.C_drew ?_)));(case side4 => exact (Kd.R_reads' HO_6.out).2.1); rintro e w' ⟨rfl, ⟨nd, rfl⟩⟩; obtain ⟨Ao224, co224, eo224⟩ := Kd.R_slice HO_9.out; subst eo224)|(go_at_call 36; (with_reducible refine (impl_IsState.calls kj136 _ _ t460 t560 _ ?side1 ?side2 A220.out).mono ?_);(case side1 => repeat (first|exact (Kd.R_reads' HO_6.out).2.2|(with_reducible refine Kd.C_alloc ?_ _)|(with_reducible refine Kd.C_drewN ?_ _)|(with_reducible refine Kd.C_drew ?_)));(case side2 => exact (Kd.R_reads' HO_6.out).2.1); rintro e w' ⟨rfl, ⟨nd, rfl⟩⟩))
                                    go_ret
                                    exact ⟨by first | rfl|(simp [errW_none, errW_some] <;> rfl)|(simp [*, errW_none, errW_some] <;> rfl), by repeat (first|(with_reducible first|exact HB.out|apply below_alloc|apply pw_below_drewN|apply below_drew1)|exact HB.out)⟩
                                  · rw [if_neg c219] at H
                                    have c219b0 : ((t467.length : Int) == 15) = false := beq_eq_false_iff_ne.mpr c219
                                    have c219b1 : ((t467.length : Int) != 15) = true := bne_iff_ne.mpr c219
                                    exact absurd ((Option.some.inj H).trans HR_.out) (by decide)
                                · replace c218 := Bool.eq_false_iff.mpr c218
                                  subst c218
                                  have H1 : (some false) = some r := by rw [if_neg (show ¬ (false = true) by decide)] at H; exact H
                                  clear H
                                  have H := H1
                                  clear H1
                                  exact absurd ((Option.some.inj H).trans HR_.out) (by decide)
                              · rw [if_neg c216] at H
                                have c216b0 : (t554 == t459) = false := beq_eq_false_iff_ne.mpr c216
                                have c216b1 : (t554 != t459) = true := bne_iff_ne.mpr c216
                                exact absurd ((Option.some.inj H).trans HR_.out) (by decide)
                            · replace c215 := Bool.eq_false_iff.mpr c215
                              subst c215
                              have H1 : (some false) = some r := by rw [if_neg (show ¬ (false = true) by decide)] at H; exact H
                              clear H
                              have H := H1
                              clear H1
                              exact absurd ((Option.some.inj H).trans HR_.out) (by decide)
                          · replace c213 := Bool.eq_false_iff.mpr c213
                            subst c213
                            have H1 : (some true) = some r := by rw [if_neg (show ¬ (false = true) by decide)] at H; exact H
                            clear H
                            have H := H1
                            clear H1
                            obtain rfl := Option.some.inj H
                            go_wp2
                            go_ret
                            exact ⟨by first | rfl|(simp [errW_none, errW_some] <;> rfl)|(simp [*, errW_none, errW_some] <;> rfl), by repeat (first|(with_reducible first|exact HB.out|apply below_alloc|apply pw_below_drewN|apply below_drew1)|exact HB.out)⟩

/-- THE ONE PURE STATEMENT of laws_FnAreas: yours. -/
def laws_FnAreas.Pure : Prop := ∀ (l0 : List Int) (l1 : List Int), l0.length ≤ maxLen → l0.length * 1 ≤ 140737488351232 → (∀ x ∈ l0, (Lit.int .u8 x).wf = true) → l1.length ≤ maxLen → l1.length * 1 ≤ 140737488351232 → (∀ x ∈ l1, (Lit.int .u8 x).wf = true) → ∃ k, laws_FnAreas.f k l0 l1 = some true
theorem laws_FnAreas.walk (P : laws_FnAreas.Pure) (a0 : Option Addr) (len0 cap0 : Nat) (z0 : List Int) (a1 : Option Addr) (len1 cap1 : Nat) (z1 : List Int) (w : World) (w0 : (a0 = none ∧ len0 = 0 ∧ cap0 = 0 ∧ z0 = []) ∨ ∃ x, a0 = some x ∧ len0 ≤ cap0 ∧ cap0 ≤ maxLen ∧ z0.length = cap0 ∧ (∀ i, i < z0.length → w.cell? (x.add i) = some (.int .u8 (z0.getD i 0))) ∧ ∀ n ∈ z0, (Lit.int .u8 n).wf = true) (y0 : len0 * 1 ≤ 140737488351232) (w1 : (a1 = none ∧ len1 = 0 ∧ cap1 = 0 ∧ z1 = []) ∨ ∃ x, a1 = some x ∧ len1 ≤ cap1 ∧ cap1 ≤ maxLen ∧ z1.length = cap1 ∧ (∀ i, i < z1.length → w.cell? (x.add i) = some (.int .u8 (z1.getD i 0))) ∧ ∀ n ∈ z1, (Lit.int .u8 n).wf = true) (y1 : len1 * 1 ≤ 140737488351232) :
    Calls Try.prog 4 #[.slice a0 len0 cap0, .slice a1 len1 cap1] w fun e w' => e = .returned (.bool true) ∧ Below w.heap.size w w' := by
  obtain ⟨l0, rfl, hr0, hm0, hw0, hc0⟩ := ReadsInt.ofRowC w0
  obtain ⟨l1, rfl, hr1, hm1, hw1, hc1⟩ := ReadsInt.ofRowC w1
  obtain ⟨k, h⟩ := P l0 l1 hm0 y0 hw0 hm1 y1 hw1
  refine (laws_FnAreas.calls k _ _ l0 _ _ l1 true w (Kd.C_of_reads (d := (0 : Int)) (h1 := fun _ => rfl) hr0) hc0 (Kd.C_of_reads (d := (0 : Int)) (h1 := fun _ => rfl) hr1) hc1 h rfl).mono ?_
  rintro e w' ⟨rfl, hd⟩
  exact ⟨rfl, hd⟩

end Go.Proofs.Ytlbbkepkincleaa.QFnAreas
