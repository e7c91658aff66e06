/- Written by a program of this session (the kit's printer, with leaf contracts proved by hand put in): what each Go function computes, and that the call computes it. No condition but those that each theorem names. -/
import Derived.Test.YtlbbkepkincleaaQFnRollsx0
import Derived.Test.YtlbbkepkincleaaQFnRollsx4
import Derived.Test.YtlbbkepkincleaaQFnRollsx5
import Derived.Test.YtlbbkepkincleaaQFnRollsx6
import Derived.Test.YtlbbkepkincleaaQFnRollsx7
import Derived.Test.YtlbbkepkincleaaQFnRollsx8
import Derived.Test.YtlbbkepkincleaaQFnRollsx9
import Derived.Test.YtlbbkepkincleaaQFnRollsx10
import Derived.Test.YtlbbkepkincleaaQFnRollsx11
namespace Go.Proofs.Ytlbbkepkincleaa.QFnRolls
open Go.RowKit Go.Proofs.YtlbbkepkincleaaW.PrintWords Go.Proofs.YtlbbkepkincleaaW.PrintLast Go.Proofs.YtlbbkepkincleaaW.PrintMore
attribute [local go_sem] max2_int min2_int max_two min_two max_three min_three max_four min_four   -- for this text's walks alone
set_option linter.unusedVariables false
set_option linter.unusedSimpArgs false

/-! ### laws_FnRolls: function 3 -/
mutual
def laws_FnRolls.j0 : Nat → List (S29) → Int → List (S29) → Bool → List (S29) → List (S29) → List (S29) → Bool → List (S29) → ByteArray → Bool → Int → Bool → ByteArray → ByteArray → Int → Int → Option (Bool)
 | 0, _, _, _, _, _, _, _, _, _, _, _, _, _, _, _, _, _ => none
 | k + 1, x5, x6, x7, x8, x9, x11, x13, x14, x17, x18, x20, x21, x155, x401000, x401001, x401002, x401003 => if x155 = true then (some false) else (if x14 = true then ((impl_FindRoll.f k x13 x401000).bind fun bt432 => ((impl_DropRoll.f k x13 (x11.length : Int)).bind fun bt434 => (if bt432.2 = true then (if bt432.1 = (x11.length : Int) then (if bt434.2 = true then ((laws_qRolls.f k bt434.1 x11).bind fun t438 => (if t438 = true then ((impl_IsCatalogue.f k x13).bind fun t439 => (if t439 = true then (laws_FnRolls.j1 k x5 x6 x7 x8 x9 x17 x18 x20 x21) else (some false))) else (some false))) else (some false)) else (some false)) else (some false)))) else (laws_FnRolls.j1 k x5 x6 x7 x8 x9 x17 x18 x20 x21))
def laws_FnRolls.j1 : Nat → List (S29) → Int → List (S29) → Bool → List (S29) → List (S29) → ByteArray → Bool → Int → Option (Bool)
 | 0, _, _, _, _, _, _, _, _, _ => none
 | k + 1, x5, x6, x7, x8, x9, x17, x18, x20, x21 => if x20 = true then (if 0 ≤ x21 then (if x21 < (x17.length : Int) then (laws_FnRolls.j2 k x5 x6 x7 x8 x9 (((rd_T29 x17 x21).f0).toList != x18.toList)) else (none)) else (none)) else (laws_FnRolls.j2 k x5 x6 x7 x8 x9 false)
def laws_FnRolls.j2 : Nat → List (S29) → Int → List (S29) → Bool → List (S29) → Bool → Option (Bool)
 | 0, _, _, _, _, _, _ => none
 | k + 1, x5, x6, x7, x8, x9, x203 => if x203 = true then (some false) else (if x8 = true then (if (x9.length : Int) = (wrap64 ((x5.length : Int) - 1)) then ((impl_IsCatalogue.f k x7).bind fun t441 => (laws_FnRolls.j3 k x5 x6 x7 x9 (!t441))) else (laws_FnRolls.j3 k x5 x6 x7 x9 true)) else (some true))
def laws_FnRolls.j3 : Nat → List (S29) → Int → List (S29) → List (S29) → Bool → Option (Bool)
 | 0, _, _, _, _, _ => none
 | k + 1, x5, x6, x7, x9, x216 => if x216 = true then (some false) else (laws_FnRolls.l0 k x5 x6 x7 x9 x5 (x5.length : Int) 0)
def laws_FnRolls.l0 : Nat → List (S29) → Int → List (S29) → List (S29) → List (S29) → Int → Int → Option (Bool)
 | 0, _, _, _, _, _, _, _ => none
 | k + 1, x5, x6, x7, x9, x217, x218, x219 => if x219 < x218 then (if 0 ≤ x219 then (if x219 < (x217.length : Int) then (if x219 = x6 then (laws_FnRolls.l0 k x5 x6 x7 x9 x217 x218 (wrap64 (x219 + 1))) else ((impl_FindRoll.f k x7 ((rd_T29 x217 x219).f0)).bind fun bt444 => ((spec_FindRoll.f k x9 ((rd_T29 x217 x219).f0)).bind fun bt446 => (if bt444.2 = true then (if bt446.2 = true then (if bt444.1 = bt446.1 then (if 0 ≤ bt446.1 then (if bt446.1 < (x9.length : Int) then (if ((rd_T29 x9 bt446.1).f1).toList = ((rd_T29 x217 x219).f1).toList then (laws_FnRolls.j5 k x5 x6 x7 x9 bt446.1 x217 x218 x219 (((rd_T29 x9 bt446.1).f2) != ((rd_T29 x217 x219).f2)) ((rd_T29 x217 x219).f0) ((rd_T29 x217 x219).f1) ((rd_T29 x217 x219).f2) ((rd_T29 x217 x219).f3)) else (laws_FnRolls.j5 k x5 x6 x7 x9 bt446.1 x217 x218 x219 true ((rd_T29 x217 x219).f0) ((rd_T29 x217 x219).f1) ((rd_T29 x217 x219).f2) ((rd_T29 x217 x219).f3))) else (none)) else (none)) else (laws_FnRolls.j5 k x5 x6 x7 x9 bt446.1 x217 x218 x219 true ((rd_T29 x217 x219).f0) ((rd_T29 x217 x219).f1) ((rd_T29 x217 x219).f2) ((rd_T29 x217 x219).f3))) else (laws_FnRolls.j5 k x5 x6 x7 x9 bt446.1 x217 x218 x219 true ((rd_T29 x217 x219).f0) ((rd_T29 x217 x219).f1) ((rd_T29 x217 x219).f2) ((rd_T29 x217 x219).f3))) else (laws_FnRolls.j5 k x5 x6 x7 x9 bt446.1 x217 x218 x219 true ((rd_T29 x217 x219).f0) ((rd_T29 x217 x219).f1) ((rd_T29 x217 x219).f2) ((rd_T29 x217 x219).f3)))))) else (none)) else (none)) else (some true)
def laws_FnRolls.j5 : Nat → List (S29) → Int → List (S29) → List (S29) → Int → List (S29) → Int → Int → Bool → ByteArray → ByteArray → Int → Int → Option (Bool)
 | 0, _, _, _, _, _, _, _, _, _, _, _, _, _ => none
 | k + 1, x5, x6, x7, x9, x37, x217, x218, x219, x271, x444000, x444001, x444002, x444003 => if x271 = true then (some false) else (if x444003 = x6 then (if 0 ≤ x6 then (if x6 < (x5.length : Int) then (if 0 ≤ x37 then (if x37 < (x9.length : Int) then (if ((decide (((rd_T29 x9 x37).f3) < 0)) != (decide (((rd_T29 x5 x6).f3) < 0))) = true then (some false) else (if ((rd_T29 x9 x37).f3) ≥ 0 then (if 0 ≤ ((rd_T29 x9 x37).f3) then (if ((rd_T29 x9 x37).f3) < (x9.length : Int) then (if 0 ≤ ((rd_T29 x5 x6).f3) then (if ((rd_T29 x5 x6).f3) < (x5.length : Int) then (if ((rd_T29 x9 ((rd_T29 x9 x37).f3)).f0).toList = ((rd_T29 x5 ((rd_T29 x5 x6).f3)).f0).toList then (laws_FnRolls.l0 k x5 x6 x7 x9 x217 x218 (wrap64 (x219 + 1))) else (some false)) else (none)) else (none)) else (none)) else (none)) else (laws_FnRolls.l0 k x5 x6 x7 x9 x217 x218 (wrap64 (x219 + 1))))) else (none)) else (none)) else (none)) else (none)) else (if 0 ≤ x37 then (if x37 < (x9.length : Int) then (if ((decide (((rd_T29 x9 x37).f3) < 0)) != (decide (x444003 < 0))) = true then (some false) else (if ((rd_T29 x9 x37).f3) ≥ 0 then (if 0 ≤ ((rd_T29 x9 x37).f3) then (if ((rd_T29 x9 x37).f3) < (x9.length : Int) then (if 0 ≤ x444003 then (if x444003 < (x5.length : Int) then (if ((rd_T29 x9 ((rd_T29 x9 x37).f3)).f0).toList = ((rd_T29 x5 x444003).f0).toList then (laws_FnRolls.l0 k x5 x6 x7 x9 x217 x218 (wrap64 (x219 + 1))) else (some false)) else (none)) else (none)) else (none)) else (none)) else (laws_FnRolls.l0 k x5 x6 x7 x9 x217 x218 (wrap64 (x219 + 1))))) else (none)) else (none)))
end
def laws_FnRolls.f (k : Nat) (l0 : List Int) (l1 : List Int) : Option (Bool) := if (wrap64 ((l0.length : Int) + (l1.length : Int))) > 1048576 then (some true) else ((spec_DrawDropRoll.f k l0).bind fun bt381 => ((impl_DropRoll.f k bt381.1 bt381.2).bind fun bt385 => ((spec_DropRoll.f k bt381.1 bt381.2).bind fun bt389 => ((spec_DrawAddRoll.f k l1).bind fun bt393 => ((impl_AddRoll.f k bt393.1 bt393.2.1 bt393.2.2.1 bt393.2.2.2.1 bt393.2.2.2.2).bind fun bt401 => ((spec_AddRoll.f k bt393.1 bt393.2.1 bt393.2.2.1 bt393.2.2.2.1 bt393.2.2.2.2).bind fun bt405 => ((spec_DrawFindRoll.f k l1).bind fun bt409 => ((impl_FindRoll.f k bt409.1 bt409.2).bind fun bt413 => ((spec_FindRoll.f k bt409.1 bt409.2).bind fun bt415 => ((spec_DrawCopiesOf.f k l1).bind fun bt417 => ((impl_CopiesOf.f k bt417.1 bt417.2).bind fun bt421 => ((spec_CopiesOf.f k bt417.1 bt417.2).bind fun bt425 => (if (bt385.2 != bt389.2) = true then (laws_FnRolls.j0 k bt381.1 bt381.2 bt385.1 bt385.2 bt389.1 bt393.1 bt401.1 bt401.2 bt409.1 bt409.2 bt413.2 bt415.1 true bt393.2.1 bt393.2.2.1 bt393.2.2.2.1 bt393.2.2.2.2) else ((laws_qRolls.f k bt385.1 bt389.1).bind fun t429 => (if t429 = true then (if (bt401.2 != bt405.2) = true then (laws_FnRolls.j0 k bt381.1 bt381.2 bt385.1 bt385.2 bt389.1 bt393.1 bt401.1 bt401.2 bt409.1 bt409.2 bt413.2 bt415.1 true bt393.2.1 bt393.2.2.1 bt393.2.2.2.1 bt393.2.2.2.2) else ((laws_qRolls.f k bt401.1 bt405.1).bind fun t430 => (if t430 = true then (if (bt413.2 != bt415.2) = true then (laws_FnRolls.j0 k bt381.1 bt381.2 bt385.1 bt385.2 bt389.1 bt393.1 bt401.1 bt401.2 bt409.1 bt409.2 bt413.2 bt415.1 true bt393.2.1 bt393.2.2.1 bt393.2.2.2.1 bt393.2.2.2.2) else (if bt413.1 = bt415.1 then (if (bt421.2 != bt425.2) = true then (laws_FnRolls.j0 k bt381.1 bt381.2 bt385.1 bt385.2 bt389.1 bt393.1 bt401.1 bt401.2 bt409.1 bt409.2 bt413.2 bt415.1 true bt393.2.1 bt393.2.2.1 bt393.2.2.2.1 bt393.2.2.2.2) else ((laws_qInts.f k bt421.1 bt425.1).bind fun t431 => (laws_FnRolls.j0 k bt381.1 bt381.2 bt385.1 bt385.2 bt389.1 bt393.1 bt401.1 bt401.2 bt409.1 bt409.2 bt413.2 bt415.1 (!t431) bt393.2.1 bt393.2.2.1 bt393.2.2.2.1 bt393.2.2.2.2))) else (laws_FnRolls.j0 k bt381.1 bt381.2 bt385.1 bt385.2 bt389.1 bt393.1 bt401.1 bt401.2 bt409.1 bt409.2 bt413.2 bt415.1 true bt393.2.1 bt393.2.2.1 bt393.2.2.2.1 bt393.2.2.2.2))) else (laws_FnRolls.j0 k bt381.1 bt381.2 bt385.1 bt385.2 bt389.1 bt393.1 bt401.1 bt401.2 bt409.1 bt409.2 bt413.2 bt415.1 true bt393.2.1 bt393.2.2.1 bt393.2.2.2.1 bt393.2.2.2.2)))) else (laws_FnRolls.j0 k bt381.1 bt381.2 bt385.1 bt385.2 bt389.1 bt393.1 bt401.1 bt401.2 bt409.1 bt409.2 bt413.2 bt415.1 true bt393.2.1 bt393.2.2.1 bt393.2.2.2.1 bt393.2.2.2.2))))))))))))))))
theorem laws_FnRolls.mono_l : ∀ k, (∀ y0 y1 y2 y3 y4 y5 y6 y7 y8 y9 y10 y11 y12 y13 y14 y15 y16, LeO (laws_FnRolls.j0 k y0 y1 y2 y3 y4 y5 y6 y7 y8 y9 y10 y11 y12 y13 y14 y15 y16) (laws_FnRolls.j0 (k + 1) y0 y1 y2 y3 y4 y5 y6 y7 y8 y9 y10 y11 y12 y13 y14 y15 y16)) ∧ (∀ y0 y1 y2 y3 y4 y5 y6 y7 y8, LeO (laws_FnRolls.j1 k y0 y1 y2 y3 y4 y5 y6 y7 y8) (laws_FnRolls.j1 (k + 1) y0 y1 y2 y3 y4 y5 y6 y7 y8)) ∧ (∀ y0 y1 y2 y3 y4 y5, LeO (laws_FnRolls.j2 k y0 y1 y2 y3 y4 y5) (laws_FnRolls.j2 (k + 1) y0 y1 y2 y3 y4 y5)) ∧ (∀ y0 y1 y2 y3 y4, LeO (laws_FnRolls.j3 k y0 y1 y2 y3 y4) (laws_FnRolls.j3 (k + 1) y0 y1 y2 y3 y4)) ∧ (∀ y0 y1 y2 y3 y4 y5 y6, LeO (laws_FnRolls.l0 k y0 y1 y2 y3 y4 y5 y6) (laws_FnRolls.l0 (k + 1) y0 y1 y2 y3 y4 y5 y6)) ∧ (∀ y0 y1 y2 y3 y4 y5 y6 y7 y8 y9 y10 y11 y12, LeO (laws_FnRolls.j5 k y0 y1 y2 y3 y4 y5 y6 y7 y8 y9 y10 y11 y12) (laws_FnRolls.j5 (k + 1) y0 y1 y2 y3 y4 y5 y6 y7 y8 y9 y10 y11 y12))
 | 0 => ⟨fun _ _ _ _ _ _ _ _ _ _ _ _ _ _ _ _ _ r h => by simp [laws_FnRolls.j0] at h, fun _ _ _ _ _ _ _ _ _ r h => by simp [laws_FnRolls.j1] at h, fun _ _ _ _ _ _ r h => by simp [laws_FnRolls.j2] at h, fun _ _ _ _ _ r h => by simp [laws_FnRolls.j3] at h, fun _ _ _ _ _ _ _ r h => by simp [laws_FnRolls.l0] at h, fun _ _ _ _ _ _ _ _ _ _ _ _ _ r h => by simp [laws_FnRolls.j5] at h⟩
 | k + 1 => by
  obtain ⟨ih0, ih1, ih2, ih3, ih4, ih5⟩ := laws_FnRolls.mono_l k
  refine ⟨?_, ?_, ?_, ?_, ?_, ?_⟩
  ·intro y0 y1 y2 y3 y4 y5 y6 y7 y8 y9 y10 y11 y12 y13 y14 y15 y16
   unfold laws_FnRolls.j0
   repeat' first
   |(with_reducible exact ih0 _ _ _ _ _ _ _ _ _ _ _ _ _ _ _ _ _)
   |(with_reducible exact ih1 _ _ _ _ _ _ _ _ _)
   |(with_reducible exact ih2 _ _ _ _ _ _)
   |(with_reducible exact ih3 _ _ _ _ _)
   |(with_reducible exact ih4 _ _ _ _ _ _ _)
   |(with_reducible exact ih5 _ _ _ _ _ _ _ _ _ _ _ _ _)
   |(with_reducible exact impl_AddRoll.mono _ _ _ _ _ _)
   |(with_reducible exact impl_CopiesOf.mono _ _ _)
   |(with_reducible exact impl_DropRoll.mono _ _ _)
   |(with_reducible exact impl_FindRoll.mono _ _ _)
   |(with_reducible exact impl_IsCatalogue.mono _ _)
   |(with_reducible exact laws_qInts.mono _ _ _)
   |(with_reducible exact laws_qRolls.mono _ _ _)
   |(with_reducible exact spec_AddRoll.mono _ _ _ _ _ _)
   |(with_reducible exact spec_CopiesOf.mono _ _ _)
   |(with_reducible exact spec_DrawAddRoll.mono _ _)
   |(with_reducible exact spec_DrawCopiesOf.mono _ _)
   |(with_reducible exact spec_DrawDropRoll.mono _ _)
   |(with_reducible exact spec_DrawFindRoll.mono _ _)
   |(with_reducible exact spec_DropRoll.mono _ _ _)
   |(with_reducible exact spec_FindRoll.mono _ _ _)
   |(with_reducible exact LeO.refl _)
   |(with_reducible exact LeO.none _)
   |(with_reducible refine LeO.ite ?_ ?_)
   |(with_reducible refine LeO.bind ?_ (fun _ => ?_))
   |exact ih0 _ _ _ _ _ _ _ _ _ _ _ _ _ _ _ _ _
   |exact ih1 _ _ _ _ _ _ _ _ _
   |exact ih2 _ _ _ _ _ _
   |exact ih3 _ _ _ _ _
   |exact ih4 _ _ _ _ _ _ _
   |exact ih5 _ _ _ _ _ _ _ _ _ _ _ _ _
   |exact impl_AddRoll.mono _ _ _ _ _ _
   |exact impl_CopiesOf.mono _ _ _
   |exact impl_DropRoll.mono _ _ _
   |exact impl_FindRoll.mono _ _ _
   |exact impl_IsCatalogue.mono _ _
   |exact laws_qInts.mono _ _ _
   |exact laws_qRolls.mono _ _ _
   |exact spec_AddRoll.mono _ _ _ _ _ _
   |exact spec_CopiesOf.mono _ _ _
   |exact spec_DrawAddRoll.mono _ _
   |exact spec_DrawCopiesOf.mono _ _
   |exact spec_DrawDropRoll.mono _ _
   |exact spec_DrawFindRoll.mono _ _
   |exact spec_DropRoll.mono _ _ _
   |exact spec_FindRoll.mono _ _ _
   |exact LeO.none _
    | refine LeO.ite ?_ ?_
    | refine LeO.bind ?_ (fun _ => ?_)
  ·intro y0 y1 y2 y3 y4 y5 y6 y7 y8
   unfold laws_FnRolls.j1
   repeat' first
   |(with_reducible exact ih0 _ _ _ _ _ _ _ _ _ _ _ _ _ _ _ _ _)
   |(with_reducible exact ih1 _ _ _ _ _ _ _ _ _)
   |(with_reducible exact ih2 _ _ _ _ _ _)
   |(with_reducible exact ih3 _ _ _ _ _)
   |(with_reducible exact ih4 _ _ _ _ _ _ _)
   |(with_reducible exact ih5 _ _ _ _ _ _ _ _ _ _ _ _ _)
   |(with_reducible exact impl_AddRoll.mono _ _ _ _ _ _)
   |(with_reducible exact impl_CopiesOf.mono _ _ _)
   |(with_reducible exact impl_DropRoll.mono _ _ _)
   |(with_reducible exact impl_FindRoll.mono _ _ _)
   |(with_reducible exact impl_IsCatalogue.mono _ _)
   |(with_reducible exact laws_qInts.mono _ _ _)
   |(with_reducible exact laws_qRolls.mono _ _ _)
   |(with_reducible exact spec_AddRoll.mono _ _ _ _ _ _)
   |(with_reducible exact spec_CopiesOf.mono _ _ _)
   |(with_reducible exact spec_DrawAddRoll.mono _ _)
   |(with_reducible exact spec_DrawCopiesOf.mono _ _)
   |(with_reducible exact spec_DrawDropRoll.mono _ _)
   |(with_reducible exact spec_DrawFindRoll.mono _ _)
   |(with_reducible exact spec_DropRoll.mono _ _ _)
   |(with_reducible exact spec_FindRoll.mono _ _ _)
   |(with_reducible exact LeO.refl _)
   |(with_reducible exact LeO.none _)
   |(with_reducible refine LeO.ite ?_ ?_)
   |(with_reducible refine LeO.bind ?_ (fun _ => ?_))
   |exact ih0 _ _ _ _ _ _ _ _ _ _ _ _ _ _ _ _ _
   |exact ih1 _ _ _ _ _ _ _ _ _
   |exact ih2 _ _ _ _ _ _
   |exact ih3 _ _ _ _ _
   |exact ih4 _ _ _ _ _ _ _
   |exact ih5 _ _ _ _ _ _ _ _ _ _ _ _ _
   |exact impl_AddRoll.mono _ _ _ _ _ _
   |exact impl_CopiesOf.mono _ _ _
   |exact impl_DropRoll.mono _ _ _
   |exact impl_FindRoll.mono _ _ _
   |exact impl_IsCatalogue.mono _ _
   |exact laws_qInts.mono _ _ _
   |exact laws_qRolls.mono _ _ _
   |exact spec_AddRoll.mono _ _ _ _ _ _
   |exact spec_CopiesOf.mono _ _ _
   |exact spec_DrawAddRoll.mono _ _
   |exact spec_DrawCopiesOf.mono _ _
   |exact spec_DrawDropRoll.mono _ _
   |exact spec_DrawFindRoll.mono _ _
   |exact spec_DropRoll.mono _ _ _
   |exact spec_FindRoll.mono _ _ _
   |exact LeO.none _
    | refine LeO.ite ?_ ?_
    | refine LeO.bind ?_ (fun _ => ?_)
  ·intro y0 y1 y2 y3 y4 y5
   unfold laws_FnRolls.j2
   repeat' first
   |(with_reducible exact ih0 _ _ _ _ _ _ _ _ _ _ _ _ _ _ _ _ _)
   |(with_reducible exact ih1 _ _ _ _ _ _ _ _ _)
   |(with_reducible exact ih2 _ _ _ _ _ _)
   |(with_reducible exact ih3 _ _ _ _ _)
   |(with_reducible exact ih4 _ _ _ _ _ _ _)
   |(with_reducible exact ih5 _ _ _ _ _ _ _ _ _ _ _ _ _)
   |(with_reducible exact impl_AddRoll.mono _ _ _ _ _ _)
   |(with_reducible exact impl_CopiesOf.mono _ _ _)
   |(with_reducible exact impl_DropRoll.mono _ _ _)
   |(with_reducible exact impl_FindRoll.mono _ _ _)
   |(with_reducible exact impl_IsCatalogue.mono _ _)
   |(with_reducible exact laws_qInts.mono _ _ _)
   |(with_reducible exact laws_qRolls.mono _ _ _)
   |(with_reducible exact spec_AddRoll.mono _ _ _ _ _ _)
   |(with_reducible exact spec_CopiesOf.mono _ _ _)
   |(with_reducible exact spec_DrawAddRoll.mono _ _)
   |(with_reducible exact spec_DrawCopiesOf.mono _ _)
   |(with_reducible exact spec_DrawDropRoll.mono _ _)
   |(with_reducible exact spec_DrawFindRoll.mono _ _)
   |(with_reducible exact spec_DropRoll.mono _ _ _)
   |(with_reducible exact spec_FindRoll.mono _ _ _)
   |(with_reducible exact LeO.refl _)
   |(with_reducible exact LeO.none _)
   |(with_reducible refine LeO.ite ?_ ?_)
   |(with_reducible refine LeO.bind ?_ (fun _ => ?_))
   |exact ih0 _ _ _ _ _ _ _ _ _ _ _ _ _ _ _ _ _
   |exact ih1 _ _ _ _ _ _ _ _ _
   |exact ih2 _ _ _ _ _ _
   |exact ih3 _ _ _ _ _
   |exact ih4 _ _ _ _ _ _ _
   |exact ih5 _ _ _ _ _ _ _ _ _ _ _ _ _
   |exact impl_AddRoll.mono _ _ _ _ _ _
   |exact impl_CopiesOf.mono _ _ _
   |exact impl_DropRoll.mono _ _ _
   |exact impl_FindRoll.mono _ _ _
   |exact impl_IsCatalogue.mono _ _
   |exact laws_qInts.mono _ _ _
   |exact laws_qRolls.mono _ _ _
   |exact spec_AddRoll.mono _ _ _ _ _ _
   |exact spec_CopiesOf.mono _ _ _
   |exact spec_DrawAddRoll.mono _ _
   |exact spec_DrawCopiesOf.mono _ _
   |exact spec_DrawDropRoll.mono _ _
   |exact spec_DrawFindRoll.mono _ _
   |exact spec_DropRoll.mono _ _ _
   |exact spec_FindRoll.mono _ _ _
   |exact LeO.none _
    | refine LeO.ite ?_ ?_
    | refine LeO.bind ?_ (fun _ => ?_)
  ·intro y0 y1 y2 y3 y4
   unfold laws_FnRolls.j3
   repeat' first
   |(with_reducible exact ih0 _ _ _ _ _ _ _ _ _ _ _ _ _ _ _ _ _)
   |(with_reducible exact ih1 _ _ _ _ _ _ _ _ _)
   |(with_reducible exact ih2 _ _ _ _ _ _)
   |(with_reducible exact ih3 _ _ _ _ _)
   |(with_reducible exact ih4 _ _ _ _ _ _ _)
   |(with_reducible exact ih5 _ _ _ _ _ _ _ _ _ _ _ _ _)
   |(with_reducible exact impl_AddRoll.mono _ _ _ _ _ _)
   |(with_reducible exact impl_CopiesOf.mono _ _ _)
   |(with_reducible exact impl_DropRoll.mono _ _ _)
   |(with_reducible exact impl_FindRoll.mono _ _ _)
   |(with_reducible exact impl_IsCatalogue.mono _ _)
   |(with_reducible exact laws_qInts.mono _ _ _)
   |(with_reducible exact laws_qRolls.mono _ _ _)
   |(with_reducible exact spec_AddRoll.mono _ _ _ _ _ _)
   |(with_reducible exact spec_CopiesOf.mono _ _ _)
   |(with_reducible exact spec_DrawAddRoll.mono _ _)
   |(with_reducible exact spec_DrawCopiesOf.mono _ _)
   |(with_reducible exact spec_DrawDropRoll.mono _ _)
   |(with_reducible exact spec_DrawFindRoll.mono _ _)
   |(with_reducible exact spec_DropRoll.mono _ _ _)
   |(with_reducible exact spec_FindRoll.mono _ _ _)
   |(with_reducible exact LeO.refl _)
   |(with_reducible exact LeO.none _)
   |(with_reducible refine LeO.ite ?_ ?_)
   |(with_reducible refine LeO.bind ?_ (fun _ => ?_))
   |exact ih0 _ _ _ _ _ _ _ _ _ _ _ _ _ _ _ _ _
   |exact ih1 _ _ _ _ _ _ _ _ _
   |exact ih2 _ _ _ _ _ _
   |exact ih3 _ _ _ _ _
   |exact ih4 _ _ _ _ _ _ _
   |exact ih5 _ _ _ _ _ _ _ _ _ _ _ _ _
   |exact impl_AddRoll.mono _ _ _ _ _ _
   |exact impl_CopiesOf.mono _ _ _
   |exact impl_DropRoll.mono _ _ _
   |exact impl_FindRoll.mono _ _ _
   |exact impl_IsCatalogue.mono _ _
   |exact laws_qInts.mono _ _ _
   |exact laws_qRolls.mono _ _ _
   |exact spec_AddRoll.mono _ _ _ _ _ _
   |exact spec_CopiesOf.mono _ _ _
   |exact spec_DrawAddRoll.mono _ _
   |exact spec_DrawCopiesOf.mono _ _
   |exact spec_DrawDropRoll.mono _ _
   |exact spec_DrawFindRoll.mono _ _
   |exact spec_DropRoll.mono _ _ _
   |exact spec_FindRoll.mono _ _ _
   |exact LeO.none _
    | refine LeO.ite ?_ ?_
    | refine LeO.bind ?_ (fun _ => ?_)
  ·intro y0 y1 y2 y3 y4 y5 y6
   unfold laws_FnRolls.l0
   repeat' first
   |(with_reducible exact ih0 _ _ _ _ _ _ _ _ _ _ _ _ _ _ _ _ _)
   |(with_reducible exact ih1 _ _ _ _ _ _ _ _ _)
   |(with_reducible exact ih2 _ _ _ _ _ _)
   |(with_reducible exact ih3 _ _ _ _ _)
   |(with_reducible exact ih4 _ _ _ _ _ _ _)
   |(with_reducible exact ih5 _ _ _ _ _ _ _ _ _ _ _ _ _)
   |(with_reducible exact impl_AddRoll.mono _ _ _ _ _ _)
   |(with_reducible exact impl_CopiesOf.mono _ _ _)
   |(with_reducible exact impl_DropRoll.mono _ _ _)
   |(with_reducible exact impl_FindRoll.mono _ _ _)
   |(with_reducible exact impl_IsCatalogue.mono _ _)
   |(with_reducible exact laws_qInts.mono _ _ _)
   |(with_reducible exact laws_qRolls.mono _ _ _)
   |(with_reducible exact spec_AddRoll.mono _ _ _ _ _ _)
   |(with_reducible exact spec_CopiesOf.mono _ _ _)
   |(with_reducible exact spec_DrawAddRoll.mono _ _)
   |(with_reducible exact spec_DrawCopiesOf.mono _ _)
   |(with_reducible exact spec_DrawDropRoll.mono _ _)
   |(with_reducible exact spec_DrawFindRoll.mono _ _)
   |(with_reducible exact spec_DropRoll.mono _ _ _)
   |(with_reducible exact spec_FindRoll.mono _ _ _)
   |(with_reducible exact LeO.refl _)
   |(with_reducible exact LeO.none _)
   |(with_reducible refine LeO.ite ?_ ?_)
   |(with_reducible refine LeO.bind ?_ (fun _ => ?_))
   |exact ih0 _ _ _ _ _ _ _ _ _ _ _ _ _ _ _ _ _
   |exact ih1 _ _ _ _ _ _ _ _ _
   |exact ih2 _ _ _ _ _ _
   |exact ih3 _ _ _ _ _
   |exact ih4 _ _ _ _ _ _ _
   |exact ih5 _ _ _ _ _ _ _ _ _ _ _ _ _
   |exact impl_AddRoll.mono _ _ _ _ _ _
   |exact impl_CopiesOf.mono _ _ _
   |exact impl_DropRoll.mono _ _ _
   |exact impl_FindRoll.mono _ _ _
   |exact impl_IsCatalogue.mono _ _
   |exact laws_qInts.mono _ _ _
   |exact laws_qRolls.mono _ _ _
   |exact spec_AddRoll.mono _ _ _ _ _ _
   |exact spec_CopiesOf.mono _ _ _
   |exact spec_DrawAddRoll.mono _ _
   |exact spec_DrawCopiesOf.mono _ _
   |exact spec_DrawDropRoll.mono _ _
   |exact spec_DrawFindRoll.mono _ _
   |exact spec_DropRoll.mono _ _ _
   |exact spec_FindRoll.mono _ _ _
   |exact LeO.none _
    | refine LeO.ite ?_ ?_
    | refine LeO.bind ?_ (fun _ => ?_)
  ·intro y0 y1 y2 y3 y4 y5 y6 y7 y8 y9 y10 y11 y12
   unfold laws_FnRolls.j5
   repeat' first
   |(with_reducible exact ih0 _ _ _ _ _ _ _ _ _ _ _ _ _ _ _ _ _)
   |(with_reducible exact ih1 _ _ _ _ _ _ _ _ _)
   |(with_reducible exact ih2 _ _ _ _ _ _)
   |(with_reducible exact ih3 _ _ _ _ _)
   |(with_reducible exact ih4 _ _ _ _ _ _ _)
   |(with_reducible exact ih5 _ _ _ _ _ _ _ _ _ _ _ _ _)
   |(with_reducible exact impl_AddRoll.mono _ _ _ _ _ _)
   |(with_reducible exact impl_CopiesOf.mono _ _ _)
   |(with_reducible exact impl_DropRoll.mono _ _ _)
   |(with_reducible exact impl_FindRoll.mono _ _ _)
   |(with_reducible exact impl_IsCatalogue.mono _ _)
   |(with_reducible exact laws_qInts.mono _ _ _)
   |(with_reducible exact laws_qRolls.mono _ _ _)
   |(with_reducible exact spec_AddRoll.mono _ _ _ _ _ _)
   |(with_reducible exact spec_CopiesOf.mono _ _ _)
   |(with_reducible exact spec_DrawAddRoll.mono _ _)
   |(with_reducible exact spec_DrawCopiesOf.mono _ _)
   |(with_reducible exact spec_DrawDropRoll.mono _ _)
   |(with_reducible exact spec_DrawFindRoll.mono _ _)
   |(with_reducible exact spec_DropRoll.mono _ _ _)
   |(with_reducible exact spec_FindRoll.mono _ _ _)
   |(with_reducible exact LeO.refl _)
   |(with_reducible exact LeO.none _)
   |(with_reducible refine LeO.ite ?_ ?_)
   |(with_reducible refine LeO.bind ?_ (fun _ => ?_))
   |exact ih0 _ _ _ _ _ _ _ _ _ _ _ _ _ _ _ _ _
   |exact ih1 _ _ _ _ _ _ _ _ _
   |exact ih2 _ _ _ _ _ _
   |exact ih3 _ _ _ _ _
   |exact ih4 _ _ _ _ _ _ _
   |exact ih5 _ _ _ _ _ _ _ _ _ _ _ _ _
   |exact impl_AddRoll.mono _ _ _ _ _ _
   |exact impl_CopiesOf.mono _ _ _
   |exact impl_DropRoll.mono _ _ _
   |exact impl_FindRoll.mono _ _ _
   |exact impl_IsCatalogue.mono _ _
   |exact laws_qInts.mono _ _ _
   |exact laws_qRolls.mono _ _ _
   |exact spec_AddRoll.mono _ _ _ _ _ _
   |exact spec_CopiesOf.mono _ _ _
   |exact spec_DrawAddRoll.mono _ _
   |exact spec_DrawCopiesOf.mono _ _
   |exact spec_DrawDropRoll.mono _ _
   |exact spec_DrawFindRoll.mono _ _
   |exact spec_DropRoll.mono _ _ _
   |exact spec_FindRoll.mono _ _ _
   |exact LeO.none _
    | refine LeO.ite ?_ ?_
    | refine LeO.bind ?_ (fun _ => ?_)
theorem laws_FnRolls.mono : ∀ a0 a1 k, LeO (laws_FnRolls.f k a0 a1) (laws_FnRolls.f (k + 1) a0 a1) := by
 intro a0 a1 k
 obtain ⟨ih0, ih1, ih2, ih3, ih4, ih5⟩ := laws_FnRolls.mono_l k
 unfold laws_FnRolls.f
 repeat' first
  |(with_reducible exact ih0 _ _ _ _ _ _ _ _ _ _ _ _ _ _ _ _ _)
  |(with_reducible exact ih1 _ _ _ _ _ _ _ _ _)
  |(with_reducible exact ih2 _ _ _ _ _ _)
  |(with_reducible exact ih3 _ _ _ _ _)
  |(with_reducible exact ih4 _ _ _ _ _ _ _)
  |(with_reducible exact ih5 _ _ _ _ _ _ _ _ _ _ _ _ _)
  |(with_reducible exact impl_AddRoll.mono _ _ _ _ _ _)
  |(with_reducible exact impl_CopiesOf.mono _ _ _)
  |(with_reducible exact impl_DropRoll.mono _ _ _)
  |(with_reducible exact impl_FindRoll.mono _ _ _)
  |(with_reducible exact impl_IsCatalogue.mono _ _)
  |(with_reducible exact laws_qInts.mono _ _ _)
  |(with_reducible exact laws_qRolls.mono _ _ _)
  |(with_reducible exact spec_AddRoll.mono _ _ _ _ _ _)
  |(with_reducible exact spec_CopiesOf.mono _ _ _)
  |(with_reducible exact spec_DrawAddRoll.mono _ _)
  |(with_reducible exact spec_DrawCopiesOf.mono _ _)
  |(with_reducible exact spec_DrawDropRoll.mono _ _)
  |(with_reducible exact spec_DrawFindRoll.mono _ _)
  |(with_reducible exact spec_DropRoll.mono _ _ _)
  |(with_reducible exact spec_FindRoll.mono _ _ _)
  |(with_reducible exact LeO.refl _)
  |(with_reducible exact LeO.none _)
  |(with_reducible refine LeO.ite ?_ ?_)
  |(with_reducible refine LeO.bind ?_ (fun _ => ?_))
  |exact ih0 _ _ _ _ _ _ _ _ _ _ _ _ _ _ _ _ _
  |exact ih1 _ _ _ _ _ _ _ _ _
  |exact ih2 _ _ _ _ _ _
  |exact ih3 _ _ _ _ _
  |exact ih4 _ _ _ _ _ _ _
  |exact ih5 _ _ _ _ _ _ _ _ _ _ _ _ _
  |exact impl_AddRoll.mono _ _ _ _ _ _
  |exact impl_CopiesOf.mono _ _ _
  |exact impl_DropRoll.mono _ _ _
  |exact impl_FindRoll.mono _ _ _
  |exact impl_IsCatalogue.mono _ _
  |exact laws_qInts.mono _ _ _
  |exact laws_qRolls.mono _ _ _
  |exact spec_AddRoll.mono _ _ _ _ _ _
  |exact spec_CopiesOf.mono _ _ _
  |exact spec_DrawAddRoll.mono _ _
  |exact spec_DrawCopiesOf.mono _ _
  |exact spec_DrawDropRoll.mono _ _
  |exact spec_DrawFindRoll.mono _ _
  |exact spec_DropRoll.mono _ _ _
  |exact spec_FindRoll.mono _ _ _
  |exact LeO.none _
   | refine LeO.ite ?_ ?_
   | refine LeO.bind ?_ (fun _ => ?_)
theorem laws_FnRolls.j2_true : ∀ {k y0 y1 y2 y3 y4}, laws_FnRolls.j2 k y0 y1 y2 y3 y4 true = some true → False := by
 intro k y0 y1 y2 y3 y4 h
 cases k with
 | zero => simp only [laws_FnRolls.j2] at h; cases h
 | succ k => rw [laws_FnRolls.j2, if_pos rfl] at h; cases h
theorem laws_FnRolls.j3_true : ∀ {k y0 y1 y2 y3}, laws_FnRolls.j3 k y0 y1 y2 y3 true = some true → False := by
 intro k y0 y1 y2 y3 h
 cases k with
 | zero => simp only [laws_FnRolls.j3] at h; cases h
 | succ k => rw [laws_FnRolls.j3, if_pos rfl] at h; cases h
set_option maxHeartbeats 40000000 in
set_option maxRecDepth 100000 in
theorem laws_FnRolls.calls (k : Nat) (A0 : Option Addr) (c0 : Nat) (l0 : List Int) (A1 : Option Addr) (c1 : Nat) (l1 : List Int) (r : Bool) (w : World) (hr0 : Kd.C (Kd.int .u8) w A0 l0.length l0) (hc0 : l0.length ≤ c0) (hr1 : Kd.C (Kd.int .u8) w A1 l1.length l1) (hc1 : l1.length ≤ c1) (h : laws_FnRolls.f k l0 l1 = some r) (hr_ : r = true) :
 Calls Try.prog 3 #[.slice A0 l0.length c0, .slice A1 l1.length c1] w fun e w' => e = .returned (.bool r) ∧ Below w.heap.size w w' := by
 have HR_ := Aside0.mk hr_
 clear hr_
 have hu29 := Try.underlying29
 have HR0 := Aside0.mk hr0
 have HC0 := Aside0.mk hc0
 clear hr0 hc0
 have HR1 := Aside0.mk hr1
 have HC1 := Aside0.mk hc1
 clear hr1 hc1
 have HB := Aside0.mk (Below.refl w.heap.size w)
 have H : (if (wrap64 ((l0.length : Int) + (l1.length : Int))) > 1048576 then (some true) else ((spec_DrawDropRoll.f k l0).bind fun bt381 => ((impl_DropRoll.f k bt381.1 bt381.2).bind fun bt385 => ((spec_DropRoll.f k bt381.1 bt381.2).bind fun bt389 => ((spec_DrawAddRoll.f k l1).bind fun bt393 => ((impl_AddRoll.f k bt393.1 bt393.2.1 bt393.2.2.1 bt393.2.2.2.1 bt393.2.2.2.2).bind fun bt401 => ((spec_AddRoll.f k bt393.1 bt393.2.1 bt393.2.2.1 bt393.2.2.2.1 bt393.2.2.2.2).bind fun bt405 => ((spec_DrawFindRoll.f k l1).bind fun bt409 => ((impl_FindRoll.f k bt409.1 bt409.2).bind fun bt413 => ((spec_FindRoll.f k bt409.1 bt409.2).bind fun bt415 => ((spec_DrawCopiesOf.f k l1).bind fun bt417 => ((impl_CopiesOf.f k bt417.1 bt417.2).bind fun bt421 => ((spec_CopiesOf.f k bt417.1 bt417.2).bind fun bt425 => (if (bt385.2 != bt389.2) = true then (laws_FnRolls.j0 k bt381.1 bt381.2 bt385.1 bt385.2 bt389.1 bt393.1 bt401.1 bt401.2 bt409.1 bt409.2 bt413.2 bt415.1 true bt393.2.1 bt393.2.2.1 bt393.2.2.2.1 bt393.2.2.2.2) else ((laws_qRolls.f k bt385.1 bt389.1).bind fun t429 => (if t429 = true then (if (bt401.2 != bt405.2) = true then (laws_FnRolls.j0 k bt381.1 bt381.2 bt385.1 bt385.2 bt389.1 bt393.1 bt401.1 bt401.2 bt409.1 bt409.2 bt413.2 bt415.1 true bt393.2.1 bt393.2.2.1 bt393.2.2.2.1 bt393.2.2.2.2) else ((laws_qRolls.f k bt401.1 bt405.1).bind fun t430 => (if t430 = true then (if (bt413.2 != bt415.2) = true then (laws_FnRolls.j0 k bt381.1 bt381.2 bt385.1 bt385.2 bt389.1 bt393.1 bt401.1 bt401.2 bt409.1 bt409.2 bt413.2 bt415.1 true bt393.2.1 bt393.2.2.1 bt393.2.2.2.1 bt393.2.2.2.2) else (if bt413.1 = bt415.1 then (if (bt421.2 != bt425.2) = true then (laws_FnRolls.j0 k bt381.1 bt381.2 bt385.1 bt385.2 bt389.1 bt393.1 bt401.1 bt401.2 bt409.1 bt409.2 bt413.2 bt415.1 true bt393.2.1 bt393.2.2.1 bt393.2.2.2.1 bt393.2.2.2.2) else ((laws_qInts.f k bt421.1 bt425.1).bind fun t431 => (laws_FnRolls.j0 k bt381.1 bt381.2 bt385.1 bt385.2 bt389.1 bt393.1 bt401.1 bt401.2 bt409.1 bt409.2 bt413.2 bt415.1 (!t431) bt393.2.1 bt393.2.2.1 bt393.2.2.2.1 bt393.2.2.2.2))) else (laws_FnRolls.j0 k bt381.1 bt381.2 bt385.1 bt385.2 bt389.1 bt393.1 bt401.1 bt401.2 bt409.1 bt409.2 bt413.2 bt415.1 true bt393.2.1 bt393.2.2.1 bt393.2.2.2.1 bt393.2.2.2.2))) else (laws_FnRolls.j0 k bt381.1 bt381.2 bt385.1 bt385.2 bt389.1 bt393.1 bt401.1 bt401.2 bt409.1 bt409.2 bt413.2 bt415.1 true bt393.2.1 bt393.2.2.1 bt393.2.2.2.1 bt393.2.2.2.2)))) else (laws_FnRolls.j0 k bt381.1 bt381.2 bt385.1 bt385.2 bt389.1 bt393.1 bt401.1 bt401.2 bt409.1 bt409.2 bt413.2 bt415.1 true bt393.2.1 bt393.2.2.1 bt393.2.2.2.1 bt393.2.2.2.2))))))))))))))))) = some r := h
 clear h
 by_cases c3 : (wrap64 ((l0.length : Int) + (l1.length : Int))) > 1048576
 ·rw [if_pos c3] at H
  have c3b0 : decide (1048576 < (wrap64 ((l0.length : Int) + (l1.length : Int)))) = true := decide_eq_true c3
  clear c3
  obtain rfl := Option.some.inj H
  go_enter Try.func3, Try.ntmps3
  go_wp2
  repeat (go_quiet (fail); try go_wp2)
  go_ret
  exact ⟨by first | rfl|(simp [errW_none, errW_some] <;> rfl)|(simp [*, errW_none, errW_some] <;> rfl), by repeat (first|(with_reducible first|exact HB.out|apply below_alloc|apply pw_below_drewN|apply below_drew1)|exact HB.out)⟩
 ·rw [if_neg c3] at H
  have c3b0 : decide (1048576 < (wrap64 ((l0.length : Int) + (l1.length : Int)))) = false := decide_eq_false c3
  clear c3
  replace H := Option.bind_eq_some_iff.mp H
  obtain ⟨⟨t381, t382⟩, A40, H⟩ := H
  try dsimp only at H
  have A4 := Aside0.mk A40
  clear A40
  replace H := Option.bind_eq_some_iff.mp H
  obtain ⟨⟨t385, t386⟩, A50, H⟩ := H
  try dsimp only at H
  have A5 := Aside0.mk A50
  clear A50
  replace H := Option.bind_eq_some_iff.mp H
  obtain ⟨⟨t389, t390⟩, A60, H⟩ := H
  try dsimp only at H
  have A6 := Aside0.mk A60
  clear A60
  replace H := Option.bind_eq_some_iff.mp H
  obtain ⟨⟨t393, t396, t397, t398, t399⟩, A70, H⟩ := H
  try dsimp only at H
  have A7 := Aside0.mk A70
  clear A70
  replace H := Option.bind_eq_some_iff.mp H
  obtain ⟨⟨t401, t404⟩, A80, H⟩ := H
  try dsimp only at H
  have A8 := Aside0.mk A80
  clear A80
  replace H := Option.bind_eq_some_iff.mp H
  obtain ⟨⟨t405, t408⟩, A90, H⟩ := H
  try dsimp only at H
  have A9 := Aside0.mk A90
  clear A90
  replace H := Option.bind_eq_some_iff.mp H
  obtain ⟨⟨t409, t410⟩, A100, H⟩ := H
  try dsimp only at H
  have A10 := Aside0.mk A100
  clear A100
  replace H := Option.bind_eq_some_iff.mp H
  obtain ⟨⟨t413, t414⟩, A110, H⟩ := H
  try dsimp only at H
  have A11 := Aside0.mk A110
  clear A110
  replace H := Option.bind_eq_some_iff.mp H
  obtain ⟨⟨t415, t416⟩, A120, H⟩ := H
  try dsimp only at H
  have A12 := Aside0.mk A120
  clear A120
  replace H := Option.bind_eq_some_iff.mp H
  obtain ⟨⟨t417, t418⟩, A130, H⟩ := H
  try dsimp only at H
  have A13 := Aside0.mk A130
  clear A130
  replace H := Option.bind_eq_some_iff.mp H
  obtain ⟨⟨t421, t422⟩, A140, H⟩ := H
  try dsimp only at H
  have A14 := Aside0.mk A140
  clear A140
  replace H := Option.bind_eq_some_iff.mp H
  obtain ⟨⟨t425, t426⟩, A150, H⟩ := H
  try dsimp only at H
  have A15 := Aside0.mk A150
  clear A150
  have HC16 := Aside0.mk H
  clear H
  go_enter Try.func3, Try.ntmps3
  iterate 6 (go_upto_region 15 with (first|(go_at_call 7; (with_reducible refine (spec_DrawDropRoll.calls k _ _ l0 t381 t382 _ ?side1 ?side2 A4.out).mono ?_);(case side1 => repeat (first|exact HR0.out|(with_reducible refine Kd.C_alloc ?_ _)|(with_reducible refine Kd.C_drewN ?_ _)|(with_reducible refine Kd.C_drew ?_)));(case side2 => exact HC0.out); rintro e w17 ⟨v383, rfl, ho0, hb⟩; have n0_ := Aside0.mk (Kd.R_lower ho0 (below_size (by repeat (first|(with_reducible first|exact HB.out|apply below_alloc|apply pw_below_drewN|apply below_drew1)|exact HB.out)))); have n1_ := Aside0.mk (below_step (by repeat (first|(with_reducible first|exact HB.out|apply below_alloc|apply pw_below_drewN|apply below_drew1)|exact HB.out)) hb); clear HB; have HO384 := n0_; have HB := n1_; clear n0_ n1_; (try clear hb); (try clear hb2); (try clear hk); (try clear hi); (try clear ho0); obtain ⟨Ao18, co18, eo18⟩ := Kd.R_slice HO384.out; subst eo18)|(go_at_call 8; (with_reducible refine (impl_DropRoll.calls k _ _ t381 t382 t385 t386 _ ?side1 ?side2 A5.out).mono ?_);(case side1 => repeat (first|exact (Kd.R_reads' HO384.out).2.2|(with_reducible refine Kd.C_alloc ?_ _)|(with_reducible refine Kd.C_drewN ?_ _)|(with_reducible refine Kd.C_drew ?_)));(case side2 => exact (Kd.R_reads' HO384.out).2.1); rintro e w19 ⟨v387, rfl, ho0, hb⟩; have n0_ := Aside0.mk (Kd.R_below (by (with_reducible repeat (first|apply Kd.R_alloc|apply Kd.R_drewN|apply Kd.R_drew)); exact HO384.out) hb); have n1_ := Aside0.mk (Kd.R_lower ho0 (below_size (by repeat (first|(with_reducible first|exact HB.out|apply below_alloc|apply pw_below_drewN|apply below_drew1)|exact HB.out)))); have n2_ := Aside0.mk (below_step (by repeat (first|(with_reducible first|exact HB.out|apply below_alloc|apply pw_below_drewN|apply below_drew1)|exact HB.out)) hb); clear HO384; clear HB; have HO384 := n0_; have HO388 := n1_; have HB := n2_; clear n0_ n1_ n2_; (try clear hb); (try clear hb2); (try clear hk); (try clear hi); (try clear ho0))|(go_at_call 9; (with_reducible refine (spec_DropRoll.calls k _ _ t381 t382 t389 t390 _ ?side1 ?side2 A6.out).mono ?_);(case side1 => repeat (first|exact (Kd.R_reads' HO384.out).2.2|(with_reducible refine Kd.C_alloc ?_ _)|(with_reducible refine Kd.C_drewN ?_ _)|(with_reducible refine Kd.C_drew ?_)));(case side2 => exact (Kd.R_reads' HO384.out).2.1); rintro e w20 ⟨v391, rfl, ho0, hb⟩; have n0_ := Aside0.mk (Kd.R_below (by (with_reducible repeat (first|apply Kd.R_alloc|apply Kd.R_drewN|apply Kd.R_drew)); exact HO384.out) hb); have n1_ := Aside0.mk (Kd.R_below (by (with_reducible repeat (first|apply Kd.R_alloc|apply Kd.R_drewN|apply Kd.R_drew)); exact HO388.out) hb); have n2_ := Aside0.mk (Kd.R_lower ho0 (below_size (by repeat (first|(with_reducible first|exact HB.out|apply below_alloc|apply pw_below_drewN|apply below_drew1)|exact HB.out)))); have n3_ := Aside0.mk (below_step (by repeat (first|(with_reducible first|exact HB.out|apply below_alloc|apply pw_below_drewN|apply below_drew1)|exact HB.out)) hb); clear HO384; clear HO388; clear HB; have HO384 := n0_; have HO388 := n1_; have HO392 := n2_; have HB := n3_; clear n0_ n1_ n2_ n3_; (try clear hb); (try clear hb2); (try clear hk); (try clear hi); (try clear ho0))|(go_at_call 10; (with_reducible refine (spec_DrawAddRoll.calls k _ _ l1 t393 t396 t397 t398 t399 _ ?side1 ?side2 A7.out).mono ?_);(case side1 => repeat (first|exact (Kd.C_below HR1.out HB.out)|(with_reducible refine Kd.C_alloc ?_ _)|(with_reducible refine Kd.C_drewN ?_ _)|(with_reducible refine Kd.C_drew ?_)));(case side2 => exact HC1.out); rintro e w21 ⟨v394, rfl, ho0, hb⟩; have n0_ := Aside0.mk (Kd.R_below (by (with_reducible repeat (first|apply Kd.R_alloc|apply Kd.R_drewN|apply Kd.R_drew)); exact HO384.out) hb); have n1_ := Aside0.mk (Kd.R_below (by (with_reducible repeat (first|apply Kd.R_alloc|apply Kd.R_drewN|apply Kd.R_drew)); exact HO388.out) hb); have n2_ := Aside0.mk (Kd.R_below (by (with_reducible repeat (first|apply Kd.R_alloc|apply Kd.R_drewN|apply Kd.R_drew)); exact HO392.out) hb); have n3_ := Aside0.mk (Kd.R_lower ho0 (below_size (by repeat (first|(with_reducible first|exact HB.out|apply below_alloc|apply pw_below_drewN|apply below_drew1)|exact HB.out)))); have n4_ := Aside0.mk (below_step (by repeat (first|(with_reducible first|exact HB.out|apply below_alloc|apply pw_below_drewN|apply below_drew1)|exact HB.out)) hb); clear HO384; clear HO388; clear HO392; clear HB; have HO384 := n0_; have HO388 := n1_; have HO392 := n2_; have HO395 := n3_; have HB := n4_; clear n0_ n1_ n2_ n3_ n4_; (try clear hb); (try clear hb2); (try clear hk); (try clear hi); (try clear ho0))|((with_reducible refine gate_dst (N := 12) rfl ?_); (try (refine gate_guard (by rfl) ?_; dsimp only)); refine box_event ?hg (N := 12) ?hd (cs := #[.string (⟨#[]⟩ : ByteArray), .string (⟨#[]⟩ : ByteArray), .int .i64 0, .int .i64 0]) (t := 29) ?hr ?_;(case hd => rfl);(case hg => rfl);(case hr => first|(go_simp;done)|(go_simp; rfl)); intro gb400 hg w22 hbox hb; have n0_ := Aside0.mk (Kd.R_below (Kd.R_elderB (by (with_reducible repeat (first|apply Kd.R_alloc|apply Kd.R_drewN|apply Kd.R_drew)); exact HO384.out) gb400 (Nat.le_of_eq hg.symm)) hb); have n1_ := Aside0.mk (Kd.R_below (Kd.R_elderB (by (with_reducible repeat (first|apply Kd.R_alloc|apply Kd.R_drewN|apply Kd.R_drew)); exact HO388.out) gb400 (Nat.le_of_eq hg.symm)) hb); have n2_ := Aside0.mk (Kd.R_below (Kd.R_elderB (by (with_reducible repeat (first|apply Kd.R_alloc|apply Kd.R_drewN|apply Kd.R_drew)); exact HO392.out) gb400 (Nat.le_of_eq hg.symm)) hb); have n3_ := Aside0.mk (Kd.R_below (Kd.R_elderB (by (with_reducible repeat (first|apply Kd.R_alloc|apply Kd.R_drewN|apply Kd.R_drew)); exact HO395.out) gb400 (Nat.le_of_eq hg.symm)) hb); have n4_ := Aside0.mk (below_step (by repeat (first|(with_reducible first|exact HB.out|apply below_alloc|apply pw_below_drewN|apply below_drew1)|exact HB.out)) hb); have n5_ := Aside0.mk (hbox); have n6_ := Aside0.mk ((by rw [hg]; exact (below_size (by repeat (first|(with_reducible first|exact HB.out|apply below_alloc|apply pw_below_drewN|apply below_drew1)|exact HB.out))) : w.heap.size ≤ gb400)); have n7_ := Aside0.mk ((by rw [hg]; exact (below_size (by repeat (first|(with_reducible first|exact HB.out|apply below_alloc|apply pw_below_drewN|apply below_drew1)|exact HB.out))) : w.heap.size ≤ gb400)); clear HO384; clear HO388; clear HO392; clear HO395; clear HB; have HO384 := n0_; have HO388 := n1_; have HO392 := n2_; have HO395 := n3_; have HB := n4_; have BK400 := n5_; have GW400 := n6_; have GE400 := n7_; clear n0_ n1_ n2_ n3_ n4_ n5_ n6_ n7_; clear hb hbox hg; have hcz23_0 : w22.cell? ⟨gb400, 0, none⟩ = some (.string (⟨#[]⟩ : ByteArray)) := (blk_cell BK400.out 0).trans rfl; have hcz23_1 : w22.cell? ⟨gb400, 1, none⟩ = some (.string (⟨#[]⟩ : ByteArray)) := (blk_cell BK400.out 1).trans rfl; have hcz23_2 : w22.cell? ⟨gb400, 2, none⟩ = some (.int .i64 0) := (blk_cell BK400.out 2).trans rfl; have hcz23_3 : w22.cell? ⟨gb400, 3, none⟩ = some (.int .i64 0) := (blk_cell BK400.out 3).trans rfl; have hfz23_0 := blk_frozen BK400.out 0; have hfz23_1 := blk_frozen BK400.out 1; have hfz23_2 := blk_frozen BK400.out 2; have hfz23_3 := blk_frozen BK400.out 3; obtain ⟨Ao24, co24, eo24⟩ := Kd.R_slice HO395.out; subst eo24)|(go_at_call 11; (with_reducible refine (impl_AddRoll.calls k _ _ t393 t396 t397 t398 t399 t401 t404 _ ?side1 ?side2 A8.out).mono ?_);(case side1 => refine (Kd.R_reads' (e := 29) (base := w.heap.size) (ok := fun k_ => (True ∧ k_ ≠ gb400)) (n := t393.length) (c := co24) ?_).2.2; exact (by (with_reducible repeat (first|apply Kd.R_alloc|apply Kd.R_drewN|apply Kd.R_drew)); exact (Kd.R_mono (Kd.R_far (p := ⟨gb400, 3, none⟩) (Kd.R_far (p := ⟨gb400, 2, none⟩) (Kd.R_far (p := ⟨gb400, 1, none⟩) (Kd.R_far (p := ⟨gb400, 0, none⟩) (Kd.R_mono HO395.out (fun k_ hk => (⟨hk, hk.2⟩ : _ ∧ k_ ≠ gb400))) (fun _ hk => hk.2) (.string t396)) (fun _ hk => hk.2) (.string t397)) (fun _ hk => hk.2) (.int .i64 t398)) (fun _ hk => hk.2) (.int .i64 t399)) (fun _ h_ => h_.1))));(case side2 => exact (Kd.R_reads' HO395.out).2.1); rintro e w25 ⟨v402, rfl, ho0, hb⟩; have n0_ := Aside0.mk (Kd.R_below (by (with_reducible repeat (first|apply Kd.R_alloc|apply Kd.R_drewN|apply Kd.R_drew)); exact (Kd.R_mono (Kd.R_far (p := ⟨gb400, 3, none⟩) (Kd.R_far (p := ⟨gb400, 2, none⟩) (Kd.R_far (p := ⟨gb400, 1, none⟩) (Kd.R_far (p := ⟨gb400, 0, none⟩) (Kd.R_mono HO384.out (fun k_ hk => (⟨hk, hk.2⟩ : _ ∧ k_ ≠ gb400))) (fun _ hk => hk.2) (.string t396)) (fun _ hk => hk.2) (.string t397)) (fun _ hk => hk.2) (.int .i64 t398)) (fun _ hk => hk.2) (.int .i64 t399)) (fun _ h_ => h_.1))) hb); have n1_ := Aside0.mk (Kd.R_below (by (with_reducible repeat (first|apply Kd.R_alloc|apply Kd.R_drewN|apply Kd.R_drew)); exact (Kd.R_mono (Kd.R_far (p := ⟨gb400, 3, none⟩) (Kd.R_far (p := ⟨gb400, 2, none⟩) (Kd.R_far (p := ⟨gb400, 1, none⟩) (Kd.R_far (p := ⟨gb400, 0, none⟩) (Kd.R_mono HO388.out (fun k_ hk => (⟨hk, hk.2⟩ : _ ∧ k_ ≠ gb400))) (fun _ hk => hk.2) (.string t396)) (fun _ hk => hk.2) (.string t397)) (fun _ hk => hk.2) (.int .i64 t398)) (fun _ hk => hk.2) (.int .i64 t399)) (fun _ h_ => h_.1))) hb); have n2_ := Aside0.mk (Kd.R_below (by (with_reducible repeat (first|apply Kd.R_alloc|apply Kd.R_drewN|apply Kd.R_drew)); exact (Kd.R_mono (Kd.R_far (p := ⟨gb400, 3, none⟩) (Kd.R_far (p := ⟨gb400, 2, none⟩) (Kd.R_far (p := ⟨gb400, 1, none⟩) (Kd.R_far (p := ⟨gb400, 0, none⟩) (Kd.R_mono HO392.out (fun k_ hk => (⟨hk, hk.2⟩ : _ ∧ k_ ≠ gb400))) (fun _ hk => hk.2) (.string t396)) (fun _ hk => hk.2) (.string t397)) (fun _ hk => hk.2) (.int .i64 t398)) (fun _ hk => hk.2) (.int .i64 t399)) (fun _ h_ => h_.1))) hb); have n3_ := Aside0.mk (Kd.R_below (by (with_reducible repeat (first|apply Kd.R_alloc|apply Kd.R_drewN|apply Kd.R_drew)); exact (Kd.R_mono (Kd.R_far (p := ⟨gb400, 3, none⟩) (Kd.R_far (p := ⟨gb400, 2, none⟩) (Kd.R_far (p := ⟨gb400, 1, none⟩) (Kd.R_far (p := ⟨gb400, 0, none⟩) (Kd.R_mono HO395.out (fun k_ hk => (⟨hk, hk.2⟩ : _ ∧ k_ ≠ gb400))) (fun _ hk => hk.2) (.string t396)) (fun _ hk => hk.2) (.string t397)) (fun _ hk => hk.2) (.int .i64 t398)) (fun _ hk => hk.2) (.int .i64 t399)) (fun _ h_ => h_.1))) hb); have n4_ := Aside0.mk (Kd.R_lower (Kd.R_newB ho0 (g := gb400) (o := .cells #[.string t396, .string t397, .int .i64 t398, .int .i64 t399] 29 (0, 0)) (by (with_reducible repeat (first|refine blk_drewN ?_ _ | refine blk_drew ?_ | refine blk_alloc ?_ _)); refine blk_put (cs := #[.string t396, .string t397, .int .i64 t398, .int .i64 0]) ?_ 3 _ rfl; (with_reducible repeat (first|refine blk_drewN ?_ _ | refine blk_drew ?_ | refine blk_alloc ?_ _)); refine blk_put (cs := #[.string t396, .string t397, .int .i64 0, .int .i64 0]) ?_ 2 _ rfl; (with_reducible repeat (first|refine blk_drewN ?_ _ | refine blk_drew ?_ | refine blk_alloc ?_ _)); refine blk_put (cs := #[.string t396, .string (⟨#[]⟩ : ByteArray), .int .i64 0, .int .i64 0]) ?_ 1 _ rfl; (with_reducible repeat (first|refine blk_drewN ?_ _ | refine blk_drew ?_ | refine blk_alloc ?_ _)); refine blk_put (cs := #[.string (⟨#[]⟩ : ByteArray), .string (⟨#[]⟩ : ByteArray), .int .i64 0, .int .i64 0]) ?_ 0 _ rfl; (with_reducible repeat (first|refine blk_drewN ?_ _ | refine blk_drew ?_ | refine blk_alloc ?_ _)); exact BK400.out)) (below_size (by repeat (first|(with_reducible first|exact HB.out|apply below_alloc|apply pw_below_drewN|apply below_drew1 | refine below_set ?_ GE400.out)|exact HB.out)))); have n5_ := Aside0.mk (blk_below (g := gb400) (o := .cells #[.string t396, .string t397, .int .i64 t398, .int .i64 t399] 29 (0, 0)) (by (with_reducible repeat (first|refine blk_drewN ?_ _ | refine blk_drew ?_ | refine blk_alloc ?_ _)); refine blk_put (cs := #[.string t396, .string t397, .int .i64 t398, .int .i64 0]) ?_ 3 _ rfl; (with_reducible repeat (first|refine blk_drewN ?_ _ | refine blk_drew ?_ | refine blk_alloc ?_ _)); refine blk_put (cs := #[.string t396, .string t397, .int .i64 0, .int .i64 0]) ?_ 2 _ rfl; (with_reducible repeat (first|refine blk_drewN ?_ _ | refine blk_drew ?_ | refine blk_alloc ?_ _)); refine blk_put (cs := #[.string t396, .string (⟨#[]⟩ : ByteArray), .int .i64 0, .int .i64 0]) ?_ 1 _ rfl; (with_reducible repeat (first|refine blk_drewN ?_ _ | refine blk_drew ?_ | refine blk_alloc ?_ _)); refine blk_put (cs := #[.string (⟨#[]⟩ : ByteArray), .string (⟨#[]⟩ : ByteArray), .int .i64 0, .int .i64 0]) ?_ 0 _ rfl; (with_reducible repeat (first|refine blk_drewN ?_ _ | refine blk_drew ?_ | refine blk_alloc ?_ _)); exact BK400.out) hb); have n6_ := Aside0.mk (below_step (by repeat (first|(with_reducible first|exact HB.out|apply below_alloc|apply pw_below_drewN|apply below_drew1 | refine below_set ?_ GE400.out)|exact HB.out)) hb); clear HO384; clear HO388; clear HO392; clear HO395; clear BK400; clear HB; have HO384 := n0_; have HO388 := n1_; have HO392 := n2_; have HO395 := n3_; have HO403 := n4_; have BK400 := n5_; have HB := n6_; clear n0_ n1_ n2_ n3_ n4_ n5_ n6_; (try clear hb); (try clear hb2); (try clear hk); (try clear hi); (try clear ho0); have hcz26_0 : w25.cell? ⟨gb400, 0, none⟩ = some (.string t396) := (blk_cell BK400.out 0).trans rfl; have hcz26_1 : w25.cell? ⟨gb400, 1, none⟩ = some (.string t397) := (blk_cell BK400.out 1).trans rfl; have hcz26_2 : w25.cell? ⟨gb400, 2, none⟩ = some (.int .i64 t398) := (blk_cell BK400.out 2).trans rfl; have hcz26_3 : w25.cell? ⟨gb400, 3, none⟩ = some (.int .i64 t399) := (blk_cell BK400.out 3).trans rfl; have hfz26_0 := blk_frozen BK400.out 0; have hfz26_1 := blk_frozen BK400.out 1; have hfz26_2 := blk_frozen BK400.out 2; have hfz26_3 := blk_frozen BK400.out 3)|(go_at_call 12; (with_reducible refine (spec_AddRoll.calls k _ _ t393 t396 t397 t398 t399 t405 t408 _ ?side1 ?side2 A9.out).mono ?_);(case side1 => repeat (first|exact (Kd.R_reads' HO395.out).2.2|(with_reducible refine Kd.C_alloc ?_ _)|(with_reducible refine Kd.C_drewN ?_ _)|(with_reducible refine Kd.C_drew ?_)));(case side2 => exact (Kd.R_reads' HO395.out).2.1); rintro e w27 ⟨v406, rfl, ho0, hb⟩; have n0_ := Aside0.mk (Kd.R_below (by (with_reducible repeat (first|apply Kd.R_alloc|apply Kd.R_drewN|apply Kd.R_drew)); exact HO384.out) hb); have n1_ := Aside0.mk (Kd.R_below (by (with_reducible repeat (first|apply Kd.R_alloc|apply Kd.R_drewN|apply Kd.R_drew)); exact HO388.out) hb); have n2_ := Aside0.mk (Kd.R_below (by (with_reducible repeat (first|apply Kd.R_alloc|apply Kd.R_drewN|apply Kd.R_drew)); exact HO392.out) hb); have n3_ := Aside0.mk (Kd.R_below (by (with_reducible repeat (first|apply Kd.R_alloc|apply Kd.R_drewN|apply Kd.R_drew)); exact HO395.out) hb); have n4_ := Aside0.mk (Kd.R_below (by (with_reducible repeat (first|apply Kd.R_alloc|apply Kd.R_drewN|apply Kd.R_drew)); exact HO403.out) hb); have n5_ := Aside0.mk (Kd.R_lower (Kd.R_newB ho0 (g := gb400) (o := .cells #[.string t396, .string t397, .int .i64 t398, .int .i64 t399] 29 (0, 0)) (by (with_reducible repeat (first|refine blk_drewN ?_ _ | refine blk_drew ?_ | refine blk_alloc ?_ _)); exact BK400.out)) (below_size (by repeat (first|(with_reducible first|exact HB.out|apply below_alloc|apply pw_below_drewN|apply below_drew1 | refine below_set ?_ GE400.out)|exact HB.out)))); have n6_ := Aside0.mk (blk_below (g := gb400) (o := .cells #[.string t396, .string t397, .int .i64 t398, .int .i64 t399] 29 (0, 0)) (by (with_reducible repeat (first|refine blk_drewN ?_ _ | refine blk_drew ?_ | refine blk_alloc ?_ _)); exact BK400.out) hb); have n7_ := Aside0.mk (below_step (by repeat (first|(with_reducible first|exact HB.out|apply below_alloc|apply pw_below_drewN|apply below_drew1 | refine below_set ?_ GE400.out)|exact HB.out)) hb); clear HO384; clear HO388; clear HO392; clear HO395; clear HO403; clear BK400; clear HB; have HO384 := n0_; have HO388 := n1_; have HO392 := n2_; have HO395 := n3_; have HO403 := n4_; have HO407 := n5_; have BK400 := n6_; have HB := n7_; clear n0_ n1_ n2_ n3_ n4_ n5_ n6_ n7_; (try clear hb); (try clear hb2); (try clear hk); (try clear hi); (try clear ho0))|(go_at_call 13; (with_reducible refine (spec_DrawFindRoll.calls k _ _ l1 t409 t410 _ ?side1 ?side2 A10.out).mono ?_);(case side1 => repeat (first|exact (Kd.C_below HR1.out HB.out)|(with_reducible refine Kd.C_alloc ?_ _)|(with_reducible refine Kd.C_drewN ?_ _)|(with_reducible refine Kd.C_drew ?_)));(case side2 => exact HC1.out); rintro e w28 ⟨v411, rfl, ho0, hb⟩; have n0_ := Aside0.mk (Kd.R_below (by (with_reducible repeat (first|apply Kd.R_alloc|apply Kd.R_drewN|apply Kd.R_drew)); exact HO384.out) hb); have n1_ := Aside0.mk (Kd.R_below (by (with_reducible repeat (first|apply Kd.R_alloc|apply Kd.R_drewN|apply Kd.R_drew)); exact HO388.out) hb); have n2_ := Aside0.mk (Kd.R_below (by (with_reducible repeat (first|apply Kd.R_alloc|apply Kd.R_drewN|apply Kd.R_drew)); exact HO392.out) hb); have n3_ := Aside0.mk (Kd.R_below (by (with_reducible repeat (first|apply Kd.R_alloc|apply Kd.R_drewN|apply Kd.R_drew)); exact HO395.out) hb); have n4_ := Aside0.mk (Kd.R_below (by (with_reducible repeat (first|apply Kd.R_alloc|apply Kd.R_drewN|apply Kd.R_drew)); exact HO403.out) hb); have n5_ := Aside0.mk (Kd.R_below (by (with_reducible repeat (first|apply Kd.R_alloc|apply Kd.R_drewN|apply Kd.R_drew)); exact HO407.out) hb); have n6_ := Aside0.mk (Kd.R_lower (Kd.R_newB ho0 (g := gb400) (o := .cells #[.string t396, .string t397, .int .i64 t398, .int .i64 t399] 29 (0, 0)) (by (with_reducible repeat (first|refine blk_drewN ?_ _ | refine blk_drew ?_ | refine blk_alloc ?_ _)); exact BK400.out)) (below_size (by repeat (first|(with_reducible first|exact HB.out|apply below_alloc|apply pw_below_drewN|apply below_drew1 | refine below_set ?_ GE400.out)|exact HB.out)))); have n7_ := Aside0.mk (blk_below (g := gb400) (o := .cells #[.string t396, .string t397, .int .i64 t398, .int .i64 t399] 29 (0, 0)) (by (with_reducible repeat (first|refine blk_drewN ?_ _ | refine blk_drew ?_ | refine blk_alloc ?_ _)); exact BK400.out) hb); have n8_ := Aside0.mk (below_step (by repeat (first|(with_reducible first|exact HB.out|apply below_alloc|apply pw_below_drewN|apply below_drew1 | refine below_set ?_ GE400.out)|exact HB.out)) hb); clear HO384; clear HO388; clear HO392; clear HO395; clear HO403; clear HO407; clear BK400; clear HB; have HO384 := n0_; have HO388 := n1_; have HO392 := n2_; have HO395 := n3_; have HO403 := n4_; have HO407 := n5_; have HO412 := n6_; have BK400 := n7_; have HB := n8_; clear n0_ n1_ n2_ n3_ n4_ n5_ n6_ n7_ n8_; (try clear hb); (try clear hb2); (try clear hk); (try clear hi); (try clear ho0); obtain ⟨Ao29, co29, eo29⟩ := Kd.R_slice HO412.out; subst eo29)|(go_at_call 14; (with_reducible refine (impl_FindRoll.calls k _ _ t409 t410 t413 t414 _ ?side1 ?side2 A11.out).mono ?_);(case side1 => repeat (first|exact (Kd.R_reads' HO412.out).2.2|(with_reducible refine Kd.C_alloc ?_ _)|(with_reducible refine Kd.C_drewN ?_ _)|(with_reducible refine Kd.C_drew ?_)));(case side2 => exact (Kd.R_reads' HO412.out).2.1); rintro e w30 ⟨rfl, hb⟩; have n0_ := Aside0.mk (Kd.R_below (by (with_reducible repeat (first|apply Kd.R_alloc|apply Kd.R_drewN|apply Kd.R_drew)); exact HO384.out) hb); have n1_ := Aside0.mk (Kd.R_below (by (with_reducible repeat (first|apply Kd.R_alloc|apply Kd.R_drewN|apply Kd.R_drew)); exact HO388.out) hb); have n2_ := Aside0.mk (Kd.R_below (by (with_reducible repeat (first|apply Kd.R_alloc|apply Kd.R_drewN|apply Kd.R_drew)); exact HO392.out) hb); have n3_ := Aside0.mk (Kd.R_below (by (with_reducible repeat (first|apply Kd.R_alloc|apply Kd.R_drewN|apply Kd.R_drew)); exact HO395.out) hb); have n4_ := Aside0.mk (Kd.R_below (by (with_reducible repeat (first|apply Kd.R_alloc|apply Kd.R_drewN|apply Kd.R_drew)); exact HO403.out) hb); have n5_ := Aside0.mk (Kd.R_below (by (with_reducible repeat (first|apply Kd.R_alloc|apply Kd.R_drewN|apply Kd.R_drew)); exact HO407.out) hb); have n6_ := Aside0.mk (Kd.R_below (by (with_reducible repeat (first|apply Kd.R_alloc|apply Kd.R_drewN|apply Kd.R_drew)); exact HO412.out) hb); have n7_ := Aside0.mk (blk_below (g := gb400) (o := .cells #[.string t396, .string t397, .int .i64 t398, .int .i64 t399] 29 (0, 0)) (by (with_reducible repeat (first|refine blk_drewN ?_ _ | refine blk_drew ?_ | refine blk_alloc ?_ _)); exact BK400.out) hb); have n8_ := Aside0.mk (below_step (by repeat (first|(with_reducible first|exact HB.out|apply below_alloc|apply pw_below_drewN|apply below_drew1 | refine below_set ?_ GE400.out)|exact HB.out)) hb); clear HO384; clear HO388; clear HO392; clear HO395; clear HO403; clear HO407; clear HO412; clear BK400; clear HB; have HO384 := n0_; have HO388 := n1_; have HO392 := n2_; have HO395 := n3_; have HO403 := n4_; have HO407 := n5_; have HO412 := n6_; have BK400 := n7_; have HB := n8_; clear n0_ n1_ n2_ n3_ n4_ n5_ n6_ n7_ n8_; (try clear hb); (try clear hb2); (try clear hk); (try clear hi))|(go_at_call 15; (with_reducible refine (spec_FindRoll.calls k _ _ t409 t410 t415 t416 _ ?side1 ?side2 A12.out).mono ?_);(case side1 => repeat (first|exact (Kd.R_reads' HO412.out).2.2|(with_reducible refine Kd.C_alloc ?_ _)|(with_reducible refine Kd.C_drewN ?_ _)|(with_reducible refine Kd.C_drew ?_)));(case side2 => exact (Kd.R_reads' HO412.out).2.1); rintro e w31 ⟨rfl, hb⟩; have n0_ := Aside0.mk (Kd.R_below (by (with_reducible repeat (first|apply Kd.R_alloc|apply Kd.R_drewN|apply Kd.R_drew)); exact HO384.out) hb); have n1_ := Aside0.mk (Kd.R_below (by (with_reducible repeat (first|apply Kd.R_alloc|apply Kd.R_drewN|apply Kd.R_drew)); exact HO388.out) hb); have n2_ := Aside0.mk (Kd.R_below (by (with_reducible repeat (first|apply Kd.R_alloc|apply Kd.R_drewN|apply Kd.R_drew)); exact HO392.out) hb); have n3_ := Aside0.mk (Kd.R_below (by (with_reducible repeat (first|apply Kd.R_alloc|apply Kd.R_drewN|apply Kd.R_drew)); exact HO395.out) hb); have n4_ := Aside0.mk (Kd.R_below (by (with_reducible repeat (first|apply Kd.R_alloc|apply Kd.R_drewN|apply Kd.R_drew)); exact HO403.out) hb); have n5_ := Aside0.mk (Kd.R_below (by (with_reducible repeat (first|apply Kd.R_alloc|apply Kd.R_drewN|apply Kd.R_drew)); exact HO407.out) hb); have n6_ := Aside0.mk (Kd.R_below (by (with_reducible repeat (first|apply Kd.R_alloc|apply Kd.R_drewN|apply Kd.R_drew)); exact HO412.out) hb); have n7_ := Aside0.mk (blk_below (g := gb400) (o := .cells #[.string t396, .string t397, .int .i64 t398, .int .i64 t399] 29 (0, 0)) (by (with_reducible repeat (first|refine blk_drewN ?_ _ | refine blk_drew ?_ | refine blk_alloc ?_ _)); exact BK400.out) hb); have n8_ := Aside0.mk (below_step (by repeat (first|(with_reducible first|exact HB.out|apply below_alloc|apply pw_below_drewN|apply below_drew1 | refine below_set ?_ GE400.out)|exact HB.out)) hb); clear HO384; clear HO388; clear HO392; clear HO395; clear HO403; clear HO407; clear HO412; clear BK400; clear HB; have HO384 := n0_; have HO388 := n1_; have HO392 := n2_; have HO395 := n3_; have HO403 := n4_; have HO407 := n5_; have HO412 := n6_; have BK400 := n7_; have HB := n8_; clear n0_ n1_ n2_ n3_ n4_ n5_ n6_ n7_ n8_; (try clear hb); (try clear hb2); (try clear hk); (try clear hi))|(go_at_call 16; (with_reducible refine (spec_DrawCopiesOf.calls k _ _ l1 t417 t418 _ ?side1 ?side2 A13.out).mono ?_);(case side1 => repeat (first|exact (Kd.C_below HR1.out HB.out)|(with_reducible refine Kd.C_alloc ?_ _)|(with_reducible refine Kd.C_drewN ?_ _)|(with_reducible refine Kd.C_drew ?_)));(case side2 => exact HC1.out); rintro e w32 ⟨v419, rfl, ho0, hb⟩; have n0_ := Aside0.mk (Kd.R_below (by (with_reducible repeat (first|apply Kd.R_alloc|apply Kd.R_drewN|apply Kd.R_drew)); exact HO384.out) hb); have n1_ := Aside0.mk (Kd.R_below (by (with_reducible repeat (first|apply Kd.R_alloc|apply Kd.R_drewN|apply Kd.R_drew)); exact HO388.out) hb); have n2_ := Aside0.mk (Kd.R_below (by (with_reducible repeat (first|apply Kd.R_alloc|apply Kd.R_drewN|apply Kd.R_drew)); exact HO392.out) hb); have n3_ := Aside0.mk (Kd.R_below (by (with_reducible repeat (first|apply Kd.R_alloc|apply Kd.R_drewN|apply Kd.R_drew)); exact HO395.out) hb); have n4_ := Aside0.mk (Kd.R_below (by (with_reducible repeat (first|apply Kd.R_alloc|apply Kd.R_drewN|apply Kd.R_drew)); exact HO403.out) hb); have n5_ := Aside0.mk (Kd.R_below (by (with_reducible repeat (first|apply Kd.R_alloc|apply Kd.R_drewN|apply Kd.R_drew)); exact HO407.out) hb); have n6_ := Aside0.mk (Kd.R_below (by (with_reducible repeat (first|apply Kd.R_alloc|apply Kd.R_drewN|apply Kd.R_drew)); exact HO412.out) hb); have n7_ := Aside0.mk (Kd.R_lower (Kd.R_newB ho0 (g := gb400) (o := .cells #[.string t396, .string t397, .int .i64 t398, .int .i64 t399] 29 (0, 0)) (by (with_reducible repeat (first|refine blk_drewN ?_ _ | refine blk_drew ?_ | refine blk_alloc ?_ _)); exact BK400.out)) (below_size (by repeat (first|(with_reducible first|exact HB.out|apply below_alloc|apply pw_below_drewN|apply below_drew1 | refine below_set ?_ GE400.out)|exact HB.out)))); have n8_ := Aside0.mk (blk_below (g := gb400) (o := .cells #[.string t396, .string t397, .int .i64 t398, .int .i64 t399] 29 (0, 0)) (by (with_reducible repeat (first|refine blk_drewN ?_ _ | refine blk_drew ?_ | refine blk_alloc ?_ _)); exact BK400.out) hb); have n9_ := Aside0.mk (below_step (by repeat (first|(with_reducible first|exact HB.out|apply below_alloc|apply pw_below_drewN|apply below_drew1 | refine below_set ?_ GE400.out)|exact HB.out)) hb); clear HO384; clear HO388; clear HO392; clear HO395; clear HO403; clear HO407; clear HO412; clear BK400; clear HB; have HO384 := n0_; have HO388 := n1_; have HO392 := n2_; have HO395 := n3_; have HO403 := n4_; have HO407 := n5_; have HO412 := n6_; have HO420 := n7_; have BK400 := n8_; have HB := n9_; clear n0_ n1_ n2_ n3_ n4_ n5_ n6_ n7_ n8_ n9_; (try clear hb); (try clear hb2); (try clear hk); (try clear hi); (try clear ho0); obtain ⟨Ao33, co33, eo33⟩ := Kd.R_slice HO420.out; subst eo33)|(go_at_call 17; (with_reducible refine (impl_CopiesOf.calls k _ _ t417 t418 t421 t422 _ ?side1 ?side2 A14.out).mono ?_);(case side1 => repeat (first|exact (Kd.R_reads' HO420.out).2.2|(with_reducible refine Kd.C_alloc ?_ _)|(with_reducible refine Kd.C_drewN ?_ _)|(with_reducible refine Kd.C_drew ?_)));(case side2 => exact (Kd.R_reads' HO420.out).2.1); rintro e w34 ⟨v423, rfl, ho0, hb⟩; have n0_ := Aside0.mk (Kd.R_below (by (with_reducible repeat (first|apply Kd.R_alloc|apply Kd.R_drewN|apply Kd.R_drew)); exact HO384.out) hb); have n1_ := Aside0.mk (Kd.R_below (by (with_reducible repeat (first|apply Kd.R_alloc|apply Kd.R_drewN|apply Kd.R_drew)); exact HO388.out) hb); have n2_ := Aside0.mk (Kd.R_below (by (with_reducible repeat (first|apply Kd.R_alloc|apply Kd.R_drewN|apply Kd.R_drew)); exact HO392.out) hb); have n3_ := Aside0.mk (Kd.R_below (by (with_reducible repeat (first|apply Kd.R_alloc|apply Kd.R_drewN|apply Kd.R_drew)); exact HO395.out) hb); have n4_ := Aside0.mk (Kd.R_below (by (with_reducible repeat (first|apply Kd.R_alloc|apply Kd.R_drewN|apply Kd.R_drew)); exact HO403.out) hb); have n5_ := Aside0.mk (Kd.R_below (by (with_reducible repeat (first|apply Kd.R_alloc|apply Kd.R_drewN|apply Kd.R_drew)); exact HO407.out) hb); have n6_ := Aside0.mk (Kd.R_below (by (with_reducible repeat (first|apply Kd.R_alloc|apply Kd.R_drewN|apply Kd.R_drew)); exact HO412.out) hb); have n7_ := Aside0.mk (Kd.R_below (by (with_reducible repeat (first|apply Kd.R_alloc|apply Kd.R_drewN|apply Kd.R_drew)); exact HO420.out) hb); have n8_ := Aside0.mk (Kd.R_lower ho0 (below_size (by repeat (first|(with_reducible first|exact HB.out|apply below_alloc|apply pw_below_drewN|apply below_drew1 | refine below_set ?_ GE400.out)|exact HB.out)))); have n9_ := Aside0.mk (blk_below (g := gb400) (o := .cells #[.string t396, .string t397, .int .i64 t398, .int .i64 t399] 29 (0, 0)) (by (with_reducible repeat (first|refine blk_drewN ?_ _ | refine blk_drew ?_ | refine blk_alloc ?_ _)); exact BK400.out) hb); have n10_ := Aside0.mk (below_step (by repeat (first|(with_reducible first|exact HB.out|apply below_alloc|apply pw_below_drewN|apply below_drew1 | refine below_set ?_ GE400.out)|exact HB.out)) hb); clear HO384; clear HO388; clear HO392; clear HO395; clear HO403; clear HO407; clear HO412; clear HO420; clear BK400; clear HB; have HO384 := n0_; have HO388 := n1_; have HO392 := n2_; have HO395 := n3_; have HO403 := n4_; have HO407 := n5_; have HO412 := n6_; have HO420 := n7_; have HO424 := n8_; have BK400 := n9_; have HB := n10_; clear n0_ n1_ n2_ n3_ n4_ n5_ n6_ n7_ n8_ n9_ n10_; (try clear hb); (try clear hb2); (try clear hk); (try clear hi); (try clear ho0))|(go_at_call 18; (with_reducible refine (spec_CopiesOf.calls k _ _ t417 t418 t425 t426 _ ?side1 ?side2 A15.out).mono ?_);(case side1 => repeat (first|exact (Kd.R_reads' HO420.out).2.2|(with_reducible refine Kd.C_alloc ?_ _)|(with_reducible refine Kd.C_drewN ?_ _)|(with_reducible refine Kd.C_drew ?_)));(case side2 => exact (Kd.R_reads' HO420.out).2.1); rintro e w35 ⟨v427, rfl, ho0, hb⟩; have n0_ := Aside0.mk (Kd.R_below (by (with_reducible repeat (first|apply Kd.R_alloc|apply Kd.R_drewN|apply Kd.R_drew)); exact HO384.out) hb); have n1_ := Aside0.mk (Kd.R_below (by (with_reducible repeat (first|apply Kd.R_alloc|apply Kd.R_drewN|apply Kd.R_drew)); exact HO388.out) hb); have n2_ := Aside0.mk (Kd.R_below (by (with_reducible repeat (first|apply Kd.R_alloc|apply Kd.R_drewN|apply Kd.R_drew)); exact HO392.out) hb); have n3_ := Aside0.mk (Kd.R_below (by (with_reducible repeat (first|apply Kd.R_alloc|apply Kd.R_drewN|apply Kd.R_drew)); exact HO395.out) hb); have n4_ := Aside0.mk (Kd.R_below (by (with_reducible repeat (first|apply Kd.R_alloc|apply Kd.R_drewN|apply Kd.R_drew)); exact HO403.out) hb); have n5_ := Aside0.mk (Kd.R_below (by (with_reducible repeat (first|apply Kd.R_alloc|apply Kd.R_drewN|apply Kd.R_drew)); exact HO407.out) hb); have n6_ := Aside0.mk (Kd.R_below (by (with_reducible repeat (first|apply Kd.R_alloc|apply Kd.R_drewN|apply Kd.R_drew)); exact HO412.out) hb); have n7_ := Aside0.mk (Kd.R_below (by (with_reducible repeat (first|apply Kd.R_alloc|apply Kd.R_drewN|apply Kd.R_drew)); exact HO420.out) hb); have n8_ := Aside0.mk (Kd.R_below (by (with_reducible repeat (first|apply Kd.R_alloc|apply Kd.R_drewN|apply Kd.R_drew)); exact HO424.out) hb); have n9_ := Aside0.mk (Kd.R_lower ho0 (below_size (by repeat (first|(with_reducible first|exact HB.out|apply below_alloc|apply pw_below_drewN|apply below_drew1 | refine below_set ?_ GE400.out)|exact HB.out)))); have n10_ := Aside0.mk (blk_below (g := gb400) (o := .cells #[.string t396, .string t397, .int .i64 t398, .int .i64 t399] 29 (0, 0)) (by (with_reducible repeat (first|refine blk_drewN ?_ _ | refine blk_drew ?_ | refine blk_alloc ?_ _)); exact BK400.out) hb); have n11_ := Aside0.mk (below_step (by repeat (first|(with_reducible first|exact HB.out|apply below_alloc|apply pw_below_drewN|apply below_drew1 | refine below_set ?_ GE400.out)|exact HB.out)) hb); clear HO384; clear HO388; clear HO392; clear HO395; clear HO403; clear HO407; clear HO412; clear HO420; clear HO424; clear BK400; clear HB; have HO384 := n0_; have HO388 := n1_; have HO392 := n2_; have HO395 := n3_; have HO403 := n4_; have HO407 := n5_; have HO412 := n6_; have HO420 := n7_; have HO424 := n8_; have HO428 := n9_; have BK400 := n10_; have HB := n11_; clear n0_ n1_ n2_ n3_ n4_ n5_ n6_ n7_ n8_ n9_ n10_ n11_; (try clear hb); (try clear hb2); (try clear hk); (try clear hi); (try clear ho0))); try go_quiet (fail))
  (try simp only [Act.put, List.setIfInBounds_toArray, List.set_cons_zero, List.set_cons_succ])
  go_cut [155] (fun v155 wc => ∃ (kq : Nat) (x155_15 : Bool), v155 = .bool x155_15 ∧ Aside0 (laws_FnRolls.j0 kq t381 t382 t385 t386 t389 t393 t401 t404 t409 t410 t414 t415 x155_15 t396 t397 t398 t399 = some r) ∧ Aside0 (kq ≤ k) ∧ Aside0 (Kd.R k29 29 wc w.heap.size (fun k_ => k_ ≠ gb400) (.slice Ao18 t381.length co18) t381) ∧ Aside0 (Kd.R k29 29 wc w.heap.size (fun k_ => k_ ≠ gb400) v387 t385) ∧ Aside0 (Kd.R k29 29 wc w.heap.size (fun k_ => k_ ≠ gb400) v391 t389) ∧ Aside0 (Kd.R k29 29 wc w.heap.size (fun k_ => k_ ≠ gb400) (.slice Ao24 t393.length co24) t393) ∧ Aside0 (Kd.R k29 29 wc w.heap.size (fun k_ => k_ ≠ gb400) v402 t401) ∧ Aside0 (Kd.R k29 29 wc w.heap.size (fun k_ => k_ ≠ gb400) (.slice Ao29 t409.length co29) t409) ∧ Aside0 (wc.heap[gb400]? = some (.cells #[.string t396, .string t397, .int .i64 t398, .int .i64 t399] 29 (0, 0))) ∧ Aside0 (Below w.heap.size w wc))
  case first =>
   as_aux_lemma =>
    have H := HC16.out
    clear HC16
    by_cases c36 : (t386 != t390) = true
    ·rw [if_pos c36] at H
     have c36b0 : (t386 != t390) = true := c36
     (try (have c36b1 : decide (t386 = t390) = false := by simpa using c36))
     (try (have c36b2 : (t386 == t390) = false := by simpa using c36))
     (try (have c36b3 : ¬ (t386 = t390) := by simpa using c36))
     clear c36
     (first|rw [c36b0]|(simp only [i64_w, i32_w]; rw [c36b0]) | skip)
     have H' := Aside0.mk H
     clear H
     go_wp2
     repeat (go_quiet (fail); try go_wp2)
     all_goals
      go_meet
      case rel => exact ⟨_, (true), (by first | rfl|(simp;done)|(simp [*];done)), H', ⟨by first | omega|exact Nat.le_refl _⟩, ⟨by (with_reducible repeat (first|apply Kd.R_alloc|apply Kd.R_drewN|apply Kd.R_drew)); exact Kd.R_mono HO384.out (fun _ hk => hk.2)⟩, ⟨by (with_reducible repeat (first|apply Kd.R_alloc|apply Kd.R_drewN|apply Kd.R_drew)); exact Kd.R_mono HO388.out (fun _ hk => hk.2)⟩, ⟨by (with_reducible repeat (first|apply Kd.R_alloc|apply Kd.R_drewN|apply Kd.R_drew)); exact Kd.R_mono HO392.out (fun _ hk => hk.2)⟩, ⟨by (with_reducible repeat (first|apply Kd.R_alloc|apply Kd.R_drewN|apply Kd.R_drew)); exact Kd.R_mono HO395.out (fun _ hk => hk.2)⟩, ⟨by (with_reducible repeat (first|apply Kd.R_alloc|apply Kd.R_drewN|apply Kd.R_drew)); exact Kd.R_mono HO403.out (fun _ hk => hk.2)⟩, ⟨by (with_reducible repeat (first|apply Kd.R_alloc|apply Kd.R_drewN|apply Kd.R_drew)); exact Kd.R_mono HO412.out (fun _ hk => hk.2)⟩, ⟨by (with_reducible repeat (first|refine blk_drewN ?_ _ | refine blk_drew ?_ | refine blk_alloc ?_ _)); exact BK400.out⟩, ⟨by repeat (first|(with_reducible first|exact HB.out|apply below_alloc|apply pw_below_drewN|apply below_drew1 | refine below_set ?_ GE400.out)|exact HB.out)⟩⟩
    ·rw [if_neg c36] at H
     have c36b0 : (t386 != t390) = false := by simpa using c36
     (try (have c36b1 : decide (t386 = t390) = true := by simpa using c36))
     (try (have c36b2 : (t386 == t390) = true := by simpa using c36))
     clear c36
     (first|rw [c36b0]|(simp only [i64_w, i32_w]; rw [c36b0]) | skip)
     replace H := Option.bind_eq_some_iff.mp H
     obtain ⟨t429, A370, H⟩ := H
     try dsimp only at H
     have A37 := Aside0.mk A370
     clear A370
     by_cases c38 : t429 = true
     ·subst c38
      have H1 : (if (t404 != t408) = true then (laws_FnRolls.j0 k t381 t382 t385 t386 t389 t393 t401 t404 t409 t410 t414 t415 true t396 t397 t398 t399) else ((laws_qRolls.f k t401 t405).bind fun t430 => (if t430 = true then (if (t414 != t416) = true then (laws_FnRolls.j0 k t381 t382 t385 t386 t389 t393 t401 t404 t409 t410 t414 t415 true t396 t397 t398 t399) else (if t413 = t415 then (if (t422 != t426) = true then (laws_FnRolls.j0 k t381 t382 t385 t386 t389 t393 t401 t404 t409 t410 t414 t415 true t396 t397 t398 t399) else ((laws_qInts.f k t421 t425).bind fun t431 => (laws_FnRolls.j0 k t381 t382 t385 t386 t389 t393 t401 t404 t409 t410 t414 t415 (!t431) t396 t397 t398 t399))) else (laws_FnRolls.j0 k t381 t382 t385 t386 t389 t393 t401 t404 t409 t410 t414 t415 true t396 t397 t398 t399))) else (laws_FnRolls.j0 k t381 t382 t385 t386 t389 t393 t401 t404 t409 t410 t414 t415 true t396 t397 t398 t399)))) = some r := by rw [if_pos rfl] at H; exact H
      clear H
      have H := H1
      clear H1
      by_cases c39 : (t404 != t408) = true
      ·rw [if_pos c39] at H
       have c39b0 : (t404 != t408) = true := c39
       (try (have c39b1 : decide (t404 = t408) = false := by simpa using c39))
       (try (have c39b2 : (t404 == t408) = false := by simpa using c39))
       (try (have c39b3 : ¬ (t404 = t408) := by simpa using c39))
       clear c39
       have H' := Aside0.mk H
       clear H
       obtain ⟨Ao40, co40, eo40⟩ := Kd.R_slice HO388.out
       subst eo40
       obtain ⟨Ao41, co41, eo41⟩ := Kd.R_slice HO392.out
       subst eo41
       iterate 6 (go_wp2_with (first|(go_at_call 19; (with_reducible refine (laws_qRolls.calls k _ _ t385 _ _ t389 true _ ?side1 ?side2 ?side3 ?side4 A37.out).mono ?_);(case side1 => repeat (first|exact (Kd.R_reads' HO388.out).2.2|(with_reducible refine Kd.C_alloc ?_ _)|(with_reducible refine Kd.C_drewN ?_ _)|(with_reducible refine Kd.C_drew ?_)));(case side2 => exact (Kd.R_reads' HO388.out).2.1);(case side3 => repeat (first|exact (Kd.R_reads' HO392.out).2.2|(with_reducible refine Kd.C_alloc ?_ _)|(with_reducible refine Kd.C_drewN ?_ _)|(with_reducible refine Kd.C_drew ?_)));(case side4 => exact (Kd.R_reads' HO392.out).2.1); rintro e w' ⟨rfl, ⟨nd, rfl⟩⟩; (try first|exact ⟨rfl, _, World.drewN_drewN _ _ _⟩|exact ⟨rfl, _, Eq.trans (World.drewN_drewN _ _ _) (congrArg (World.drewN _) (Nat.add_assoc _ _ _))⟩))); try go_quiet (first|(go_at_call 19; (with_reducible refine (laws_qRolls.calls k _ _ t385 _ _ t389 true _ ?side1 ?side2 ?side3 ?side4 A37.out).mono ?_);(case side1 => repeat (first|exact (Kd.R_reads' HO388.out).2.2|(with_reducible refine Kd.C_alloc ?_ _)|(with_reducible refine Kd.C_drewN ?_ _)|(with_reducible refine Kd.C_drew ?_)));(case side2 => exact (Kd.R_reads' HO388.out).2.1);(case side3 => repeat (first|exact (Kd.R_reads' HO392.out).2.2|(with_reducible refine Kd.C_alloc ?_ _)|(with_reducible refine Kd.C_drewN ?_ _)|(with_reducible refine Kd.C_drew ?_)));(case side4 => exact (Kd.R_reads' HO392.out).2.1); rintro e w' ⟨rfl, ⟨nd, rfl⟩⟩; (try first|exact ⟨rfl, _, World.drewN_drewN _ _ _⟩|exact ⟨rfl, _, Eq.trans (World.drewN_drewN _ _ _) (congrArg (World.drewN _) (Nat.add_assoc _ _ _))⟩))))
       all_goals
        go_meet
        case rel => exact ⟨_, (true), (by first | rfl|(simp;done)|(simp [*];done)), H', ⟨by first | omega|exact Nat.le_refl _⟩, ⟨by (with_reducible repeat (first|apply Kd.R_alloc|apply Kd.R_drewN|apply Kd.R_drew)); exact Kd.R_mono HO384.out (fun _ hk => hk.2)⟩, ⟨by (with_reducible repeat (first|apply Kd.R_alloc|apply Kd.R_drewN|apply Kd.R_drew)); exact Kd.R_mono HO388.out (fun _ hk => hk.2)⟩, ⟨by (with_reducible repeat (first|apply Kd.R_alloc|apply Kd.R_drewN|apply Kd.R_drew)); exact Kd.R_mono HO392.out (fun _ hk => hk.2)⟩, ⟨by (with_reducible repeat (first|apply Kd.R_alloc|apply Kd.R_drewN|apply Kd.R_drew)); exact Kd.R_mono HO395.out (fun _ hk => hk.2)⟩, ⟨by (with_reducible repeat (first|apply Kd.R_alloc|apply Kd.R_drewN|apply Kd.R_drew)); exact Kd.R_mono HO403.out (fun _ hk => hk.2)⟩, ⟨by (with_reducible repeat (first|apply Kd.R_alloc|apply Kd.R_drewN|apply Kd.R_drew)); exact Kd.R_mono HO412.out (fun _ hk => hk.2)⟩, ⟨by (with_reducible repeat (first|refine blk_drewN ?_ _ | refine blk_drew ?_ | refine blk_alloc ?_ _)); exact BK400.out⟩, ⟨by repeat (first|(with_reducible first|exact HB.out|apply below_alloc|apply pw_below_drewN|apply below_drew1 | refine below_set ?_ GE400.out)|exact HB.out)⟩⟩
      ·rw [if_neg c39] at H
       have c39b0 : (t404 != t408) = false := by simpa using c39
       (try (have c39b1 : decide (t404 = t408) = true := by simpa using c39))
       (try (have c39b2 : (t404 == t408) = true := by simpa using c39))
       clear c39
       replace H := Option.bind_eq_some_iff.mp H
       obtain ⟨t430, A420, H⟩ := H
       try dsimp only at H
       have A42 := Aside0.mk A420
       clear A420
       by_cases c43 : t430 = true
       ·subst c43
        have H1 : (if (t414 != t416) = true then (laws_FnRolls.j0 k t381 t382 t385 t386 t389 t393 t401 t404 t409 t410 t414 t415 true t396 t397 t398 t399) else (if t413 = t415 then (if (t422 != t426) = true then (laws_FnRolls.j0 k t381 t382 t385 t386 t389 t393 t401 t404 t409 t410 t414 t415 true t396 t397 t398 t399) else ((laws_qInts.f k t421 t425).bind fun t431 => (laws_FnRolls.j0 k t381 t382 t385 t386 t389 t393 t401 t404 t409 t410 t414 t415 (!t431) t396 t397 t398 t399))) else (laws_FnRolls.j0 k t381 t382 t385 t386 t389 t393 t401 t404 t409 t410 t414 t415 true t396 t397 t398 t399))) = some r := by rw [if_pos rfl] at H; exact H
        clear H
        have H := H1
        clear H1
        by_cases c44 : (t414 != t416) = true
        ·rw [if_pos c44] at H
         have c44b0 : (t414 != t416) = true := c44
         (try (have c44b1 : decide (t414 = t416) = false := by simpa using c44))
         (try (have c44b2 : (t414 == t416) = false := by simpa using c44))
         (try (have c44b3 : ¬ (t414 = t416) := by simpa using c44))
         clear c44
         have H' := Aside0.mk H
         clear H
         obtain ⟨Ao45, co45, eo45⟩ := Kd.R_slice HO388.out
         subst eo45
         obtain ⟨Ao46, co46, eo46⟩ := Kd.R_slice HO392.out
         subst eo46
         iterate 6 (go_wp2_with (first|(go_at_call 19; (with_reducible refine (laws_qRolls.calls k _ _ t385 _ _ t389 true _ ?side1 ?side2 ?side3 ?side4 A37.out).mono ?_);(case side1 => repeat (first|exact (Kd.R_reads' HO388.out).2.2|(with_reducible refine Kd.C_alloc ?_ _)|(with_reducible refine Kd.C_drewN ?_ _)|(with_reducible refine Kd.C_drew ?_)));(case side2 => exact (Kd.R_reads' HO388.out).2.1);(case side3 => repeat (first|exact (Kd.R_reads' HO392.out).2.2|(with_reducible refine Kd.C_alloc ?_ _)|(with_reducible refine Kd.C_drewN ?_ _)|(with_reducible refine Kd.C_drew ?_)));(case side4 => exact (Kd.R_reads' HO392.out).2.1); rintro e w' ⟨rfl, ⟨nd, rfl⟩⟩; (try first|exact ⟨rfl, _, World.drewN_drewN _ _ _⟩|exact ⟨rfl, _, Eq.trans (World.drewN_drewN _ _ _) (congrArg (World.drewN _) (Nat.add_assoc _ _ _))⟩); obtain ⟨Ao47, co47, eo47⟩ := Kd.R_slice HO403.out; subst eo47; obtain ⟨Ao48, co48, eo48⟩ := Kd.R_slice HO407.out; subst eo48)|(go_at_call 19; (with_reducible refine (laws_qRolls.calls k _ _ t401 _ _ t405 true _ ?side1 ?side2 ?side3 ?side4 A42.out).mono ?_);(case side1 => repeat (first|exact (Kd.R_reads' HO403.out).2.2|(with_reducible refine Kd.C_alloc ?_ _)|(with_reducible refine Kd.C_drewN ?_ _)|(with_reducible refine Kd.C_drew ?_)));(case side2 => exact (Kd.R_reads' HO403.out).2.1);(case side3 => repeat (first|exact (Kd.R_reads' HO407.out).2.2|(with_reducible refine Kd.C_alloc ?_ _)|(with_reducible refine Kd.C_drewN ?_ _)|(with_reducible refine Kd.C_drew ?_)));(case side4 => exact (Kd.R_reads' HO407.out).2.1); rintro e w' ⟨rfl, ⟨nd, rfl⟩⟩; (try first|exact ⟨rfl, _, World.drewN_drewN _ _ _⟩|exact ⟨rfl, _, Eq.trans (World.drewN_drewN _ _ _) (congrArg (World.drewN _) (Nat.add_assoc _ _ _))⟩))); try go_quiet (first|(go_at_call 19; (with_reducible refine (laws_qRolls.calls k _ _ t385 _ _ t389 true _ ?side1 ?side2 ?side3 ?side4 A37.out).mono ?_);(case side1 => repeat (first|exact (Kd.R_reads' HO388.out).2.2|(with_reducible refine Kd.C_alloc ?_ _)|(with_reducible refine Kd.C_drewN ?_ _)|(with_reducible refine Kd.C_drew ?_)));(case side2 => exact (Kd.R_reads' HO388.out).2.1);(case side3 => repeat (first|exact (Kd.R_reads' HO392.out).2.2|(with_reducible refine Kd.C_alloc ?_ _)|(with_reducible refine Kd.C_drewN ?_ _)|(with_reducible refine Kd.C_drew ?_)));(case side4 => exact (Kd.R_reads' HO392.out).2.1); rintro e w' ⟨rfl, ⟨nd, rfl⟩⟩; (try first|exact ⟨rfl, _, World.drewN_drewN _ _ _⟩|exact ⟨rfl, _, Eq.trans (World.drewN_drewN _ _ _) (congrArg (World.drewN _) (Nat.add_assoc _ _ _))⟩); obtain ⟨Ao47, co47, eo47⟩ := Kd.R_slice HO403.out; subst eo47; obtain ⟨Ao48, co48, eo48⟩ := Kd.R_slice HO407.out; subst eo48)|(go_at_call 19; (with_reducible refine (laws_qRolls.calls k _ _ t401 _ _ t405 true _ ?side1 ?side2 ?side3 ?side4 A42.out).mono ?_);(case side1 => repeat (first|exact (Kd.R_reads' HO403.out).2.2|(with_reducible refine Kd.C_alloc ?_ _)|(with_reducible refine Kd.C_drewN ?_ _)|(with_reducible refine Kd.C_drew ?_)));(case side2 => exact (Kd.R_reads' HO403.out).2.1);(case side3 => repeat (first|exact (Kd.R_reads' HO407.out).2.2|(with_reducible refine Kd.C_alloc ?_ _)|(with_reducible refine Kd.C_drewN ?_ _)|(with_reducible refine Kd.C_drew ?_)));(case side4 => exact (Kd.R_reads' HO407.out).2.1); rintro e w' ⟨rfl, ⟨nd, rfl⟩⟩; (try first|exact ⟨rfl, _, World.drewN_drewN _ _ _⟩|exact ⟨rfl, _, Eq.trans (World.drewN_drewN _ _ _) (congrArg (World.drewN _) (Nat.add_assoc _ _ _))⟩))))
         all_goals
          go_meet
          case rel => exact ⟨_, (true), (by first | rfl|(simp;done)|(simp [*];done)), H', ⟨by first | omega|exact Nat.le_refl _⟩, ⟨by (with_reducible repeat (first|apply Kd.R_alloc|apply Kd.R_drewN|apply Kd.R_drew)); exact Kd.R_mono HO384.out (fun _ hk => hk.2)⟩, ⟨by (with_reducible repeat (first|apply Kd.R_alloc|apply Kd.R_drewN|apply Kd.R_drew)); exact Kd.R_mono HO388.out (fun _ hk => hk.2)⟩, ⟨by (with_reducible repeat (first|apply Kd.R_alloc|apply Kd.R_drewN|apply Kd.R_drew)); exact Kd.R_mono HO392.out (fun _ hk => hk.2)⟩, ⟨by (with_reducible repeat (first|apply Kd.R_alloc|apply Kd.R_drewN|apply Kd.R_drew)); exact Kd.R_mono HO395.out (fun _ hk => hk.2)⟩, ⟨by (with_reducible repeat (first|apply Kd.R_alloc|apply Kd.R_drewN|apply Kd.R_drew)); exact Kd.R_mono HO403.out (fun _ hk => hk.2)⟩, ⟨by (with_reducible repeat (first|apply Kd.R_alloc|apply Kd.R_drewN|apply Kd.R_drew)); exact Kd.R_mono HO412.out (fun _ hk => hk.2)⟩, ⟨by (with_reducible repeat (first|refine blk_drewN ?_ _ | refine blk_drew ?_ | refine blk_alloc ?_ _)); exact BK400.out⟩, ⟨by repeat (first|(with_reducible first|exact HB.out|apply below_alloc|apply pw_below_drewN|apply below_drew1 | refine below_set ?_ GE400.out)|exact HB.out)⟩⟩
        ·rw [if_neg c44] at H
         have c44b0 : (t414 != t416) = false := by simpa using c44
         (try (have c44b1 : decide (t414 = t416) = true := by simpa using c44))
         (try (have c44b2 : (t414 == t416) = true := by simpa using c44))
         clear c44
         by_cases c49 : t413 = t415
         ·rw [if_pos c49] at H
          have c49b0 : (t413 == t415) = true := beq_iff_eq.mpr c49
          have c49b1 : (t413 != t415) = false := bne_eq_false_iff_eq.mpr c49
          clear c49
          by_cases c50 : (t422 != t426) = true
          ·rw [if_pos c50] at H
           have c50b0 : (t422 != t426) = true := c50
           (try (have c50b1 : decide (t422 = t426) = false := by simpa using c50))
           (try (have c50b2 : (t422 == t426) = false := by simpa using c50))
           (try (have c50b3 : ¬ (t422 = t426) := by simpa using c50))
           clear c50
           have H' := Aside0.mk H
           clear H
           obtain ⟨Ao51, co51, eo51⟩ := Kd.R_slice HO388.out
           subst eo51
           obtain ⟨Ao52, co52, eo52⟩ := Kd.R_slice HO392.out
           subst eo52
           iterate 6 (go_wp2_with (first|(go_at_call 19; (with_reducible refine (laws_qRolls.calls k _ _ t385 _ _ t389 true _ ?side1 ?side2 ?side3 ?side4 A37.out).mono ?_);(case side1 => repeat (first|exact (Kd.R_reads' HO388.out).2.2|(with_reducible refine Kd.C_alloc ?_ _)|(with_reducible refine Kd.C_drewN ?_ _)|(with_reducible refine Kd.C_drew ?_)));(case side2 => exact (Kd.R_reads' HO388.out).2.1);(case side3 => repeat (first|exact (Kd.R_reads' HO392.out).2.2|(with_reducible refine Kd.C_alloc ?_ _)|(with_reducible refine Kd.C_drewN ?_ _)|(with_reducible refine Kd.C_drew ?_)));(case side4 => exact (Kd.R_reads' HO392.out).2.1); rintro e w' ⟨rfl, ⟨nd, rfl⟩⟩; (try first|exact ⟨rfl, _, World.drewN_drewN _ _ _⟩|exact ⟨rfl, _, Eq.trans (World.drewN_drewN _ _ _) (congrArg (World.drewN _) (Nat.add_assoc _ _ _))⟩); obtain ⟨Ao53, co53, eo53⟩ := Kd.R_slice HO403.out; subst eo53; obtain ⟨Ao54, co54, eo54⟩ := Kd.R_slice HO407.out; subst eo54)|(go_at_call 19; (with_reducible refine (laws_qRolls.calls k _ _ t401 _ _ t405 true _ ?side1 ?side2 ?side3 ?side4 A42.out).mono ?_);(case side1 => repeat (first|exact (Kd.R_reads' HO403.out).2.2|(with_reducible refine Kd.C_alloc ?_ _)|(with_reducible refine Kd.C_drewN ?_ _)|(with_reducible refine Kd.C_drew ?_)));(case side2 => exact (Kd.R_reads' HO403.out).2.1);(case side3 => repeat (first|exact (Kd.R_reads' HO407.out).2.2|(with_reducible refine Kd.C_alloc ?_ _)|(with_reducible refine Kd.C_drewN ?_ _)|(with_reducible refine Kd.C_drew ?_)));(case side4 => exact (Kd.R_reads' HO407.out).2.1); rintro e w' ⟨rfl, ⟨nd, rfl⟩⟩; (try first|exact ⟨rfl, _, World.drewN_drewN _ _ _⟩|exact ⟨rfl, _, Eq.trans (World.drewN_drewN _ _ _) (congrArg (World.drewN _) (Nat.add_assoc _ _ _))⟩))); try go_quiet (first|(go_at_call 19; (with_reducible refine (laws_qRolls.calls k _ _ t385 _ _ t389 true _ ?side1 ?side2 ?side3 ?side4 A37.out).mono ?_);(case side1 => repeat (first|exact (Kd.R_reads' HO388.out).2.2|(with_reducible refine Kd.C_alloc ?_ _)|(with_reducible refine Kd.C_drewN ?_ _)|(with_reducible refine Kd.C_drew ?_)));(case side2 => exact (Kd.R_reads' HO388.out).2.1);(case side3 => repeat (first|exact (Kd.R_reads' HO392.out).2.2|(with_reducible refine Kd.C_alloc ?_ _)|(with_reducible refine Kd.C_drewN ?_ _)|(with_reducible refine Kd.C_drew ?_)));(case side4 => exact (Kd.R_reads' HO392.out).2.1); rintro e w' ⟨rfl, ⟨nd, rfl⟩⟩; (try first|exact ⟨rfl, _, World.drewN_drewN _ _ _⟩|exact ⟨rfl, _, Eq.trans (World.drewN_drewN _ _ _) (congrArg (World.drewN _) (Nat.add_assoc _ _ _))⟩); obtain ⟨Ao53, co53, eo53⟩ := Kd.R_slice HO403.out; subst eo53; obtain ⟨Ao54, co54, eo54⟩ := Kd.R_slice HO407.out; subst eo54)|(go_at_call 19; (with_reducible refine (laws_qRolls.calls k _ _ t401 _ _ t405 true _ ?side1 ?side2 ?side3 ?side4 A42.out).mono ?_);(case side1 => repeat (first|exact (Kd.R_reads' HO403.out).2.2|(with_reducible refine Kd.C_alloc ?_ _)|(with_reducible refine Kd.C_drewN ?_ _)|(with_reducible refine Kd.C_drew ?_)));(case side2 => exact (Kd.R_reads' HO403.out).2.1);(case side3 => repeat (first|exact (Kd.R_reads' HO407.out).2.2|(with_reducible refine Kd.C_alloc ?_ _)|(with_reducible refine Kd.C_drewN ?_ _)|(with_reducible refine Kd.C_drew ?_)));(case side4 => exact (Kd.R_reads' HO407.out).2.1); rintro e w' ⟨rfl, ⟨nd, rfl⟩⟩; (try first|exact ⟨rfl, _, World.drewN_drewN _ _ _⟩|exact ⟨rfl, _, Eq.trans (World.drewN_drewN _ _ _) (congrArg (World.drewN _) (Nat.add_assoc _ _ _))⟩))))
           all_goals
            go_meet
            case rel => exact ⟨_, (true), (by first | rfl|(simp;done)|(simp [*];done)), H', ⟨by first | omega|exact Nat.le_refl _⟩, ⟨by (with_reducible repeat (first|apply Kd.R_alloc|apply Kd.R_drewN|apply Kd.R_drew)); exact Kd.R_mono HO384.out (fun _ hk => hk.2)⟩, ⟨by (with_reducible repeat (first|apply Kd.R_alloc|apply Kd.R_drewN|apply Kd.R_drew)); exact Kd.R_mono HO388.out (fun _ hk => hk.2)⟩, ⟨by (with_reducible repeat (first|apply Kd.R_alloc|apply Kd.R_drewN|apply Kd.R_drew)); exact Kd.R_mono HO392.out (fun _ hk => hk.2)⟩, ⟨by (with_reducible repeat (first|apply Kd.R_alloc|apply Kd.R_drewN|apply Kd.R_drew)); exact Kd.R_mono HO395.out (fun _ hk => hk.2)⟩, ⟨by (with_reducible repeat (first|apply Kd.R_alloc|apply Kd.R_drewN|apply Kd.R_drew)); exact Kd.R_mono HO403.out (fun _ hk => hk.2)⟩, ⟨by (with_reducible repeat (first|apply Kd.R_alloc|apply Kd.R_drewN|apply Kd.R_drew)); exact Kd.R_mono HO412.out (fun _ hk => hk.2)⟩, ⟨by (with_reducible repeat (first|refine blk_drewN ?_ _ | refine blk_drew ?_ | refine blk_alloc ?_ _)); exact BK400.out⟩, ⟨by repeat (first|(with_reducible first|exact HB.out|apply below_alloc|apply pw_below_drewN|apply below_drew1 | refine below_set ?_ GE400.out)|exact HB.out)⟩⟩
          ·rw [if_neg c50] at H
           have c50b0 : (t422 != t426) = false := by simpa using c50
           (try (have c50b1 : decide (t422 = t426) = true := by simpa using c50))
           (try (have c50b2 : (t422 == t426) = true := by simpa using c50))
           clear c50
           replace H := Option.bind_eq_some_iff.mp H
           obtain ⟨t431, A550, H⟩ := H
           try dsimp only at H
           have A55 := Aside0.mk A550
           clear A550
           have H' := Aside0.mk H
           clear H
           obtain ⟨Ao56, co56, eo56⟩ := Kd.R_slice HO388.out
           subst eo56
           obtain ⟨Ao57, co57, eo57⟩ := Kd.R_slice HO392.out
           subst eo57
           iterate 6 (go_wp2_with (first|(go_at_call 19; (with_reducible refine (laws_qRolls.calls k _ _ t385 _ _ t389 true _ ?side1 ?side2 ?side3 ?side4 A37.out).mono ?_);(case side1 => repeat (first|exact (Kd.R_reads' HO388.out).2.2|(with_reducible refine Kd.C_alloc ?_ _)|(with_reducible refine Kd.C_drewN ?_ _)|(with_reducible refine Kd.C_drew ?_)));(case side2 => exact (Kd.R_reads' HO388.out).2.1);(case side3 => repeat (first|exact (Kd.R_reads' HO392.out).2.2|(with_reducible refine Kd.C_alloc ?_ _)|(with_reducible refine Kd.C_drewN ?_ _)|(with_reducible refine Kd.C_drew ?_)));(case side4 => exact (Kd.R_reads' HO392.out).2.1); rintro e w' ⟨rfl, ⟨nd, rfl⟩⟩; (try first|exact ⟨rfl, _, World.drewN_drewN _ _ _⟩|exact ⟨rfl, _, Eq.trans (World.drewN_drewN _ _ _) (congrArg (World.drewN _) (Nat.add_assoc _ _ _))⟩); obtain ⟨Ao58, co58, eo58⟩ := Kd.R_slice HO403.out; subst eo58; obtain ⟨Ao59, co59, eo59⟩ := Kd.R_slice HO407.out; subst eo59)|(go_at_call 19; (with_reducible refine (laws_qRolls.calls k _ _ t401 _ _ t405 true _ ?side1 ?side2 ?side3 ?side4 A42.out).mono ?_);(case side1 => repeat (first|exact (Kd.R_reads' HO403.out).2.2|(with_reducible refine Kd.C_alloc ?_ _)|(with_reducible refine Kd.C_drewN ?_ _)|(with_reducible refine Kd.C_drew ?_)));(case side2 => exact (Kd.R_reads' HO403.out).2.1);(case side3 => repeat (first|exact (Kd.R_reads' HO407.out).2.2|(with_reducible refine Kd.C_alloc ?_ _)|(with_reducible refine Kd.C_drewN ?_ _)|(with_reducible refine Kd.C_drew ?_)));(case side4 => exact (Kd.R_reads' HO407.out).2.1); rintro e w' ⟨rfl, ⟨nd, rfl⟩⟩; (try first|exact ⟨rfl, _, World.drewN_drewN _ _ _⟩|exact ⟨rfl, _, Eq.trans (World.drewN_drewN _ _ _) (congrArg (World.drewN _) (Nat.add_assoc _ _ _))⟩); obtain ⟨Ao60, co60, eo60⟩ := Kd.R_slice HO424.out; subst eo60; obtain ⟨Ao61, co61, eo61⟩ := Kd.R_slice HO428.out; subst eo61)|(go_at_call 20; (with_reducible refine (laws_qInts.calls k _ _ t421 _ _ t425 t431 _ ?side1 ?side2 ?side3 ?side4 A55.out).mono ?_);(case side1 => repeat (first|exact (Kd.R_reads' HO424.out).2.2|(with_reducible refine Kd.C_alloc ?_ _)|(with_reducible refine Kd.C_drewN ?_ _)|(with_reducible refine Kd.C_drew ?_)));(case side2 => exact (Kd.R_reads' HO424.out).2.1);(case side3 => repeat (first|exact (Kd.R_reads' HO428.out).2.2|(with_reducible refine Kd.C_alloc ?_ _)|(with_reducible refine Kd.C_drewN ?_ _)|(with_reducible refine Kd.C_drew ?_)));(case side4 => exact (Kd.R_reads' HO428.out).2.1); rintro e w' ⟨rfl, ⟨nd, rfl⟩⟩; (try first|exact ⟨rfl, _, World.drewN_drewN _ _ _⟩|exact ⟨rfl, _, Eq.trans (World.drewN_drewN _ _ _) (congrArg (World.drewN _) (Nat.add_assoc _ _ _))⟩))); try go_quiet (first|(go_at_call 19; (with_reducible refine (laws_qRolls.calls k _ _ t385 _ _ t389 true _ ?side1 ?side2 ?side3 ?side4 A37.out).mono ?_);(case side1 => repeat (first|exact (Kd.R_reads' HO388.out).2.2|(with_reducible refine Kd.C_alloc ?_ _)|(with_reducible refine Kd.C_drewN ?_ _)|(with_reducible refine Kd.C_drew ?_)));(case side2 => exact (Kd.R_reads' HO388.out).2.1);(case side3 => repeat (first|exact (Kd.R_reads' HO392.out).2.2|(with_reducible refine Kd.C_alloc ?_ _)|(with_reducible refine Kd.C_drewN ?_ _)|(with_reducible refine Kd.C_drew ?_)));(case side4 => exact (Kd.R_reads' HO392.out).2.1); rintro e w' ⟨rfl, ⟨nd, rfl⟩⟩; (try first|exact ⟨rfl, _, World.drewN_drewN _ _ _⟩|exact ⟨rfl, _, Eq.trans (World.drewN_drewN _ _ _) (congrArg (World.drewN _) (Nat.add_assoc _ _ _))⟩); obtain ⟨Ao58, co58, eo58⟩ := Kd.R_slice HO403.out; subst eo58; obtain ⟨Ao59, co59, eo59⟩ := Kd.R_slice HO407.out; subst eo59)|(go_at_call 19; (with_reducible refine (laws_qRolls.calls k _ _ t401 _ _ t405 true _ ?side1 ?side2 ?side3 ?side4 A42.out).mono ?_);(case side1 => repeat (first|exact (Kd.R_reads' HO403.out).2.2|(with_reducible refine Kd.C_alloc ?_ _)|(with_reducible refine Kd.C_drewN ?_ _)|(with_reducible refine Kd.C_drew ?_)));(case side2 => exact (Kd.R_reads' HO403.out).2.1);(case side3 => repeat (first|exact (Kd.R_reads' HO407.out).2.2|(with_reducible refine Kd.C_alloc ?_ _)|(with_reducible refine Kd.C_drewN ?_ _)|(with_reducible refine Kd.C_drew ?_)));(case side4 => exact (Kd.R_reads' HO407.out).2.1); rintro e w' ⟨rfl, ⟨nd, rfl⟩⟩; (try first|exact ⟨rfl, _, World.drewN_drewN _ _ _⟩|exact ⟨rfl, _, Eq.trans (World.drewN_drewN _ _ _) (congrArg (World.drewN _) (Nat.add_assoc _ _ _))⟩); obtain ⟨Ao60, co60, eo60⟩ := Kd.R_slice HO424.out; subst eo60; obtain ⟨Ao61, co61, eo61⟩ := Kd.R_slice HO428.out; subst eo61)|(go_at_call 20; (with_reducible refine (laws_qInts.calls k _ _ t421 _ _ t425 t431 _ ?side1 ?side2 ?side3 ?side4 A55.out).mono ?_);(case side1 => repeat (first|exact (Kd.R_reads' HO424.out).2.2|(with_reducible refine Kd.C_alloc ?_ _)|(with_reducible refine Kd.C_drewN ?_ _)|(with_reducible refine Kd.C_drew ?_)));(case side2 => exact (Kd.R_reads' HO424.out).2.1);(case side3 => repeat (first|exact (Kd.R_reads' HO428.out).2.2|(with_reducible refine Kd.C_alloc ?_ _)|(with_reducible refine Kd.C_drewN ?_ _)|(with_reducible refine Kd.C_drew ?_)));(case side4 => exact (Kd.R_reads' HO428.out).2.1); rintro e w' ⟨rfl, ⟨nd, rfl⟩⟩; (try first|exact ⟨rfl, _, World.drewN_drewN _ _ _⟩|exact ⟨rfl, _, Eq.trans (World.drewN_drewN _ _ _) (congrArg (World.drewN _) (Nat.add_assoc _ _ _))⟩))))
           all_goals
            go_meet
            case rel => exact ⟨_, (!t431), (by first | rfl|(simp;done)|(simp [*];done)), H', ⟨by first | omega|exact Nat.le_refl _⟩, ⟨by (with_reducible repeat (first|apply Kd.R_alloc|apply Kd.R_drewN|apply Kd.R_drew)); exact Kd.R_mono HO384.out (fun _ hk => hk.2)⟩, ⟨by (with_reducible repeat (first|apply Kd.R_alloc|apply Kd.R_drewN|apply Kd.R_drew)); exact Kd.R_mono HO388.out (fun _ hk => hk.2)⟩, ⟨by (with_reducible repeat (first|apply Kd.R_alloc|apply Kd.R_drewN|apply Kd.R_drew)); exact Kd.R_mono HO392.out (fun _ hk => hk.2)⟩, ⟨by (with_reducible repeat (first|apply Kd.R_alloc|apply Kd.R_drewN|apply Kd.R_drew)); exact Kd.R_mono HO395.out (fun _ hk => hk.2)⟩, ⟨by (with_reducible repeat (first|apply Kd.R_alloc|apply Kd.R_drewN|apply Kd.R_drew)); exact Kd.R_mono HO403.out (fun _ hk => hk.2)⟩, ⟨by (with_reducible repeat (first|apply Kd.R_alloc|apply Kd.R_drewN|apply Kd.R_drew)); exact Kd.R_mono HO412.out (fun _ hk => hk.2)⟩, ⟨by (with_reducible repeat (first|refine blk_drewN ?_ _ | refine blk_drew ?_ | refine blk_alloc ?_ _)); exact BK400.out⟩, ⟨by repeat (first|(with_reducible first|exact HB.out|apply below_alloc|apply pw_below_drewN|apply below_drew1 | refine below_set ?_ GE400.out)|exact HB.out)⟩⟩
         ·rw [if_neg c49] at H
          have c49b0 : (t413 == t415) = false := beq_eq_false_iff_ne.mpr c49
          have c49b1 : (t413 != t415) = true := bne_iff_ne.mpr c49
          have H' := Aside0.mk H
          clear H
          obtain ⟨Ao62, co62, eo62⟩ := Kd.R_slice HO388.out
          subst eo62
          obtain ⟨Ao63, co63, eo63⟩ := Kd.R_slice HO392.out
          subst eo63
          iterate 6 (go_wp2_with (first|(go_at_call 19; (with_reducible refine (laws_qRolls.calls k _ _ t385 _ _ t389 true _ ?side1 ?side2 ?side3 ?side4 A37.out).mono ?_);(case side1 => repeat (first|exact (Kd.R_reads' HO388.out).2.2|(with_reducible refine Kd.C_alloc ?_ _)|(with_reducible refine Kd.C_drewN ?_ _)|(with_reducible refine Kd.C_drew ?_)));(case side2 => exact (Kd.R_reads' HO388.out).2.1);(case side3 => repeat (first|exact (Kd.R_reads' HO392.out).2.2|(with_reducible refine Kd.C_alloc ?_ _)|(with_reducible refine Kd.C_drewN ?_ _)|(with_reducible refine Kd.C_drew ?_)));(case side4 => exact (Kd.R_reads' HO392.out).2.1); rintro e w' ⟨rfl, ⟨nd, rfl⟩⟩; (try first|exact ⟨rfl, _, World.drewN_drewN _ _ _⟩|exact ⟨rfl, _, Eq.trans (World.drewN_drewN _ _ _) (congrArg (World.drewN _) (Nat.add_assoc _ _ _))⟩); obtain ⟨Ao64, co64, eo64⟩ := Kd.R_slice HO403.out; subst eo64; obtain ⟨Ao65, co65, eo65⟩ := Kd.R_slice HO407.out; subst eo65)|(go_at_call 19; (with_reducible refine (laws_qRolls.calls k _ _ t401 _ _ t405 true _ ?side1 ?side2 ?side3 ?side4 A42.out).mono ?_);(case side1 => repeat (first|exact (Kd.R_reads' HO403.out).2.2|(with_reducible refine Kd.C_alloc ?_ _)|(with_reducible refine Kd.C_drewN ?_ _)|(with_reducible refine Kd.C_drew ?_)));(case side2 => exact (Kd.R_reads' HO403.out).2.1);(case side3 => repeat (first|exact (Kd.R_reads' HO407.out).2.2|(with_reducible refine Kd.C_alloc ?_ _)|(with_reducible refine Kd.C_drewN ?_ _)|(with_reducible refine Kd.C_drew ?_)));(case side4 => exact (Kd.R_reads' HO407.out).2.1); rintro e w' ⟨rfl, ⟨nd, rfl⟩⟩; (try first|exact ⟨rfl, _, World.drewN_drewN _ _ _⟩|exact ⟨rfl, _, Eq.trans (World.drewN_drewN _ _ _) (congrArg (World.drewN _) (Nat.add_assoc _ _ _))⟩))); try go_quiet (first|(go_at_call 19; (with_reducible refine (laws_qRolls.calls k _ _ t385 _ _ t389 true _ ?side1 ?side2 ?side3 ?side4 A37.out).mono ?_);(case side1 => repeat (first|exact (Kd.R_reads' HO388.out).2.2|(with_reducible refine Kd.C_alloc ?_ _)|(with_reducible refine Kd.C_drewN ?_ _)|(with_reducible refine Kd.C_drew ?_)));(case side2 => exact (Kd.R_reads' HO388.out).2.1);(case side3 => repeat (first|exact (Kd.R_reads' HO392.out).2.2|(with_reducible refine Kd.C_alloc ?_ _)|(with_reducible refine Kd.C_drewN ?_ _)|(with_reducible refine Kd.C_drew ?_)));(case side4 => exact (Kd.R_reads' HO392.out).2.1); rintro e w' ⟨rfl, ⟨nd, rfl⟩⟩; (try first|exact ⟨rfl, _, World.drewN_drewN _ _ _⟩|exact ⟨rfl, _, Eq.trans (World.drewN_drewN _ _ _) (congrArg (World.drewN _) (Nat.add_assoc _ _ _))⟩); obtain ⟨Ao64, co64, eo64⟩ := Kd.R_slice HO403.out; subst eo64; obtain ⟨Ao65, co65, eo65⟩ := Kd.R_slice HO407.out; subst eo65)|(go_at_call 19; (with_reducible refine (laws_qRolls.calls k _ _ t401 _ _ t405 true _ ?side1 ?side2 ?side3 ?side4 A42.out).mono ?_);(case side1 => repeat (first|exact (Kd.R_reads' HO403.out).2.2|(with_reducible refine Kd.C_alloc ?_ _)|(with_reducible refine Kd.C_drewN ?_ _)|(with_reducible refine Kd.C_drew ?_)));(case side2 => exact (Kd.R_reads' HO403.out).2.1);(case side3 => repeat (first|exact (Kd.R_reads' HO407.out).2.2|(with_reducible refine Kd.C_alloc ?_ _)|(with_reducible refine Kd.C_drewN ?_ _)|(with_reducible refine Kd.C_drew ?_)));(case side4 => exact (Kd.R_reads' HO407.out).2.1); rintro e w' ⟨rfl, ⟨nd, rfl⟩⟩; (try first|exact ⟨rfl, _, World.drewN_drewN _ _ _⟩|exact ⟨rfl, _, Eq.trans (World.drewN_drewN _ _ _) (congrArg (World.drewN _) (Nat.add_assoc _ _ _))⟩))))
          all_goals
           go_meet
           case rel => exact ⟨_, (true), (by first | rfl|(simp;done)|(simp [*];done)), H', ⟨by first | omega|exact Nat.le_refl _⟩, ⟨by (with_reducible repeat (first|apply Kd.R_alloc|apply Kd.R_drewN|apply Kd.R_drew)); exact Kd.R_mono HO384.out (fun _ hk => hk.2)⟩, ⟨by (with_reducible repeat (first|apply Kd.R_alloc|apply Kd.R_drewN|apply Kd.R_drew)); exact Kd.R_mono HO388.out (fun _ hk => hk.2)⟩, ⟨by (with_reducible repeat (first|apply Kd.R_alloc|apply Kd.R_drewN|apply Kd.R_drew)); exact Kd.R_mono HO392.out (fun _ hk => hk.2)⟩, ⟨by (with_reducible repeat (first|apply Kd.R_alloc|apply Kd.R_drewN|apply Kd.R_drew)); exact Kd.R_mono HO395.out (fun _ hk => hk.2)⟩, ⟨by (with_reducible repeat (first|apply Kd.R_alloc|apply Kd.R_drewN|apply Kd.R_drew)); exact Kd.R_mono HO403.out (fun _ hk => hk.2)⟩, ⟨by (with_reducible repeat (first|apply Kd.R_alloc|apply Kd.R_drewN|apply Kd.R_drew)); exact Kd.R_mono HO412.out (fun _ hk => hk.2)⟩, ⟨by (with_reducible repeat (first|refine blk_drewN ?_ _ | refine blk_drew ?_ | refine blk_alloc ?_ _)); exact BK400.out⟩, ⟨by repeat (first|(with_reducible first|exact HB.out|apply below_alloc|apply pw_below_drewN|apply below_drew1 | refine below_set ?_ GE400.out)|exact HB.out)⟩⟩
       ·replace c43 := Bool.eq_false_iff.mpr c43
        subst c43
        have H1 : (laws_FnRolls.j0 k t381 t382 t385 t386 t389 t393 t401 t404 t409 t410 t414 t415 true t396 t397 t398 t399) = some r := by rw [if_neg (show ¬ (false = true) by decide)] at H; exact H
        clear H
        have H := H1
        clear H1
        have H' := Aside0.mk H
        clear H
        obtain ⟨Ao66, co66, eo66⟩ := Kd.R_slice HO388.out
        subst eo66
        obtain ⟨Ao67, co67, eo67⟩ := Kd.R_slice HO392.out
        subst eo67
        iterate 6 (go_wp2_with (first|(go_at_call 19; (with_reducible refine (laws_qRolls.calls k _ _ t385 _ _ t389 true _ ?side1 ?side2 ?side3 ?side4 A37.out).mono ?_);(case side1 => repeat (first|exact (Kd.R_reads' HO388.out).2.2|(with_reducible refine Kd.C_alloc ?_ _)|(with_reducible refine Kd.C_drewN ?_ _)|(with_reducible refine Kd.C_drew ?_)));(case side2 => exact (Kd.R_reads' HO388.out).2.1);(case side3 => repeat (first|exact (Kd.R_reads' HO392.out).2.2|(with_reducible refine Kd.C_alloc ?_ _)|(with_reducible refine Kd.C_drewN ?_ _)|(with_reducible refine Kd.C_drew ?_)));(case side4 => exact (Kd.R_reads' HO392.out).2.1); rintro e w' ⟨rfl, ⟨nd, rfl⟩⟩; (try first|exact ⟨rfl, _, World.drewN_drewN _ _ _⟩|exact ⟨rfl, _, Eq.trans (World.drewN_drewN _ _ _) (congrArg (World.drewN _) (Nat.add_assoc _ _ _))⟩); obtain ⟨Ao68, co68, eo68⟩ := Kd.R_slice HO403.out; subst eo68; obtain ⟨Ao69, co69, eo69⟩ := Kd.R_slice HO407.out; subst eo69)|(go_at_call 19; (with_reducible refine (laws_qRolls.calls k _ _ t401 _ _ t405 false _ ?side1 ?side2 ?side3 ?side4 A42.out).mono ?_);(case side1 => repeat (first|exact (Kd.R_reads' HO403.out).2.2|(with_reducible refine Kd.C_alloc ?_ _)|(with_reducible refine Kd.C_drewN ?_ _)|(with_reducible refine Kd.C_drew ?_)));(case side2 => exact (Kd.R_reads' HO403.out).2.1);(case side3 => repeat (first|exact (Kd.R_reads' HO407.out).2.2|(with_reducible refine Kd.C_alloc ?_ _)|(with_reducible refine Kd.C_drewN ?_ _)|(with_reducible refine Kd.C_drew ?_)));(case side4 => exact (Kd.R_reads' HO407.out).2.1); rintro e w' ⟨rfl, ⟨nd, rfl⟩⟩; (try first|exact ⟨rfl, _, World.drewN_drewN _ _ _⟩|exact ⟨rfl, _, Eq.trans (World.drewN_drewN _ _ _) (congrArg (World.drewN _) (Nat.add_assoc _ _ _))⟩))); try go_quiet (first|(go_at_call 19; (with_reducible refine (laws_qRolls.calls k _ _ t385 _ _ t389 true _ ?side1 ?side2 ?side3 ?side4 A37.out).mono ?_);(case side1 => repeat (first|exact (Kd.R_reads' HO388.out).2.2|(with_reducible refine Kd.C_alloc ?_ _)|(with_reducible refine Kd.C_drewN ?_ _)|(with_reducible refine Kd.C_drew ?_)));(case side2 => exact (Kd.R_reads' HO388.out).2.1);(case side3 => repeat (first|exact (Kd.R_reads' HO392.out).2.2|(with_reducible refine Kd.C_alloc ?_ _)|(with_reducible refine Kd.C_drewN ?_ _)|(with_reducible refine Kd.C_drew ?_)));(case side4 => exact (Kd.R_reads' HO392.out).2.1); rintro e w' ⟨rfl, ⟨nd, rfl⟩⟩; (try first|exact ⟨rfl, _, World.drewN_drewN _ _ _⟩|exact ⟨rfl, _, Eq.trans (World.drewN_drewN _ _ _) (congrArg (World.drewN _) (Nat.add_assoc _ _ _))⟩); obtain ⟨Ao68, co68, eo68⟩ := Kd.R_slice HO403.out; subst eo68; obtain ⟨Ao69, co69, eo69⟩ := Kd.R_slice HO407.out; subst eo69)|(go_at_call 19; (with_reducible refine (laws_qRolls.calls k _ _ t401 _ _ t405 false _ ?side1 ?side2 ?side3 ?side4 A42.out).mono ?_);(case side1 => repeat (first|exact (Kd.R_reads' HO403.out).2.2|(with_reducible refine Kd.C_alloc ?_ _)|(with_reducible refine Kd.C_drewN ?_ _)|(with_reducible refine Kd.C_drew ?_)));(case side2 => exact (Kd.R_reads' HO403.out).2.1);(case side3 => repeat (first|exact (Kd.R_reads' HO407.out).2.2|(with_reducible refine Kd.C_alloc ?_ _)|(with_reducible refine Kd.C_drewN ?_ _)|(with_reducible refine Kd.C_drew ?_)));(case side4 => exact (Kd.R_reads' HO407.out).2.1); rintro e w' ⟨rfl, ⟨nd, rfl⟩⟩; (try first|exact ⟨rfl, _, World.drewN_drewN _ _ _⟩|exact ⟨rfl, _, Eq.trans (World.drewN_drewN _ _ _) (congrArg (World.drewN _) (Nat.add_assoc _ _ _))⟩))))
        all_goals
         go_meet
         case rel => exact ⟨_, (true), (by first | rfl|(simp;done)|(simp [*];done)), H', ⟨by first | omega|exact Nat.le_refl _⟩, ⟨by (with_reducible repeat (first|apply Kd.R_alloc|apply Kd.R_drewN|apply Kd.R_drew)); exact Kd.R_mono HO384.out (fun _ hk => hk.2)⟩, ⟨by (with_reducible repeat (first|apply Kd.R_alloc|apply Kd.R_drewN|apply Kd.R_drew)); exact Kd.R_mono HO388.out (fun _ hk => hk.2)⟩, ⟨by (with_reducible repeat (first|apply Kd.R_alloc|apply Kd.R_drewN|apply Kd.R_drew)); exact Kd.R_mono HO392.out (fun _ hk => hk.2)⟩, ⟨by (with_reducible repeat (first|apply Kd.R_alloc|apply Kd.R_drewN|apply Kd.R_drew)); exact Kd.R_mono HO395.out (fun _ hk => hk.2)⟩, ⟨by (with_reducible repeat (first|apply Kd.R_alloc|apply Kd.R_drewN|apply Kd.R_drew)); exact Kd.R_mono HO403.out (fun _ hk => hk.2)⟩, ⟨by (with_reducible repeat (first|apply Kd.R_alloc|apply Kd.R_drewN|apply Kd.R_drew)); exact Kd.R_mono HO412.out (fun _ hk => hk.2)⟩, ⟨by (with_reducible repeat (first|refine blk_drewN ?_ _ | refine blk_drew ?_ | refine blk_alloc ?_ _)); exact BK400.out⟩, ⟨by repeat (first|(with_reducible first|exact HB.out|apply below_alloc|apply pw_below_drewN|apply below_drew1 | refine below_set ?_ GE400.out)|exact HB.out)⟩⟩
     ·replace c38 := Bool.eq_false_iff.mpr c38
      subst c38
      have H1 : (laws_FnRolls.j0 k t381 t382 t385 t386 t389 t393 t401 t404 t409 t410 t414 t415 true t396 t397 t398 t399) = some r := by rw [if_neg (show ¬ (false = true) by decide)] at H; exact H
      clear H
      have H := H1
      clear H1
      have H' := Aside0.mk H
      clear H
      obtain ⟨Ao70, co70, eo70⟩ := Kd.R_slice HO388.out
      subst eo70
      obtain ⟨Ao71, co71, eo71⟩ := Kd.R_slice HO392.out
      subst eo71
      iterate 6 (go_wp2_with (first|(go_at_call 19; (with_reducible refine (laws_qRolls.calls k _ _ t385 _ _ t389 false _ ?side1 ?side2 ?side3 ?side4 A37.out).mono ?_);(case side1 => repeat (first|exact (Kd.R_reads' HO388.out).2.2|(with_reducible refine Kd.C_alloc ?_ _)|(with_reducible refine Kd.C_drewN ?_ _)|(with_reducible refine Kd.C_drew ?_)));(case side2 => exact (Kd.R_reads' HO388.out).2.1);(case side3 => repeat (first|exact (Kd.R_reads' HO392.out).2.2|(with_reducible refine Kd.C_alloc ?_ _)|(with_reducible refine Kd.C_drewN ?_ _)|(with_reducible refine Kd.C_drew ?_)));(case side4 => exact (Kd.R_reads' HO392.out).2.1); rintro e w' ⟨rfl, ⟨nd, rfl⟩⟩; (try first|exact ⟨rfl, _, World.drewN_drewN _ _ _⟩|exact ⟨rfl, _, Eq.trans (World.drewN_drewN _ _ _) (congrArg (World.drewN _) (Nat.add_assoc _ _ _))⟩))); try go_quiet (first|(go_at_call 19; (with_reducible refine (laws_qRolls.calls k _ _ t385 _ _ t389 false _ ?side1 ?side2 ?side3 ?side4 A37.out).mono ?_);(case side1 => repeat (first|exact (Kd.R_reads' HO388.out).2.2|(with_reducible refine Kd.C_alloc ?_ _)|(with_reducible refine Kd.C_drewN ?_ _)|(with_reducible refine Kd.C_drew ?_)));(case side2 => exact (Kd.R_reads' HO388.out).2.1);(case side3 => repeat (first|exact (Kd.R_reads' HO392.out).2.2|(with_reducible refine Kd.C_alloc ?_ _)|(with_reducible refine Kd.C_drewN ?_ _)|(with_reducible refine Kd.C_drew ?_)));(case side4 => exact (Kd.R_reads' HO392.out).2.1); rintro e w' ⟨rfl, ⟨nd, rfl⟩⟩; (try first|exact ⟨rfl, _, World.drewN_drewN _ _ _⟩|exact ⟨rfl, _, Eq.trans (World.drewN_drewN _ _ _) (congrArg (World.drewN _) (Nat.add_assoc _ _ _))⟩))))
      all_goals
       go_meet
       case rel => exact ⟨_, (true), (by first | rfl|(simp;done)|(simp [*];done)), H', ⟨by first | omega|exact Nat.le_refl _⟩, ⟨by (with_reducible repeat (first|apply Kd.R_alloc|apply Kd.R_drewN|apply Kd.R_drew)); exact Kd.R_mono HO384.out (fun _ hk => hk.2)⟩, ⟨by (with_reducible repeat (first|apply Kd.R_alloc|apply Kd.R_drewN|apply Kd.R_drew)); exact Kd.R_mono HO388.out (fun _ hk => hk.2)⟩, ⟨by (with_reducible repeat (first|apply Kd.R_alloc|apply Kd.R_drewN|apply Kd.R_drew)); exact Kd.R_mono HO392.out (fun _ hk => hk.2)⟩, ⟨by (with_reducible repeat (first|apply Kd.R_alloc|apply Kd.R_drewN|apply Kd.R_drew)); exact Kd.R_mono HO395.out (fun _ hk => hk.2)⟩, ⟨by (with_reducible repeat (first|apply Kd.R_alloc|apply Kd.R_drewN|apply Kd.R_drew)); exact Kd.R_mono HO403.out (fun _ hk => hk.2)⟩, ⟨by (with_reducible repeat (first|apply Kd.R_alloc|apply Kd.R_drewN|apply Kd.R_drew)); exact Kd.R_mono HO412.out (fun _ hk => hk.2)⟩, ⟨by (with_reducible repeat (first|refine blk_drewN ?_ _ | refine blk_drew ?_ | refine blk_alloc ?_ _)); exact BK400.out⟩, ⟨by repeat (first|(with_reducible first|exact HB.out|apply below_alloc|apply pw_below_drewN|apply below_drew1 | refine below_set ?_ GE400.out)|exact HB.out)⟩⟩
  case rest =>
   as_aux_lemma =>
    clear HC16
    try clear c1
    try clear p2
    try clear c3
    try clear c3b0
    try clear c4
    try clear c5
    try clear p6
    try clear c36
    try clear c36b0
    try clear c36b1
    try clear c36b2
    try clear c38
    try clear c39
    try clear c39b0
    try clear c39b1
    try clear c39b2
    try clear c43
    try clear c44
    try clear c44b0
    try clear c44b1
    try clear c44b2
    try clear c49
    try clear c49b0
    try clear c49b1
    try clear c50
    try clear c50b0
    try clear c50b1
    try clear c50b2
    try clear p64
    try clear hcz23_0
    try clear hcz23_1
    try clear hcz23_2
    try clear hcz23_3
    try clear hcz26_0
    try clear hcz26_1
    try clear hcz26_2
    try clear hcz26_3
    try clear hfz23_0
    try clear hfz23_1
    try clear hfz23_2
    try clear hfz23_3
    try clear hfz26_0
    try clear hfz26_1
    try clear hfz26_2
    try clear hfz26_3
    obtain ⟨kq, x155_15, rfl, HA, HJ15, HO_5, HO_7, HO_9, HO_11, HO_13, HO_17, BK400, HB⟩ := hcut
    cases kq with
    | zero => exact absurd HA.out (by simp [laws_FnRolls.j0])
    | succ kj15 =>
     have H := HA.out
     clear HA
     simp only [laws_FnRolls.j0] at H
     by_cases c72 : x155_15 = true
     ·subst c72
      have H1 : (some false) = some r := by rw [if_pos rfl] at H; exact H
      clear H
      have H := H1
      clear H1
      exact absurd ((Option.some.inj H).trans HR_.out) (by decide)
     ·replace c72 := Bool.eq_false_iff.mpr c72
      subst c72
      have H1 : (if t404 = true then ((impl_FindRoll.f kj15 t401 t396).bind fun bt432 => ((impl_DropRoll.f kj15 t401 (t393.length : Int)).bind fun bt434 => (if bt432.2 = true then (if bt432.1 = (t393.length : Int) then (if bt434.2 = true then ((laws_qRolls.f kj15 bt434.1 t393).bind fun t438 => (if t438 = true then ((impl_IsCatalogue.f kj15 t401).bind fun t439 => (if t439 = true then (laws_FnRolls.j1 kj15 t381 t382 t385 t386 t389 t409 t410 t414 t415) else (some false))) else (some false))) else (some false)) else (some false)) else (some false)))) else (laws_FnRolls.j1 kj15 t381 t382 t385 t386 t389 t409 t410 t414 t415)) = some r := by rw [if_neg (show ¬ (false = true) by decide)] at H; exact H
      clear H
      have H := H1
      clear H1
      have HC73 := Aside0.mk H
      clear H
      go_upto_if 156 with (fail)
      repeat (go_quiet (fail); go_upto_if 156 with (fail))
      go_cut [] (fun wc => ∃ (kq : Nat), Aside0 (laws_FnRolls.j1 kq t381 t382 t385 t386 t389 t409 t410 t414 t415 = some r) ∧ Aside0 (kq ≤ kj15) ∧ Aside0 (Kd.R k29 29 wc w.heap.size (fun k_ => k_ ≠ gb400) (.slice Ao18 t381.length co18) t381) ∧ Aside0 (Kd.R k29 29 wc w.heap.size (fun k_ => k_ ≠ gb400) v387 t385) ∧ Aside0 (Kd.R k29 29 wc w.heap.size (fun k_ => k_ ≠ gb400) v391 t389) ∧ Aside0 (Kd.R k29 29 wc w.heap.size (fun k_ => k_ ≠ gb400) (.slice Ao29 t409.length co29) t409) ∧ Aside0 (wc.heap[gb400]? = some (.cells #[.string t396, .string t397, .int .i64 t398, .int .i64 t399] 29 (0, 0))) ∧ Aside0 (Below w.heap.size w wc))
      case first =>
       as_aux_lemma =>
        have H := HC73.out
        clear HC73
        by_cases c74 : t404 = true
        ·subst c74
         have H1 : ((impl_FindRoll.f kj15 t401 t396).bind fun bt432 => ((impl_DropRoll.f kj15 t401 (t393.length : Int)).bind fun bt434 => (if bt432.2 = true then (if bt432.1 = (t393.length : Int) then (if bt434.2 = true then ((laws_qRolls.f kj15 bt434.1 t393).bind fun t438 => (if t438 = true then ((impl_IsCatalogue.f kj15 t401).bind fun t439 => (if t439 = true then (laws_FnRolls.j1 kj15 t381 t382 t385 t386 t389 t409 t410 t414 t415) else (some false))) else (some false))) else (some false)) else (some false)) else (some false)))) = some r := by rw [if_pos rfl] at H; exact H
         clear H
         have H := H1
         clear H1
         replace H := Option.bind_eq_some_iff.mp H
         obtain ⟨⟨t432, t433⟩, A750, H⟩ := H
         try dsimp only at H
         have A75 := Aside0.mk A750
         clear A750
         replace H := Option.bind_eq_some_iff.mp H
         obtain ⟨⟨t434, t435⟩, A760, H⟩ := H
         try dsimp only at H
         have A76 := Aside0.mk A760
         clear A760
         by_cases c77 : t433 = true
         ·subst c77
          have H1 : (if t432 = (t393.length : Int) then (if t435 = true then ((laws_qRolls.f kj15 t434 t393).bind fun t438 => (if t438 = true then ((impl_IsCatalogue.f kj15 t401).bind fun t439 => (if t439 = true then (laws_FnRolls.j1 kj15 t381 t382 t385 t386 t389 t409 t410 t414 t415) else (some false))) else (some false))) else (some false)) else (some false)) = some r := by rw [if_pos rfl] at H; exact H
          clear H
          have H := H1
          clear H1
          by_cases c78 : t432 = (t393.length : Int)
          ·rw [if_pos c78] at H
           have c78b0 : (t432 == (t393.length : Int)) = true := beq_iff_eq.mpr c78
           have c78b1 : (t432 != (t393.length : Int)) = false := bne_eq_false_iff_eq.mpr c78
           clear c78
           (first|rw [c78b0]|(simp only [i64_w, i32_w]; rw [c78b0]) | skip)
           by_cases c79 : t435 = true
           ·subst c79
            have H1 : ((laws_qRolls.f kj15 t434 t393).bind fun t438 => (if t438 = true then ((impl_IsCatalogue.f kj15 t401).bind fun t439 => (if t439 = true then (laws_FnRolls.j1 kj15 t381 t382 t385 t386 t389 t409 t410 t414 t415) else (some false))) else (some false))) = some r := by rw [if_pos rfl] at H; exact H
            clear H
            have H := H1
            clear H1
            replace H := Option.bind_eq_some_iff.mp H
            obtain ⟨t438, A800, H⟩ := H
            try dsimp only at H
            have A80 := Aside0.mk A800
            clear A800
            by_cases c81 : t438 = true
            ·subst c81
             have H1 : ((impl_IsCatalogue.f kj15 t401).bind fun t439 => (if t439 = true then (laws_FnRolls.j1 kj15 t381 t382 t385 t386 t389 t409 t410 t414 t415) else (some false))) = some r := by rw [if_pos rfl] at H; exact H
             clear H
             have H := H1
             clear H1
             replace H := Option.bind_eq_some_iff.mp H
             obtain ⟨t439, A820, H⟩ := H
             try dsimp only at H
             have A82 := Aside0.mk A820
             clear A820
             by_cases c83 : t439 = true
             ·subst c83
              have H1 : (laws_FnRolls.j1 kj15 t381 t382 t385 t386 t389 t409 t410 t414 t415) = some r := by rw [if_pos rfl] at H; exact H
              clear H
              have H := H1
              clear H1
              have H' := Aside0.mk H
              clear H
              have hcz84_0 : wc.cell? ⟨gb400, 0, none⟩ = some (.string t396) := (blk_cell BK400.out 0).trans rfl
              have hcz84_1 : wc.cell? ⟨gb400, 1, none⟩ = some (.string t397) := (blk_cell BK400.out 1).trans rfl
              have hcz84_2 : wc.cell? ⟨gb400, 2, none⟩ = some (.int .i64 t398) := (blk_cell BK400.out 2).trans rfl
              have hcz84_3 : wc.cell? ⟨gb400, 3, none⟩ = some (.int .i64 t399) := (blk_cell BK400.out 3).trans rfl
              have hfz84_0 := blk_frozen BK400.out 0
              have hfz84_1 := blk_frozen BK400.out 1
              have hfz84_2 := blk_frozen BK400.out 2
              have hfz84_3 := blk_frozen BK400.out 3
              obtain ⟨Ao85, co85, eo85⟩ := Kd.R_slice HO_13.out
              subst eo85
              iterate 6 (go_wp2_with (first|(go_at_call 14; (with_reducible refine (impl_FindRoll.calls kj15 _ _ t401 t396 t432 true _ ?side1 ?side2 A75.out).mono ?_);(case side1 => repeat (first|exact (Kd.R_reads' HO_13.out).2.2|(with_reducible refine Kd.C_alloc ?_ _)|(with_reducible refine Kd.C_drewN ?_ _)|(with_reducible refine Kd.C_drew ?_)));(case side2 => exact (Kd.R_reads' HO_13.out).2.1); rintro e w86 ⟨rfl, hb⟩; have n0_ := Aside0.mk (Kd.R_below (by (with_reducible repeat (first|apply Kd.R_alloc|apply Kd.R_drewN|apply Kd.R_drew)); exact HO_5.out) hb); have n1_ := Aside0.mk (Kd.R_below (by (with_reducible repeat (first|apply Kd.R_alloc|apply Kd.R_drewN|apply Kd.R_drew)); exact HO_7.out) hb); have n2_ := Aside0.mk (Kd.R_below (by (with_reducible repeat (first|apply Kd.R_alloc|apply Kd.R_drewN|apply Kd.R_drew)); exact HO_9.out) hb); have n3_ := Aside0.mk (Kd.R_below (by (with_reducible repeat (first|apply Kd.R_alloc|apply Kd.R_drewN|apply Kd.R_drew)); exact HO_11.out) hb); have n4_ := Aside0.mk (Kd.R_below (by (with_reducible repeat (first|apply Kd.R_alloc|apply Kd.R_drewN|apply Kd.R_drew)); exact HO_13.out) hb); have n5_ := Aside0.mk (Kd.R_below (by (with_reducible repeat (first|apply Kd.R_alloc|apply Kd.R_drewN|apply Kd.R_drew)); exact HO_17.out) hb); have n6_ := Aside0.mk (blk_below (g := gb400) (o := .cells #[.string t396, .string t397, .int .i64 t398, .int .i64 t399] 29 (0, 0)) (by (with_reducible repeat (first|refine blk_drewN ?_ _ | refine blk_drew ?_ | refine blk_alloc ?_ _)); exact BK400.out) hb); have n7_ := Aside0.mk (below_step (by repeat (first|(with_reducible first|exact HB.out|apply below_alloc|apply pw_below_drewN|apply below_drew1 | refine below_set ?_ GE400.out)|exact HB.out)) hb); clear HO_5; clear HO_7; clear HO_9; clear HO_11; clear HO_13; clear HO_17; clear BK400; clear HB; have HO_5 := n0_; have HO_7 := n1_; have HO_9 := n2_; have HO_11 := n3_; have HO_13 := n4_; have HO_17 := n5_; have BK400 := n6_; have HB := n7_; clear n0_ n1_ n2_ n3_ n4_ n5_ n6_ n7_; (try clear hb); (try clear hb2); (try clear hk); (try clear hi))|(go_at_call 8; (with_reducible refine (impl_DropRoll.calls kj15 _ _ t401 (t393.length : Int) t434 true _ ?side1 ?side2 A76.out).mono ?_);(case side1 => repeat (first|exact (Kd.R_reads' HO_13.out).2.2|(with_reducible refine Kd.C_alloc ?_ _)|(with_reducible refine Kd.C_drewN ?_ _)|(with_reducible refine Kd.C_drew ?_)));(case side2 => exact (Kd.R_reads' HO_13.out).2.1); rintro e w87 ⟨v436, rfl, ho0, hb⟩; have n0_ := Aside0.mk (Kd.R_below (by (with_reducible repeat (first|apply Kd.R_alloc|apply Kd.R_drewN|apply Kd.R_drew)); exact HO_5.out) hb); have n1_ := Aside0.mk (Kd.R_below (by (with_reducible repeat (first|apply Kd.R_alloc|apply Kd.R_drewN|apply Kd.R_drew)); exact HO_7.out) hb); have n2_ := Aside0.mk (Kd.R_below (by (with_reducible repeat (first|apply Kd.R_alloc|apply Kd.R_drewN|apply Kd.R_drew)); exact HO_9.out) hb); have n3_ := Aside0.mk (Kd.R_below (by (with_reducible repeat (first|apply Kd.R_alloc|apply Kd.R_drewN|apply Kd.R_drew)); exact HO_11.out) hb); have n4_ := Aside0.mk (Kd.R_below (by (with_reducible repeat (first|apply Kd.R_alloc|apply Kd.R_drewN|apply Kd.R_drew)); exact HO_13.out) hb); have n5_ := Aside0.mk (Kd.R_below (by (with_reducible repeat (first|apply Kd.R_alloc|apply Kd.R_drewN|apply Kd.R_drew)); exact HO_17.out) hb); have n6_ := Aside0.mk (Kd.R_lower (Kd.R_newB ho0 (g := gb400) (o := .cells #[.string t396, .string t397, .int .i64 t398, .int .i64 t399] 29 (0, 0)) (by (with_reducible repeat (first|refine blk_drewN ?_ _ | refine blk_drew ?_ | refine blk_alloc ?_ _)); exact BK400.out)) (below_size (by repeat (first|(with_reducible first|exact HB.out|apply below_alloc|apply pw_below_drewN|apply below_drew1 | refine below_set ?_ GE400.out)|exact HB.out)))); have n7_ := Aside0.mk (blk_below (g := gb400) (o := .cells #[.string t396, .string t397, .int .i64 t398, .int .i64 t399] 29 (0, 0)) (by (with_reducible repeat (first|refine blk_drewN ?_ _ | refine blk_drew ?_ | refine blk_alloc ?_ _)); exact BK400.out) hb); have n8_ := Aside0.mk (below_step (by repeat (first|(with_reducible first|exact HB.out|apply below_alloc|apply pw_below_drewN|apply below_drew1 | refine below_set ?_ GE400.out)|exact HB.out)) hb); clear HO_5; clear HO_7; clear HO_9; clear HO_11; clear HO_13; clear HO_17; clear BK400; clear HB; have HO_5 := n0_; have HO_7 := n1_; have HO_9 := n2_; have HO_11 := n3_; have HO_13 := n4_; have HO_17 := n5_; have HO437 := n6_; have BK400 := n7_; have HB := n8_; clear n0_ n1_ n2_ n3_ n4_ n5_ n6_ n7_ n8_; (try clear hb); (try clear hb2); (try clear hk); (try clear hi); (try clear ho0); obtain ⟨Ao88, co88, eo88⟩ := Kd.R_slice HO437.out; subst eo88)|(go_at_call 19; (with_reducible refine (laws_qRolls.calls kj15 _ _ t434 _ _ t393 true _ ?side1 ?side2 ?side3 ?side4 A80.out).mono ?_);(case side1 => repeat (first|exact (Kd.R_reads' HO437.out).2.2|(with_reducible refine Kd.C_alloc ?_ _)|(with_reducible refine Kd.C_drewN ?_ _)|(with_reducible refine Kd.C_drew ?_)));(case side2 => exact (Kd.R_reads' HO437.out).2.1);(case side3 => repeat (first|exact (Kd.R_reads' HO_11.out).2.2|(with_reducible refine Kd.C_alloc ?_ _)|(with_reducible refine Kd.C_drewN ?_ _)|(with_reducible refine Kd.C_drew ?_)));(case side4 => exact (Kd.R_reads' HO_11.out).2.1); rintro e w' ⟨rfl, ⟨nd, rfl⟩⟩; (try first|exact ⟨rfl, _, World.drewN_drewN _ _ _⟩|exact ⟨rfl, _, Eq.trans (World.drewN_drewN _ _ _) (congrArg (World.drewN _) (Nat.add_assoc _ _ _))⟩))|(go_at_call 21; (with_reducible refine (impl_IsCatalogue.calls kj15 _ _ t401 true _ ?side1 ?side2 A82.out).mono ?_);(case side1 => repeat (first|exact (Kd.R_reads' HO_13.out).2.2|(with_reducible refine Kd.C_alloc ?_ _)|(with_reducible refine Kd.C_drewN ?_ _)|(with_reducible refine Kd.C_drew ?_)));(case side2 => exact (Kd.R_reads' HO_13.out).2.1); rintro e w89 ⟨rfl, hb⟩; have n0_ := Aside0.mk (Kd.R_below (by (with_reducible repeat (first|apply Kd.R_alloc|apply Kd.R_drewN|apply Kd.R_drew)); exact HO_5.out) hb); have n1_ := Aside0.mk (Kd.R_below (by (with_reducible repeat (first|apply Kd.R_alloc|apply Kd.R_drewN|apply Kd.R_drew)); exact HO_7.out) hb); have n2_ := Aside0.mk (Kd.R_below (by (with_reducible repeat (first|apply Kd.R_alloc|apply Kd.R_drewN|apply Kd.R_drew)); exact HO_9.out) hb); have n3_ := Aside0.mk (Kd.R_below (by (with_reducible repeat (first|apply Kd.R_alloc|apply Kd.R_drewN|apply Kd.R_drew)); exact HO_11.out) hb); have n4_ := Aside0.mk (Kd.R_below (by (with_reducible repeat (first|apply Kd.R_alloc|apply Kd.R_drewN|apply Kd.R_drew)); exact HO_13.out) hb); have n5_ := Aside0.mk (Kd.R_below (by (with_reducible repeat (first|apply Kd.R_alloc|apply Kd.R_drewN|apply Kd.R_drew)); exact HO_17.out) hb); have n6_ := Aside0.mk (Kd.R_below (by (with_reducible repeat (first|apply Kd.R_alloc|apply Kd.R_drewN|apply Kd.R_drew)); exact HO437.out) hb); have n7_ := Aside0.mk (blk_below (g := gb400) (o := .cells #[.string t396, .string t397, .int .i64 t398, .int .i64 t399] 29 (0, 0)) (by (with_reducible repeat (first|refine blk_drewN ?_ _ | refine blk_drew ?_ | refine blk_alloc ?_ _)); exact BK400.out) hb); have n8_ := Aside0.mk (below_step (by repeat (first|(with_reducible first|exact HB.out|apply below_alloc|apply pw_below_drewN|apply below_drew1 | refine below_set ?_ GE400.out)|exact HB.out)) hb); clear HO_5; clear HO_7; clear HO_9; clear HO_11; clear HO_13; clear HO_17; clear HO437; clear BK400; clear HB; have HO_5 := n0_; have HO_7 := n1_; have HO_9 := n2_; have HO_11 := n3_; have HO_13 := n4_; have HO_17 := n5_; have HO437 := n6_; have BK400 := n7_; have HB := n8_; clear n0_ n1_ n2_ n3_ n4_ n5_ n6_ n7_ n8_; (try clear hb); (try clear hb2); (try clear hk); (try clear hi))); try go_quiet (first|(go_at_call 19; (with_reducible refine (laws_qRolls.calls kj15 _ _ t434 _ _ t393 true _ ?side1 ?side2 ?side3 ?side4 A80.out).mono ?_);(case side1 => repeat (first|exact (Kd.R_reads' HO437.out).2.2|(with_reducible refine Kd.C_alloc ?_ _)|(with_reducible refine Kd.C_drewN ?_ _)|(with_reducible refine Kd.C_drew ?_)));(case side2 => exact (Kd.R_reads' HO437.out).2.1);(case side3 => repeat (first|exact (Kd.R_reads' HO_11.out).2.2|(with_reducible refine Kd.C_alloc ?_ _)|(with_reducible refine Kd.C_drewN ?_ _)|(with_reducible refine Kd.C_drew ?_)));(case side4 => exact (Kd.R_reads' HO_11.out).2.1); rintro e w' ⟨rfl, ⟨nd, rfl⟩⟩; (try first|exact ⟨rfl, _, World.drewN_drewN _ _ _⟩|exact ⟨rfl, _, Eq.trans (World.drewN_drewN _ _ _) (congrArg (World.drewN _) (Nat.add_assoc _ _ _))⟩))))
              all_goals
               go_meet
               case rel => exact ⟨_, H', ⟨by have := HJ15.out; first | omega|exact Nat.le_refl _⟩, ⟨by (with_reducible repeat (first|apply Kd.R_alloc|apply Kd.R_drewN|apply Kd.R_drew)); exact HO_5.out⟩, ⟨by (with_reducible repeat (first|apply Kd.R_alloc|apply Kd.R_drewN|apply Kd.R_drew)); exact HO_7.out⟩, ⟨by (with_reducible repeat (first|apply Kd.R_alloc|apply Kd.R_drewN|apply Kd.R_drew)); exact HO_9.out⟩, ⟨by (with_reducible repeat (first|apply Kd.R_alloc|apply Kd.R_drewN|apply Kd.R_drew)); exact HO_17.out⟩, ⟨by (with_reducible repeat (first|refine blk_drewN ?_ _ | refine blk_drew ?_ | refine blk_alloc ?_ _)); exact BK400.out⟩, ⟨by repeat (first|(with_reducible first|exact HB.out|apply below_alloc|apply pw_below_drewN|apply below_drew1 | refine below_set ?_ GE400.out)|exact HB.out)⟩⟩
             ·replace c83 := Bool.eq_false_iff.mpr c83
              subst c83
              have H1 : (some false) = some r := by rw [if_neg (show ¬ (false = true) by decide)] at H; exact H
              clear H
              have H := H1
              clear H1
              exact absurd ((Option.some.inj H).trans HR_.out) (by decide)
            ·replace c81 := Bool.eq_false_iff.mpr c81
             subst c81
             have H1 : (some false) = some r := by rw [if_neg (show ¬ (false = true) by decide)] at H; exact H
             clear H
             have H := H1
             clear H1
             exact absurd ((Option.some.inj H).trans HR_.out) (by decide)
           ·replace c79 := Bool.eq_false_iff.mpr c79
            subst c79
            have H1 : (some false) = some r := by rw [if_neg (show ¬ (false = true) by decide)] at H; exact H
            clear H
            have H := H1
            clear H1
            exact absurd ((Option.some.inj H).trans HR_.out) (by decide)
          ·rw [if_neg c78] at H
           have c78b0 : (t432 == (t393.length : Int)) = false := beq_eq_false_iff_ne.mpr c78
           have c78b1 : (t432 != (t393.length : Int)) = true := bne_iff_ne.mpr c78
           (first|rw [c78b0]|(simp only [i64_w, i32_w]; rw [c78b0]) | skip)
           exact absurd ((Option.some.inj H).trans HR_.out) (by decide)
         ·replace c77 := Bool.eq_false_iff.mpr c77
          subst c77
          have H1 : (some false) = some r := by rw [if_neg (show ¬ (false = true) by decide)] at H; exact H
          clear H
          have H := H1
          clear H1
          exact absurd ((Option.some.inj H).trans HR_.out) (by decide)
        ·replace c74 := Bool.eq_false_iff.mpr c74
         subst c74
         have H1 : (laws_FnRolls.j1 kj15 t381 t382 t385 t386 t389 t409 t410 t414 t415) = some r := by rw [if_neg (show ¬ (false = true) by decide)] at H; exact H
         clear H
         have H := H1
         clear H1
         have H' := Aside0.mk H
         clear H
         go_wp2
         repeat (go_quiet (fail); try go_wp2)
         all_goals
          go_meet
          case rel => exact ⟨_, H', ⟨by have := HJ15.out; first | omega|exact Nat.le_refl _⟩, ⟨by (with_reducible repeat (first|apply Kd.R_alloc|apply Kd.R_drewN|apply Kd.R_drew)); exact HO_5.out⟩, ⟨by (with_reducible repeat (first|apply Kd.R_alloc|apply Kd.R_drewN|apply Kd.R_drew)); exact HO_7.out⟩, ⟨by (with_reducible repeat (first|apply Kd.R_alloc|apply Kd.R_drewN|apply Kd.R_drew)); exact HO_9.out⟩, ⟨by (with_reducible repeat (first|apply Kd.R_alloc|apply Kd.R_drewN|apply Kd.R_drew)); exact HO_17.out⟩, ⟨by (with_reducible repeat (first|refine blk_drewN ?_ _ | refine blk_drew ?_ | refine blk_alloc ?_ _)); exact BK400.out⟩, ⟨by repeat (first|(with_reducible first|exact HB.out|apply below_alloc|apply pw_below_drewN|apply below_drew1 | refine below_set ?_ GE400.out)|exact HB.out)⟩⟩
      case rest =>
       as_aux_lemma =>
        clear HC73
        try clear c1
        try clear p2
        try clear c3
        try clear c3b0
        try clear c4
        try clear c5
        try clear p6
        try clear c7
        try clear c8
        try clear c36
        try clear c36b0
        try clear c36b1
        try clear c36b2
        try clear c38
        try clear c39
        try clear c39b0
        try clear c39b1
        try clear c39b2
        try clear c43
        try clear c44
        try clear c44b0
        try clear c44b1
        try clear c44b2
        try clear c49
        try clear c49b0
        try clear c49b1
        try clear c50
        try clear c50b0
        try clear c50b1
        try clear c50b2
        try clear p64
        try clear c72
        try clear c74
        try clear c77
        try clear c78
        try clear c78b0
        try clear c78b1
        try clear c79
        try clear c81
        try clear c83
        try clear hcz101_0
        try clear hcz101_1
        try clear hcz101_2
        try clear hcz101_3
        try clear hcz105_0
        try clear hcz105_1
        try clear hcz105_2
        try clear hcz105_3
        try clear hcz109_0
        try clear hcz109_1
        try clear hcz109_2
        try clear hcz109_3
        try clear hcz23_0
        try clear hcz23_1
        try clear hcz23_2
        try clear hcz23_3
        try clear hcz26_0
        try clear hcz26_1
        try clear hcz26_2
        try clear hcz26_3
        try clear hcz84_0
        try clear hcz84_1
        try clear hcz84_2
        try clear hcz84_3
        try clear hcz90_0
        try clear hcz90_1
        try clear hcz90_2
        try clear hcz90_3
        try clear hcz96_0
        try clear hcz96_1
        try clear hcz96_2
        try clear hcz96_3
        try clear hfz101_0
        try clear hfz101_1
        try clear hfz101_2
        try clear hfz101_3
        try clear hfz105_0
        try clear hfz105_1
        try clear hfz105_2
        try clear hfz105_3
        try clear hfz109_0
        try clear hfz109_1
        try clear hfz109_2
        try clear hfz109_3
        try clear hfz23_0
        try clear hfz23_1
        try clear hfz23_2
        try clear hfz23_3
        try clear hfz26_0
        try clear hfz26_1
        try clear hfz26_2
        try clear hfz26_3
        try clear hfz84_0
        try clear hfz84_1
        try clear hfz84_2
        try clear hfz84_3
        try clear hfz90_0
        try clear hfz90_1
        try clear hfz90_2
        try clear hfz90_3
        try clear hfz96_0
        try clear hfz96_1
        try clear hfz96_2
        try clear hfz96_3
        try clear p2
        try clear p6
        try clear p64
        obtain ⟨kq, HA, HJ72, HO_5, HO_7, HO_9, HO_17, BK400, HB⟩ := hcut
        cases kq with
        | zero => exact absurd HA.out (by simp [laws_FnRolls.j1])
        | succ kj72 =>
         have H := HA.out
         clear HA
         simp only [laws_FnRolls.j1] at H
         have HC113 := Aside0.mk H
         clear H
         go_upto_region 22 with (fail)
         repeat (go_quiet (fail); go_upto_region 22 with (fail))
         go_cut [203] (fun v203 wc => ∃ (kq : Nat) (x203_112 : Bool), v203 = .bool x203_112 ∧ Aside0 (laws_FnRolls.j2 kq t381 t382 t385 t386 t389 x203_112 = some r) ∧ Aside0 (kq ≤ kj72) ∧ Aside0 (Kd.R k29 29 wc w.heap.size (fun k_ => k_ ≠ gb400) (.slice Ao18 t381.length co18) t381) ∧ Aside0 (Kd.R k29 29 wc w.heap.size (fun k_ => k_ ≠ gb400) v387 t385) ∧ Aside0 (Kd.R k29 29 wc w.heap.size (fun k_ => k_ ≠ gb400) v391 t389) ∧ Aside0 (wc.heap[gb400]? = some (.cells #[.string t396, .string t397, .int .i64 t398, .int .i64 t399] 29 (0, 0))) ∧ Aside0 (Below w.heap.size w wc))
         case first =>
          as_aux_lemma =>
           have H := HC113.out
           clear HC113
           by_cases c114 : t414 = true
           ·subst c114
            have H1 : (if 0 ≤ t415 then (if t415 < (t409.length : Int) then (laws_FnRolls.j2 kj72 t381 t382 t385 t386 t389 (((rd_T29 t409 t415).f0).toList != t410.toList)) else (none)) else (none)) = some r := by rw [if_pos rfl] at H; exact H
            clear H
            have H := H1
            clear H1
            by_cases c115 : 0 ≤ t415
            ·rw [if_pos c115] at H
             have c115b0 : decide (0 ≤ t415) = true := decide_eq_true c115
             clear c115
             (first|rw [c115b0]|(simp only [i64_w, i32_w]; rw [c115b0]) | skip)
             by_cases c116 : t415 < (t409.length : Int)
             ·rw [if_pos c116] at H
              have c116b0 : decide (t415 < (t409.length : Int)) = true := decide_eq_true c116
              clear c116
              have H' := Aside0.mk H
              clear H
              have p440 : 0 ≤ (t415 : Int) := of_decide_eq_true (by first|(with_reducible assumption) | assumption)
              have q440 : t415 < (t409.length : Int) := of_decide_eq_true (by first|(with_reducible assumption) | assumption)
              obtain ⟨ad440, e440, hx440_0, hx440_1, hx440_2, hx440_3⟩ := at_T29 (Kd.R_reads' HO_17.out).2.2 t415 p440 q440
              cases e440
              replace p440 := eq_true p440
              replace q440 := eq_true q440
              go_wp2
              repeat (go_quiet (fail); try go_wp2)
              all_goals
               go_meet
               case rel => exact ⟨_, ((((rd_T29 t409 t415).f0).toList != t410.toList)), (by first | rfl|(simp;done)|(simp [*];done)), H', ⟨by have := HJ15.out; have := HJ72.out; first | omega|exact Nat.le_refl _⟩, ⟨by (with_reducible repeat (first|apply Kd.R_alloc|apply Kd.R_drewN|apply Kd.R_drew)); exact HO_5.out⟩, ⟨by (with_reducible repeat (first|apply Kd.R_alloc|apply Kd.R_drewN|apply Kd.R_drew)); exact HO_7.out⟩, ⟨by (with_reducible repeat (first|apply Kd.R_alloc|apply Kd.R_drewN|apply Kd.R_drew)); exact HO_9.out⟩, ⟨by (with_reducible repeat (first|refine blk_drewN ?_ _ | refine blk_drew ?_ | refine blk_alloc ?_ _)); exact BK400.out⟩, ⟨by repeat (first|(with_reducible first|exact HB.out|apply below_alloc|apply pw_below_drewN|apply below_drew1 | refine below_set ?_ GE400.out)|exact HB.out)⟩⟩
             ·rw [if_neg c116] at H
              exact absurd H (by simp)
            ·rw [if_neg c115] at H
             exact absurd H (by simp)
           ·replace c114 := Bool.eq_false_iff.mpr c114
            subst c114
            have H1 : (laws_FnRolls.j2 kj72 t381 t382 t385 t386 t389 false) = some r := by rw [if_neg (show ¬ (false = true) by decide)] at H; exact H
            clear H
            have H := H1
            clear H1
            have H' := Aside0.mk H
            clear H
            go_wp2
            repeat (go_quiet (fail); try go_wp2)
            all_goals
             go_meet
             case rel => exact ⟨_, (false), (by first | rfl|(simp;done)|(simp [*];done)), H', ⟨by have := HJ15.out; have := HJ72.out; first | omega|exact Nat.le_refl _⟩, ⟨by (with_reducible repeat (first|apply Kd.R_alloc|apply Kd.R_drewN|apply Kd.R_drew)); exact HO_5.out⟩, ⟨by (with_reducible repeat (first|apply Kd.R_alloc|apply Kd.R_drewN|apply Kd.R_drew)); exact HO_7.out⟩, ⟨by (with_reducible repeat (first|apply Kd.R_alloc|apply Kd.R_drewN|apply Kd.R_drew)); exact HO_9.out⟩, ⟨by (with_reducible repeat (first|refine blk_drewN ?_ _ | refine blk_drew ?_ | refine blk_alloc ?_ _)); exact BK400.out⟩, ⟨by repeat (first|(with_reducible first|exact HB.out|apply below_alloc|apply pw_below_drewN|apply below_drew1 | refine below_set ?_ GE400.out)|exact HB.out)⟩⟩
         case rest =>
          as_aux_lemma =>
           clear HC113
           try clear c1
           try clear p2
           try clear c3
           try clear c3b0
           try clear c4
           try clear p4
           try clear q4
           try clear hx4
           try clear c5
           try clear p6
           try clear c7
           try clear c8
           try clear c11
           try clear c36
           try clear c36b0
           try clear c36b1
           try clear c36b2
           try clear c38
           try clear c39
           try clear c39b0
           try clear c39b1
           try clear c39b2
           try clear c43
           try clear c44
           try clear c44b0
           try clear c44b1
           try clear c44b2
           try clear p44
           try clear q44
           try clear hx44
           try clear c49
           try clear c49b0
           try clear c49b1
           try clear c50
           try clear c50b0
           try clear c50b1
           try clear c50b2
           try clear p64
           try clear c72
           try clear c74
           try clear c77
           try clear c78
           try clear c78b0
           try clear c78b1
           try clear c79
           try clear c81
           try clear c83
           try clear c114
           try clear c115
           try clear c115b0
           try clear c116
           try clear c116b0
           try clear hcz101_0
           try clear hcz101_1
           try clear hcz101_2
           try clear hcz101_3
           try clear hcz105_0
           try clear hcz105_1
           try clear hcz105_2
           try clear hcz105_3
           try clear hcz109_0
           try clear hcz109_1
           try clear hcz109_2
           try clear hcz109_3
           try clear hcz23_0
           try clear hcz23_1
           try clear hcz23_2
           try clear hcz23_3
           try clear hcz26_0
           try clear hcz26_1
           try clear hcz26_2
           try clear hcz26_3
           try clear hcz84_0
           try clear hcz84_1
           try clear hcz84_2
           try clear hcz84_3
           try clear hcz90_0
           try clear hcz90_1
           try clear hcz90_2
           try clear hcz90_3
           try clear hcz96_0
           try clear hcz96_1
           try clear hcz96_2
           try clear hcz96_3
           try clear hfz101_0
           try clear hfz101_1
           try clear hfz101_2
           try clear hfz101_3
           try clear hfz105_0
           try clear hfz105_1
           try clear hfz105_2
           try clear hfz105_3
           try clear hfz109_0
           try clear hfz109_1
           try clear hfz109_2
           try clear hfz109_3
           try clear hfz23_0
           try clear hfz23_1
           try clear hfz23_2
           try clear hfz23_3
           try clear hfz26_0
           try clear hfz26_1
           try clear hfz26_2
           try clear hfz26_3
           try clear hfz84_0
           try clear hfz84_1
           try clear hfz84_2
           try clear hfz84_3
           try clear hfz90_0
           try clear hfz90_1
           try clear hfz90_2
           try clear hfz90_3
           try clear hfz96_0
           try clear hfz96_1
           try clear hfz96_2
           try clear hfz96_3
           try clear hx440_0
           try clear hx440_1
           try clear hx440_2
           try clear hx440_3
           try clear p2
           try clear p440
           try clear p6
           try clear p64
           try clear q440
           obtain ⟨kq, x203_112, rfl, HA, HJ112, HO_5, HO_7, HO_9, BK400, HB⟩ := hcut
           cases kq with
           | zero => exact absurd HA.out (by simp [laws_FnRolls.j2])
           | succ kj112 =>
            have H := HA.out
            clear HA
            simp only [laws_FnRolls.j2] at H
            by_cases c117 : x203_112 = true
            ·subst c117
             have H1 : (some false) = some r := by rw [if_pos rfl] at H; exact H
             clear H
             have H := H1
             clear H1
             exact absurd ((Option.some.inj H).trans HR_.out) (by decide)
            ·replace c117 := Bool.eq_false_iff.mpr c117
             subst c117
             have H1 : (if t386 = true then (if (t389.length : Int) = (wrap64 ((t381.length : Int) - 1)) then ((impl_IsCatalogue.f kj112 t385).bind fun t441 => (laws_FnRolls.j3 kj112 t381 t382 t385 t389 (!t441))) else (laws_FnRolls.j3 kj112 t381 t382 t385 t389 true)) else (some true)) = some r := by rw [if_neg (show ¬ (false = true) by decide)] at H; exact H
             clear H
             have H := H1
             clear H1
             by_cases c118 : t386 = true
             ·subst c118
              have H1 : (if (t389.length : Int) = (wrap64 ((t381.length : Int) - 1)) then ((impl_IsCatalogue.f kj112 t385).bind fun t441 => (laws_FnRolls.j3 kj112 t381 t382 t385 t389 (!t441))) else (laws_FnRolls.j3 kj112 t381 t382 t385 t389 true)) = some r := by rw [if_pos rfl] at H; exact H
              clear H
              have H := H1
              clear H1
              have HC119 := Aside0.mk H
              clear H
              go_upto_region 26 with (fail)
              repeat (go_quiet (fail); go_upto_region 26 with (fail))
              go_cut [216] (fun v216 wc => ∃ (kq : Nat) (x216_118 : Bool), v216 = .bool x216_118 ∧ Aside0 (laws_FnRolls.j3 kq t381 t382 t385 t389 x216_118 = some r) ∧ Aside0 (kq ≤ kj112) ∧ Aside0 (Kd.R k29 29 wc w.heap.size (fun k_ => k_ ≠ gb400) (.slice Ao18 t381.length co18) t381) ∧ Aside0 (Kd.R k29 29 wc w.heap.size (fun k_ => k_ ≠ gb400) v387 t385) ∧ Aside0 (Kd.R k29 29 wc w.heap.size (fun k_ => k_ ≠ gb400) v391 t389) ∧ Aside0 (wc.heap[gb400]? = some (.cells #[.string t396, .string t397, .int .i64 t398, .int .i64 t399] 29 (0, 0))) ∧ Aside0 (Below w.heap.size w wc))
              case first =>
               as_aux_lemma =>
                have H := HC119.out
                clear HC119
                by_cases c120 : (t389.length : Int) = (wrap64 ((t381.length : Int) - 1))
                ·rw [if_pos c120] at H
                 have c120b0 : ((t389.length : Int) == (wrap64 ((t381.length : Int) - 1))) = true := beq_iff_eq.mpr c120
                 have c120b1 : ((t389.length : Int) != (wrap64 ((t381.length : Int) - 1))) = false := bne_eq_false_iff_eq.mpr c120
                 clear c120
                 (first|rw [c120b0]|(simp only [i64_w, i32_w]; rw [c120b0]) | skip)
                 replace H := Option.bind_eq_some_iff.mp H
                 obtain ⟨t441, A1210, H⟩ := H
                 try dsimp only at H
                 have A121 := Aside0.mk A1210
                 clear A1210
                 have H' := Aside0.mk H
                 clear H
                 obtain ⟨Ao122, co122, eo122⟩ := Kd.R_slice HO_9.out
                 subst eo122
                 obtain ⟨Ao123, co123, eo123⟩ := Kd.R_slice HO_7.out
                 subst eo123
                 iterate 6 (go_wp2_with (first|(go_at_call 21; (with_reducible refine (impl_IsCatalogue.calls kj112 _ _ t385 t441 _ ?side1 ?side2 A121.out).mono ?_);(case side1 => repeat (first|exact (Kd.R_reads' HO_7.out).2.2|(with_reducible refine Kd.C_alloc ?_ _)|(with_reducible refine Kd.C_drewN ?_ _)|(with_reducible refine Kd.C_drew ?_)));(case side2 => exact (Kd.R_reads' HO_7.out).2.1); rintro e w124 ⟨rfl, hb⟩; have n0_ := Aside0.mk (Kd.R_below (by (with_reducible repeat (first|apply Kd.R_alloc|apply Kd.R_drewN|apply Kd.R_drew)); exact HO_5.out) hb); have n1_ := Aside0.mk (Kd.R_below (by (with_reducible repeat (first|apply Kd.R_alloc|apply Kd.R_drewN|apply Kd.R_drew)); exact HO_7.out) hb); have n2_ := Aside0.mk (Kd.R_below (by (with_reducible repeat (first|apply Kd.R_alloc|apply Kd.R_drewN|apply Kd.R_drew)); exact HO_9.out) hb); have n3_ := Aside0.mk (blk_below (g := gb400) (o := .cells #[.string t396, .string t397, .int .i64 t398, .int .i64 t399] 29 (0, 0)) (by (with_reducible repeat (first|refine blk_drewN ?_ _ | refine blk_drew ?_ | refine blk_alloc ?_ _)); exact BK400.out) hb); have n4_ := Aside0.mk (below_step (by repeat (first|(with_reducible first|exact HB.out|apply below_alloc|apply pw_below_drewN|apply below_drew1 | refine below_set ?_ GE400.out)|exact HB.out)) hb); clear HO_5; clear HO_7; clear HO_9; clear BK400; clear HB; have HO_5 := n0_; have HO_7 := n1_; have HO_9 := n2_; have BK400 := n3_; have HB := n4_; clear n0_ n1_ n2_ n3_ n4_; (try clear hb); (try clear hb2); (try clear hk); (try clear hi))); try go_quiet (fail))
                 all_goals
                  go_meet
                  case rel => exact ⟨_, (!t441), (by first | rfl|(simp;done)|(simp [*];done)), H', ⟨by have := HJ15.out; have := HJ72.out; have := HJ112.out; first | omega|exact Nat.le_refl _⟩, ⟨by (with_reducible repeat (first|apply Kd.R_alloc|apply Kd.R_drewN|apply Kd.R_drew)); exact HO_5.out⟩, ⟨by (with_reducible repeat (first|apply Kd.R_alloc|apply Kd.R_drewN|apply Kd.R_drew)); exact HO_7.out⟩, ⟨by (with_reducible repeat (first|apply Kd.R_alloc|apply Kd.R_drewN|apply Kd.R_drew)); exact HO_9.out⟩, ⟨by (with_reducible repeat (first|refine blk_drewN ?_ _ | refine blk_drew ?_ | refine blk_alloc ?_ _)); exact BK400.out⟩, ⟨by repeat (first|(with_reducible first|exact HB.out|apply below_alloc|apply pw_below_drewN|apply below_drew1 | refine below_set ?_ GE400.out)|exact HB.out)⟩⟩
                ·rw [if_neg c120] at H
                 have c120b0 : ((t389.length : Int) == (wrap64 ((t381.length : Int) - 1))) = false := beq_eq_false_iff_ne.mpr c120
                 have c120b1 : ((t389.length : Int) != (wrap64 ((t381.length : Int) - 1))) = true := bne_iff_ne.mpr c120
                 (first|rw [c120b0]|(simp only [i64_w, i32_w]; rw [c120b0]) | skip)
                 have H' := Aside0.mk H
                 clear H
                 obtain ⟨Ao125, co125, eo125⟩ := Kd.R_slice HO_9.out
                 subst eo125
                 go_wp2
                 repeat (go_quiet (fail); try go_wp2)
                 all_goals
                  go_meet
                  case rel => exact ⟨_, (true), (by first | rfl|(simp;done)|(simp [*];done)), H', ⟨by have := HJ15.out; have := HJ72.out; have := HJ112.out; first | omega|exact Nat.le_refl _⟩, ⟨by (with_reducible repeat (first|apply Kd.R_alloc|apply Kd.R_drewN|apply Kd.R_drew)); exact HO_5.out⟩, ⟨by (with_reducible repeat (first|apply Kd.R_alloc|apply Kd.R_drewN|apply Kd.R_drew)); exact HO_7.out⟩, ⟨by (with_reducible repeat (first|apply Kd.R_alloc|apply Kd.R_drewN|apply Kd.R_drew)); exact HO_9.out⟩, ⟨by (with_reducible repeat (first|refine blk_drewN ?_ _ | refine blk_drew ?_ | refine blk_alloc ?_ _)); exact BK400.out⟩, ⟨by repeat (first|(with_reducible first|exact HB.out|apply below_alloc|apply pw_below_drewN|apply below_drew1 | refine below_set ?_ GE400.out)|exact HB.out)⟩⟩
              case rest =>
               as_aux_lemma =>
                clear HC119
                try clear c1
                try clear p2
                try clear c3
                try clear c3b0
                try clear c4
                try clear p4
                try clear q4
                try clear hx4
                try clear c5
                try clear p6
                try clear c7
                try clear c8
                try clear c11
                try clear c12
                try clear c36
                try clear c36b0
                try clear c36b1
                try clear c36b2
                try clear c38
                try clear c39
                try clear c39b0
                try clear c39b1
                try clear c39b2
                try clear c43
                try clear c44
                try clear c44b0
                try clear c44b1
                try clear c44b2
                try clear p44
                try clear q44
                try clear hx44
                try clear c49
                try clear c49b0
                try clear c49b1
                try clear c50
                try clear c50b0
                try clear c50b1
                try clear c50b2
                try clear p64
                try clear c72
                try clear c74
                try clear c77
                try clear c78
                try clear c78b0
                try clear c78b1
                try clear c79
                try clear c81
                try clear c83
                try clear c114
                try clear c115
                try clear c115b0
                try clear c116
                try clear c116b0
                try clear c117
                try clear c118
                try clear c120
                try clear c120b0
                try clear c120b1
                try clear hcz101_0
                try clear hcz101_1
                try clear hcz101_2
                try clear hcz101_3
                try clear hcz105_0
                try clear hcz105_1
                try clear hcz105_2
                try clear hcz105_3
                try clear hcz109_0
                try clear hcz109_1
                try clear hcz109_2
                try clear hcz109_3
                try clear hcz23_0
                try clear hcz23_1
                try clear hcz23_2
                try clear hcz23_3
                try clear hcz26_0
                try clear hcz26_1
                try clear hcz26_2
                try clear hcz26_3
                try clear hcz84_0
                try clear hcz84_1
                try clear hcz84_2
                try clear hcz84_3
                try clear hcz90_0
                try clear hcz90_1
                try clear hcz90_2
                try clear hcz90_3
                try clear hcz96_0
                try clear hcz96_1
                try clear hcz96_2
                try clear hcz96_3
                try clear hfz101_0
                try clear hfz101_1
                try clear hfz101_2
                try clear hfz101_3
                try clear hfz105_0
                try clear hfz105_1
                try clear hfz105_2
                try clear hfz105_3
                try clear hfz109_0
                try clear hfz109_1
                try clear hfz109_2
                try clear hfz109_3
                try clear hfz23_0
                try clear hfz23_1
                try clear hfz23_2
                try clear hfz23_3
                try clear hfz26_0
                try clear hfz26_1
                try clear hfz26_2
                try clear hfz26_3
                try clear hfz84_0
                try clear hfz84_1
                try clear hfz84_2
                try clear hfz84_3
                try clear hfz90_0
                try clear hfz90_1
                try clear hfz90_2
                try clear hfz90_3
                try clear hfz96_0
                try clear hfz96_1
                try clear hfz96_2
                try clear hfz96_3
                try clear hx440_0
                try clear hx440_1
                try clear hx440_2
                try clear hx440_3
                try clear p2
                try clear p4
                try clear p44
                try clear p440
                try clear p6
                try clear p64
                try clear q4
                try clear q44
                try clear q440
                obtain ⟨kq, x216_118, rfl, HA, HJ118, HO_5, HO_7, HO_9, BK400, HB⟩ := hcut
                cases kq with
                | zero => exact absurd HA.out (by simp [laws_FnRolls.j3])
                | succ kj118 =>
                 have H := HA.out
                 clear HA
                 simp only [laws_FnRolls.j3] at H
                 by_cases c126 : x216_118 = true
                 ·subst c126
                  have H1 : (some false) = some r := by rw [if_pos rfl] at H; exact H
                  clear H
                  have H := H1
                  clear H1
                  exact absurd ((Option.some.inj H).trans HR_.out) (by decide)
                 ·replace c126 := Bool.eq_false_iff.mpr c126
                  subst c126
                  have H1 : (laws_FnRolls.l0 kj118 t381 t382 t385 t389 t381 (t381.length : Int) 0) = some r := by rw [if_neg (show ¬ (false = true) by decide)] at H; exact H
                  clear H
                  have H := H1
                  clear H1
                  have H' := Aside0.mk H
                  clear H
                  go_wp2
                  repeat (go_quiet (fail); try go_wp2)
                  go_loopg [219] kj118 (fun kq v219 w' => ∃ (x219_5 : Int), v219 = .int .i64 x219_5 ∧ Aside0 (laws_FnRolls.l0 kq t381 t382 t385 t389 t381 (t381.length : Int) x219_5 = some r) ∧ Aside0 (kq ≤ kj118) ∧ Aside0 (Kd.R k29 29 w' w.heap.size (fun k_ => k_ ≠ gb400) (.slice Ao18 t381.length co18) t381) ∧ Aside0 (Kd.R k29 29 w' w.heap.size (fun k_ => k_ ≠ gb400) v387 t385) ∧ Aside0 (Kd.R k29 29 w' w.heap.size (fun k_ => k_ ≠ gb400) v391 t389) ∧ Aside0 (Kd.R k29 29 w' w.heap.size (fun k_ => k_ ≠ gb400) (.slice Ao18 t381.length co18) t381) ∧ Aside0 (w'.heap[gb400]? = some (.cells #[.string t396, .string t397, .int .i64 t398, .int .i64 t399] 29 (0, 0))) ∧ Aside0 (Below w.heap.size w w'))
                  case atStart => exact ⟨(0), (by first | rfl|(simp;done)|(simp [*];done)), H', ⟨Nat.le_refl _⟩, ⟨by (with_reducible repeat (first|apply Kd.R_alloc|apply Kd.R_drewN|apply Kd.R_drew)); exact HO_5.out⟩, ⟨by (with_reducible repeat (first|apply Kd.R_alloc|apply Kd.R_drewN|apply Kd.R_drew)); exact HO_7.out⟩, ⟨by (with_reducible repeat (first|apply Kd.R_alloc|apply Kd.R_drewN|apply Kd.R_drew)); exact HO_9.out⟩, ⟨by (with_reducible repeat (first|apply Kd.R_alloc|apply Kd.R_drewN|apply Kd.R_drew)); exact HO_5.out⟩, ⟨by (with_reducible repeat (first|refine blk_drewN ?_ _ | refine blk_drew ?_ | refine blk_alloc ?_ _)); exact BK400.out⟩, ⟨by repeat (first|(with_reducible first|exact HB.out|apply below_alloc|apply pw_below_drewN|apply below_drew1 | refine below_set ?_ GE400.out)|exact HB.out)⟩⟩
                  case round =>
                   clear H'
                   try clear c1
                   try clear p2
                   try clear c3
                   try clear c3b0
                   try clear c4
                   try clear p4
                   try clear q4
                   try clear hx4
                   try clear c5
                   try clear p6
                   try clear c7
                   try clear c8
                   try clear c11
                   try clear c12
                   try clear c36
                   try clear c36b0
                   try clear c36b1
                   try clear c36b2
                   try clear c38
                   try clear c39
                   try clear c39b0
                   try clear c39b1
                   try clear c39b2
                   try clear c43
                   try clear c44
                   try clear c44b0
                   try clear c44b1
                   try clear c44b2
                   try clear p44
                   try clear q44
                   try clear hx44
                   try clear c49
                   try clear c49b0
                   try clear c49b1
                   try clear c50
                   try clear c50b0
                   try clear c50b1
                   try clear c50b2
                   try clear p64
                   try clear c72
                   try clear c74
                   try clear c77
                   try clear c78
                   try clear c78b0
                   try clear c78b1
                   try clear c79
                   try clear c81
                   try clear c83
                   try clear c114
                   try clear c115
                   try clear c115b0
                   try clear c116
                   try clear c116b0
                   try clear c117
                   try clear c118
                   try clear c120
                   try clear c120b0
                   try clear c120b1
                   try clear c126
                   try clear hcz101_0
                   try clear hcz101_1
                   try clear hcz101_2
                   try clear hcz101_3
                   try clear hcz105_0
                   try clear hcz105_1
                   try clear hcz105_2
                   try clear hcz105_3
                   try clear hcz109_0
                   try clear hcz109_1
                   try clear hcz109_2
                   try clear hcz109_3
                   try clear hcz23_0
                   try clear hcz23_1
                   try clear hcz23_2
                   try clear hcz23_3
                   try clear hcz26_0
                   try clear hcz26_1
                   try clear hcz26_2
                   try clear hcz26_3
                   try clear hcz84_0
                   try clear hcz84_1
                   try clear hcz84_2
                   try clear hcz84_3
                   try clear hcz90_0
                   try clear hcz90_1
                   try clear hcz90_2
                   try clear hcz90_3
                   try clear hcz96_0
                   try clear hcz96_1
                   try clear hcz96_2
                   try clear hcz96_3
                   try clear hfz101_0
                   try clear hfz101_1
                   try clear hfz101_2
                   try clear hfz101_3
                   try clear hfz105_0
                   try clear hfz105_1
                   try clear hfz105_2
                   try clear hfz105_3
                   try clear hfz109_0
                   try clear hfz109_1
                   try clear hfz109_2
                   try clear hfz109_3
                   try clear hfz23_0
                   try clear hfz23_1
                   try clear hfz23_2
                   try clear hfz23_3
                   try clear hfz26_0
                   try clear hfz26_1
                   try clear hfz26_2
                   try clear hfz26_3
                   try clear hfz84_0
                   try clear hfz84_1
                   try clear hfz84_2
                   try clear hfz84_3
                   try clear hfz90_0
                   try clear hfz90_1
                   try clear hfz90_2
                   try clear hfz90_3
                   try clear hfz96_0
                   try clear hfz96_1
                   try clear hfz96_2
                   try clear hfz96_3
                   try clear hx440_0
                   try clear hx440_1
                   try clear hx440_2
                   try clear hx440_3
                   try clear p2
                   try clear p4
                   try clear p44
                   try clear p440
                   try clear p6
                   try clear p64
                   try clear q4
                   try clear q44
                   try clear q440
                   obtain ⟨x219_5, rfl, HA, HK5, HO_5, HO_7, HO_9, HO_217, BK400, HB⟩ := hrel
                   cases gk with
                   | zero => exact absurd HA.out (by simp [laws_FnRolls.l0])
                   | succ k5 =>
                    have H := HA.out
                    clear HA
                    simp only [laws_FnRolls.l0] at H
                    by_cases c127 : x219_5 < (t381.length : Int)
                    ·rw [if_pos c127] at H
                     have c127b0 : decide (x219_5 < (t381.length : Int)) = true := decide_eq_true c127
                     clear c127
                     by_cases c128 : 0 ≤ x219_5
                     ·rw [if_pos c128] at H
                      have c128b0 : decide (0 ≤ x219_5) = true := decide_eq_true c128
                      clear c128
                      by_cases c129 : x219_5 < (t381.length : Int)
                      ·rw [if_pos c129] at H
                       have c129b0 : decide (x219_5 < (t381.length : Int)) = true := decide_eq_true c129
                       clear c129
                       by_cases c130 : x219_5 = t382
                       ·rw [if_pos c130] at H
                        have c130b0 : (x219_5 == t382) = true := beq_iff_eq.mpr c130
                        have c130b1 : (x219_5 != t382) = false := bne_eq_false_iff_eq.mpr c130
                        clear c130
                        have H' := Aside0.mk H
                        clear H
                        have p442 : 0 ≤ (x219_5 : Int) := of_decide_eq_true (by first|(with_reducible assumption) | assumption)
                        have q442 : x219_5 < (t381.length : Int) := of_decide_eq_true (by first|(with_reducible assumption) | assumption)
                        obtain ⟨ad442, e442, hx442_0, hx442_1, hx442_2, hx442_3⟩ := at_T29 (Kd.R_reads' HO_217.out).2.2 x219_5 p442 q442
                        cases e442
                        replace p442 := eq_true p442
                        replace q442 := eq_true q442
                        iterate 6 (go_wp2_with (first|((with_reducible refine gate_dst (N := 34) rfl ?_); (try (refine gate_guard (by rfl) ?_; dsimp only)); refine box_event ?hg (N := 34) ?hd (cs := #[.string (⟨#[]⟩ : ByteArray), .string (⟨#[]⟩ : ByteArray), .int .i64 0, .int .i64 0]) (t := 29) ?hr ?_;(case hd => rfl);(case hg => rfl);(case hr => first|(go_simp;done)|(go_simp; rfl)); intro gb443 hg w131 hbox hb; have n0_ := Aside0.mk (Kd.R_below (Kd.R_elderB (by (with_reducible repeat (first|apply Kd.R_alloc|apply Kd.R_drewN|apply Kd.R_drew)); exact HO_5.out) gb443 (Nat.le_of_eq hg.symm)) hb); have n1_ := Aside0.mk (Kd.R_below (Kd.R_elderB (by (with_reducible repeat (first|apply Kd.R_alloc|apply Kd.R_drewN|apply Kd.R_drew)); exact HO_7.out) gb443 (Nat.le_of_eq hg.symm)) hb); have n2_ := Aside0.mk (Kd.R_below (Kd.R_elderB (by (with_reducible repeat (first|apply Kd.R_alloc|apply Kd.R_drewN|apply Kd.R_drew)); exact HO_9.out) gb443 (Nat.le_of_eq hg.symm)) hb); have n3_ := Aside0.mk (Kd.R_below (Kd.R_elderB (by (with_reducible repeat (first|apply Kd.R_alloc|apply Kd.R_drewN|apply Kd.R_drew)); exact HO_217.out) gb443 (Nat.le_of_eq hg.symm)) hb); have n4_ := Aside0.mk (blk_below (g := gb400) (o := .cells #[.string t396, .string t397, .int .i64 t398, .int .i64 t399] 29 (0, 0)) (by (with_reducible repeat (first|refine blk_drewN ?_ _ | refine blk_drew ?_ | refine blk_alloc ?_ _)); exact BK400.out) hb); have n5_ := Aside0.mk (below_step (by repeat (first|(with_reducible first|exact HB.out|apply below_alloc|apply pw_below_drewN|apply below_drew1 | refine below_set ?_ GE400.out)|exact HB.out)) hb); have n6_ := Aside0.mk (hbox); have n7_ := Aside0.mk ((by rw [hg]; exact (below_size (by repeat (first|(with_reducible first|exact HB.out|apply below_alloc|apply pw_below_drewN|apply below_drew1 | refine below_set ?_ GE400.out)|exact HB.out))) : w.heap.size ≤ gb443)); have n8_ := Aside0.mk ((by rw [hg]; exact (below_size (by repeat (first|(with_reducible first|exact HB.out|apply below_alloc|apply pw_below_drewN|apply below_drew1 | refine below_set ?_ GE400.out)|exact HB.out))) : w.heap.size ≤ gb443)); have n9_ := Aside0.mk ((by rw [hg]; exact Nat.ne_of_lt (blk_lt (g := gb400) (o := .cells #[.string t396, .string t397, .int .i64 t398, .int .i64 t399] 29 (0, 0)) (by (with_reducible repeat (first|refine blk_drewN ?_ _ | refine blk_drew ?_ | refine blk_alloc ?_ _)); exact BK400.out)) : gb400 ≠ gb443)); have n10_ := Aside0.mk ((by rw [hg]; exact Nat.ne_of_gt (blk_lt (g := gb400) (o := .cells #[.string t396, .string t397, .int .i64 t398, .int .i64 t399] 29 (0, 0)) (by (with_reducible repeat (first|refine blk_drewN ?_ _ | refine blk_drew ?_ | refine blk_alloc ?_ _)); exact BK400.out)) : gb443 ≠ gb400)); clear HO_5; clear HO_7; clear HO_9; clear HO_217; clear BK400; clear HB; have HO_5 := n0_; have HO_7 := n1_; have HO_9 := n2_; have HO_217 := n3_; have BK400 := n4_; have HB := n5_; have BK443 := n6_; have GW443 := n7_; have GE443 := n8_; have NB400_443 := n9_; have NB443_400 := n10_; clear n0_ n1_ n2_ n3_ n4_ n5_ n6_ n7_ n8_ n9_ n10_; clear hb hbox hg; have hnb132 := NB443_400.out; have hnc132 := NB400_443.out; have hcz133_0 : w131.cell? ⟨gb443, 0, none⟩ = some (.string (⟨#[]⟩ : ByteArray)) := (blk_cell BK443.out 0).trans rfl; have hcz133_1 : w131.cell? ⟨gb443, 1, none⟩ = some (.string (⟨#[]⟩ : ByteArray)) := (blk_cell BK443.out 1).trans rfl; have hcz133_2 : w131.cell? ⟨gb443, 2, none⟩ = some (.int .i64 0) := (blk_cell BK443.out 2).trans rfl; have hcz133_3 : w131.cell? ⟨gb443, 3, none⟩ = some (.int .i64 0) := (blk_cell BK443.out 3).trans rfl; have hfz133_0 := blk_frozen BK443.out 0; have hfz133_1 := blk_frozen BK443.out 1; have hfz133_2 := blk_frozen BK443.out 2; have hfz133_3 := blk_frozen BK443.out 3)); try go_quiet (fail))
                        go_roundg k5
                        case measure => have := HJ15.out; have := HJ72.out; have := HJ112.out; have := HJ118.out; have := HK5.out; omega
                        case rel => exact ⟨(wrap64 (x219_5 + 1)), (by first | rfl|(simp;done)|(simp [*];done)), H', ⟨by have := HJ15.out; have := HJ72.out; have := HJ112.out; have := HJ118.out; have := HK5.out; omega⟩, ⟨by (with_reducible repeat (first|apply Kd.R_alloc|apply Kd.R_drewN|apply Kd.R_drew)); exact Kd.R_mono (Kd.R_far (p := ⟨gb443, 3, none⟩) (Kd.R_far (p := ⟨gb443, 2, none⟩) (Kd.R_far (p := ⟨gb443, 1, none⟩) (Kd.R_far (p := ⟨gb443, 0, none⟩) (Kd.R_mono HO_5.out (fun k_ hk => (⟨hk, hk.2⟩ : _ ∧ k_ ≠ gb443))) (fun _ hk => hk.2) (.string ((rd_T29 t381 x219_5).f0))) (fun _ hk => hk.2) (.string ((rd_T29 t381 x219_5).f1))) (fun _ hk => hk.2) (.int .i64 ((rd_T29 t381 x219_5).f2))) (fun _ hk => hk.2) (.int .i64 ((rd_T29 t381 x219_5).f3))) (fun _ hk => hk.1.1)⟩, ⟨by (with_reducible repeat (first|apply Kd.R_alloc|apply Kd.R_drewN|apply Kd.R_drew)); exact Kd.R_mono (Kd.R_far (p := ⟨gb443, 3, none⟩) (Kd.R_far (p := ⟨gb443, 2, none⟩) (Kd.R_far (p := ⟨gb443, 1, none⟩) (Kd.R_far (p := ⟨gb443, 0, none⟩) (Kd.R_mono HO_7.out (fun k_ hk => (⟨hk, hk.2⟩ : _ ∧ k_ ≠ gb443))) (fun _ hk => hk.2) (.string ((rd_T29 t381 x219_5).f0))) (fun _ hk => hk.2) (.string ((rd_T29 t381 x219_5).f1))) (fun _ hk => hk.2) (.int .i64 ((rd_T29 t381 x219_5).f2))) (fun _ hk => hk.2) (.int .i64 ((rd_T29 t381 x219_5).f3))) (fun _ hk => hk.1.1)⟩, ⟨by (with_reducible repeat (first|apply Kd.R_alloc|apply Kd.R_drewN|apply Kd.R_drew)); exact Kd.R_mono (Kd.R_far (p := ⟨gb443, 3, none⟩) (Kd.R_far (p := ⟨gb443, 2, none⟩) (Kd.R_far (p := ⟨gb443, 1, none⟩) (Kd.R_far (p := ⟨gb443, 0, none⟩) (Kd.R_mono HO_9.out (fun k_ hk => (⟨hk, hk.2⟩ : _ ∧ k_ ≠ gb443))) (fun _ hk => hk.2) (.string ((rd_T29 t381 x219_5).f0))) (fun _ hk => hk.2) (.string ((rd_T29 t381 x219_5).f1))) (fun _ hk => hk.2) (.int .i64 ((rd_T29 t381 x219_5).f2))) (fun _ hk => hk.2) (.int .i64 ((rd_T29 t381 x219_5).f3))) (fun _ hk => hk.1.1)⟩, ⟨by (with_reducible repeat (first|apply Kd.R_alloc|apply Kd.R_drewN|apply Kd.R_drew)); exact Kd.R_mono (Kd.R_far (p := ⟨gb443, 3, none⟩) (Kd.R_far (p := ⟨gb443, 2, none⟩) (Kd.R_far (p := ⟨gb443, 1, none⟩) (Kd.R_far (p := ⟨gb443, 0, none⟩) (Kd.R_mono HO_217.out (fun k_ hk => (⟨hk, hk.2⟩ : _ ∧ k_ ≠ gb443))) (fun _ hk => hk.2) (.string ((rd_T29 t381 x219_5).f0))) (fun _ hk => hk.2) (.string ((rd_T29 t381 x219_5).f1))) (fun _ hk => hk.2) (.int .i64 ((rd_T29 t381 x219_5).f2))) (fun _ hk => hk.2) (.int .i64 ((rd_T29 t381 x219_5).f3))) (fun _ hk => hk.1.1)⟩, ⟨by (with_reducible repeat (first|refine blk_drewN ?_ _ | refine blk_drew ?_ | refine blk_alloc ?_ _)); refine blk_far ?_ NB400_443.out _; (with_reducible repeat (first|refine blk_drewN ?_ _ | refine blk_drew ?_ | refine blk_alloc ?_ _)); refine blk_far ?_ NB400_443.out _; (with_reducible repeat (first|refine blk_drewN ?_ _ | refine blk_drew ?_ | refine blk_alloc ?_ _)); refine blk_far ?_ NB400_443.out _; (with_reducible repeat (first|refine blk_drewN ?_ _ | refine blk_drew ?_ | refine blk_alloc ?_ _)); refine blk_far ?_ NB400_443.out _; (with_reducible repeat (first|refine blk_drewN ?_ _ | refine blk_drew ?_ | refine blk_alloc ?_ _)); exact BK400.out⟩, ⟨by repeat (first|(with_reducible first|exact HB.out|apply below_alloc|apply pw_below_drewN|apply below_drew1 | refine below_set ?_ GE400.out | refine below_set ?_ GE443.out)|exact HB.out)⟩⟩
                       ·rw [if_neg c130] at H
                        have c130b0 : (x219_5 == t382) = false := beq_eq_false_iff_ne.mpr c130
                        have c130b1 : (x219_5 != t382) = true := bne_iff_ne.mpr c130
                        replace H := Option.bind_eq_some_iff.mp H
                        obtain ⟨⟨t444, t445⟩, A1340, H⟩ := H
                        try dsimp only at H
                        have A134 := Aside0.mk A1340
                        clear A1340
                        replace H := Option.bind_eq_some_iff.mp H
                        obtain ⟨⟨t446, t447⟩, A1350, H⟩ := H
                        try dsimp only at H
                        have A135 := Aside0.mk A1350
                        clear A1350
                        have HC136 := Aside0.mk H
                        clear H
                        have p442 : 0 ≤ (x219_5 : Int) := of_decide_eq_true (by first|(with_reducible assumption) | assumption)
                        have q442 : x219_5 < (t381.length : Int) := of_decide_eq_true (by first|(with_reducible assumption) | assumption)
                        obtain ⟨ad442, e442, hx442_0, hx442_1, hx442_2, hx442_3⟩ := at_T29 (Kd.R_reads' HO_217.out).2.2 x219_5 p442 q442
                        cases e442
                        replace p442 := eq_true p442
                        replace q442 := eq_true q442
                        iterate 6 (go_upto_region 34 with (first|((with_reducible refine gate_dst (N := 34) rfl ?_); (try (refine gate_guard (by rfl) ?_; dsimp only)); refine box_event ?hg (N := 34) ?hd (cs := #[.string (⟨#[]⟩ : ByteArray), .string (⟨#[]⟩ : ByteArray), .int .i64 0, .int .i64 0]) (t := 29) ?hr ?_;(case hd => rfl);(case hg => rfl);(case hr => first|(go_simp;done)|(go_simp; rfl)); intro gb443 hg w137 hbox hb; have n0_ := Aside0.mk (Kd.R_below (Kd.R_elderB (by (with_reducible repeat (first|apply Kd.R_alloc|apply Kd.R_drewN|apply Kd.R_drew)); exact HO_5.out) gb443 (Nat.le_of_eq hg.symm)) hb); have n1_ := Aside0.mk (Kd.R_below (Kd.R_elderB (by (with_reducible repeat (first|apply Kd.R_alloc|apply Kd.R_drewN|apply Kd.R_drew)); exact HO_7.out) gb443 (Nat.le_of_eq hg.symm)) hb); have n2_ := Aside0.mk (Kd.R_below (Kd.R_elderB (by (with_reducible repeat (first|apply Kd.R_alloc|apply Kd.R_drewN|apply Kd.R_drew)); exact HO_9.out) gb443 (Nat.le_of_eq hg.symm)) hb); have n3_ := Aside0.mk (Kd.R_below (Kd.R_elderB (by (with_reducible repeat (first|apply Kd.R_alloc|apply Kd.R_drewN|apply Kd.R_drew)); exact HO_217.out) gb443 (Nat.le_of_eq hg.symm)) hb); have n4_ := Aside0.mk (blk_below (g := gb400) (o := .cells #[.string t396, .string t397, .int .i64 t398, .int .i64 t399] 29 (0, 0)) (by (with_reducible repeat (first|refine blk_drewN ?_ _ | refine blk_drew ?_ | refine blk_alloc ?_ _)); exact BK400.out) hb); have n5_ := Aside0.mk (below_step (by repeat (first|(with_reducible first|exact HB.out|apply below_alloc|apply pw_below_drewN|apply below_drew1 | refine below_set ?_ GE400.out)|exact HB.out)) hb); have n6_ := Aside0.mk (hbox); have n7_ := Aside0.mk ((by rw [hg]; exact (below_size (by repeat (first|(with_reducible first|exact HB.out|apply below_alloc|apply pw_below_drewN|apply below_drew1 | refine below_set ?_ GE400.out)|exact HB.out))) : w.heap.size ≤ gb443)); have n8_ := Aside0.mk ((by rw [hg]; exact (below_size (by repeat (first|(with_reducible first|exact HB.out|apply below_alloc|apply pw_below_drewN|apply below_drew1 | refine below_set ?_ GE400.out)|exact HB.out))) : w.heap.size ≤ gb443)); have n9_ := Aside0.mk ((by rw [hg]; exact Nat.ne_of_lt (blk_lt (g := gb400) (o := .cells #[.string t396, .string t397, .int .i64 t398, .int .i64 t399] 29 (0, 0)) (by (with_reducible repeat (first|refine blk_drewN ?_ _ | refine blk_drew ?_ | refine blk_alloc ?_ _)); exact BK400.out)) : gb400 ≠ gb443)); have n10_ := Aside0.mk ((by rw [hg]; exact Nat.ne_of_gt (blk_lt (g := gb400) (o := .cells #[.string t396, .string t397, .int .i64 t398, .int .i64 t399] 29 (0, 0)) (by (with_reducible repeat (first|refine blk_drewN ?_ _ | refine blk_drew ?_ | refine blk_alloc ?_ _)); exact BK400.out)) : gb443 ≠ gb400)); clear HO_5; clear HO_7; clear HO_9; clear HO_217; clear BK400; clear HB; have HO_5 := n0_; have HO_7 := n1_; have HO_9 := n2_; have HO_217 := n3_; have BK400 := n4_; have HB := n5_; have BK443 := n6_; have GW443 := n7_; have GE443 := n8_; have NB400_443 := n9_; have NB443_400 := n10_; clear n0_ n1_ n2_ n3_ n4_ n5_ n6_ n7_ n8_ n9_ n10_; clear hb hbox hg; have hnb138 := NB443_400.out; have hnc138 := NB400_443.out; have hcz139_0 : w137.cell? ⟨gb443, 0, none⟩ = some (.string (⟨#[]⟩ : ByteArray)) := (blk_cell BK443.out 0).trans rfl; have hcz139_1 : w137.cell? ⟨gb443, 1, none⟩ = some (.string (⟨#[]⟩ : ByteArray)) := (blk_cell BK443.out 1).trans rfl; have hcz139_2 : w137.cell? ⟨gb443, 2, none⟩ = some (.int .i64 0) := (blk_cell BK443.out 2).trans rfl; have hcz139_3 : w137.cell? ⟨gb443, 3, none⟩ = some (.int .i64 0) := (blk_cell BK443.out 3).trans rfl; have hfz139_0 := blk_frozen BK443.out 0; have hfz139_1 := blk_frozen BK443.out 1; have hfz139_2 := blk_frozen BK443.out 2; have hfz139_3 := blk_frozen BK443.out 3; obtain ⟨Ao140, co140, eo140⟩ := Kd.R_slice HO_7.out; subst eo140)|(go_at_call 14; (with_reducible refine (impl_FindRoll.calls k5 _ _ t385 ((rd_T29 t381 x219_5).f0) t444 t445 _ ?side1 ?side2 A134.out).mono ?_);(case side1 => refine (Kd.R_reads' (e := 29) (base := w.heap.size) (ok := fun k_ => (k_ ≠ gb400 ∧ k_ ≠ gb443)) (n := t385.length) (c := co140) ?_).2.2; exact (by (with_reducible repeat (first|apply Kd.R_alloc|apply Kd.R_drewN|apply Kd.R_drew)); exact (Kd.R_mono (Kd.R_far (p := ⟨gb443, 3, none⟩) (Kd.R_far (p := ⟨gb443, 2, none⟩) (Kd.R_far (p := ⟨gb443, 1, none⟩) (Kd.R_far (p := ⟨gb443, 0, none⟩) (Kd.R_mono HO_7.out (fun k_ hk => (⟨hk, hk.2⟩ : _ ∧ k_ ≠ gb443))) (fun _ hk => hk.2) (.string ((rd_T29 t381 x219_5).f0))) (fun _ hk => hk.2) (.string ((rd_T29 t381 x219_5).f1))) (fun _ hk => hk.2) (.int .i64 ((rd_T29 t381 x219_5).f2))) (fun _ hk => hk.2) (.int .i64 ((rd_T29 t381 x219_5).f3))) (fun _ h_ => h_.1))));(case side2 => exact (Kd.R_reads' HO_7.out).2.1); rintro e w141 ⟨rfl, hb⟩; have n0_ := Aside0.mk (Kd.R_below (by (with_reducible repeat (first|apply Kd.R_alloc|apply Kd.R_drewN|apply Kd.R_drew)); exact (Kd.R_mono (Kd.R_far (p := ⟨gb443, 3, none⟩) (Kd.R_far (p := ⟨gb443, 2, none⟩) (Kd.R_far (p := ⟨gb443, 1, none⟩) (Kd.R_far (p := ⟨gb443, 0, none⟩) (Kd.R_mono HO_5.out (fun k_ hk => (⟨hk, hk.2⟩ : _ ∧ k_ ≠ gb443))) (fun _ hk => hk.2) (.string ((rd_T29 t381 x219_5).f0))) (fun _ hk => hk.2) (.string ((rd_T29 t381 x219_5).f1))) (fun _ hk => hk.2) (.int .i64 ((rd_T29 t381 x219_5).f2))) (fun _ hk => hk.2) (.int .i64 ((rd_T29 t381 x219_5).f3))) (fun _ h_ => h_.1))) hb); have n1_ := Aside0.mk (Kd.R_below (by (with_reducible repeat (first|apply Kd.R_alloc|apply Kd.R_drewN|apply Kd.R_drew)); exact (Kd.R_mono (Kd.R_far (p := ⟨gb443, 3, none⟩) (Kd.R_far (p := ⟨gb443, 2, none⟩) (Kd.R_far (p := ⟨gb443, 1, none⟩) (Kd.R_far (p := ⟨gb443, 0, none⟩) (Kd.R_mono HO_7.out (fun k_ hk => (⟨hk, hk.2⟩ : _ ∧ k_ ≠ gb443))) (fun _ hk => hk.2) (.string ((rd_T29 t381 x219_5).f0))) (fun _ hk => hk.2) (.string ((rd_T29 t381 x219_5).f1))) (fun _ hk => hk.2) (.int .i64 ((rd_T29 t381 x219_5).f2))) (fun _ hk => hk.2) (.int .i64 ((rd_T29 t381 x219_5).f3))) (fun _ h_ => h_.1))) hb); have n2_ := Aside0.mk (Kd.R_below (by (with_reducible repeat (first|apply Kd.R_alloc|apply Kd.R_drewN|apply Kd.R_drew)); exact (Kd.R_mono (Kd.R_far (p := ⟨gb443, 3, none⟩) (Kd.R_far (p := ⟨gb443, 2, none⟩) (Kd.R_far (p := ⟨gb443, 1, none⟩) (Kd.R_far (p := ⟨gb443, 0, none⟩) (Kd.R_mono HO_9.out (fun k_ hk => (⟨hk, hk.2⟩ : _ ∧ k_ ≠ gb443))) (fun _ hk => hk.2) (.string ((rd_T29 t381 x219_5).f0))) (fun _ hk => hk.2) (.string ((rd_T29 t381 x219_5).f1))) (fun _ hk => hk.2) (.int .i64 ((rd_T29 t381 x219_5).f2))) (fun _ hk => hk.2) (.int .i64 ((rd_T29 t381 x219_5).f3))) (fun _ h_ => h_.1))) hb); have n3_ := Aside0.mk (Kd.R_below (by (with_reducible repeat (first|apply Kd.R_alloc|apply Kd.R_drewN|apply Kd.R_drew)); exact (Kd.R_mono (Kd.R_far (p := ⟨gb443, 3, none⟩) (Kd.R_far (p := ⟨gb443, 2, none⟩) (Kd.R_far (p := ⟨gb443, 1, none⟩) (Kd.R_far (p := ⟨gb443, 0, none⟩) (Kd.R_mono HO_217.out (fun k_ hk => (⟨hk, hk.2⟩ : _ ∧ k_ ≠ gb443))) (fun _ hk => hk.2) (.string ((rd_T29 t381 x219_5).f0))) (fun _ hk => hk.2) (.string ((rd_T29 t381 x219_5).f1))) (fun _ hk => hk.2) (.int .i64 ((rd_T29 t381 x219_5).f2))) (fun _ hk => hk.2) (.int .i64 ((rd_T29 t381 x219_5).f3))) (fun _ h_ => h_.1))) hb); have n4_ := Aside0.mk (blk_below (g := gb400) (o := .cells #[.string t396, .string t397, .int .i64 t398, .int .i64 t399] 29 (0, 0)) (by (with_reducible repeat (first|refine blk_drewN ?_ _ | refine blk_drew ?_ | refine blk_alloc ?_ _)); refine blk_far ?_ NB400_443.out _; (with_reducible repeat (first|refine blk_drewN ?_ _ | refine blk_drew ?_ | refine blk_alloc ?_ _)); refine blk_far ?_ NB400_443.out _; (with_reducible repeat (first|refine blk_drewN ?_ _ | refine blk_drew ?_ | refine blk_alloc ?_ _)); refine blk_far ?_ NB400_443.out _; (with_reducible repeat (first|refine blk_drewN ?_ _ | refine blk_drew ?_ | refine blk_alloc ?_ _)); refine blk_far ?_ NB400_443.out _; (with_reducible repeat (first|refine blk_drewN ?_ _ | refine blk_drew ?_ | refine blk_alloc ?_ _)); exact BK400.out) hb); have n5_ := Aside0.mk (blk_below (g := gb443) (o := .cells #[.string ((rd_T29 t381 x219_5).f0), .string ((rd_T29 t381 x219_5).f1), .int .i64 ((rd_T29 t381 x219_5).f2), .int .i64 ((rd_T29 t381 x219_5).f3)] 29 (0, 0)) (by (with_reducible repeat (first|refine blk_drewN ?_ _ | refine blk_drew ?_ | refine blk_alloc ?_ _)); refine blk_put (cs := #[.string ((rd_T29 t381 x219_5).f0), .string ((rd_T29 t381 x219_5).f1), .int .i64 ((rd_T29 t381 x219_5).f2), .int .i64 0]) ?_ 3 _ rfl; (with_reducible repeat (first|refine blk_drewN ?_ _ | refine blk_drew ?_ | refine blk_alloc ?_ _)); refine blk_put (cs := #[.string ((rd_T29 t381 x219_5).f0), .string ((rd_T29 t381 x219_5).f1), .int .i64 0, .int .i64 0]) ?_ 2 _ rfl; (with_reducible repeat (first|refine blk_drewN ?_ _ | refine blk_drew ?_ | refine blk_alloc ?_ _)); refine blk_put (cs := #[.string ((rd_T29 t381 x219_5).f0), .string (⟨#[]⟩ : ByteArray), .int .i64 0, .int .i64 0]) ?_ 1 _ rfl; (with_reducible repeat (first|refine blk_drewN ?_ _ | refine blk_drew ?_ | refine blk_alloc ?_ _)); refine blk_put (cs := #[.string (⟨#[]⟩ : ByteArray), .string (⟨#[]⟩ : ByteArray), .int .i64 0, .int .i64 0]) ?_ 0 _ rfl; (with_reducible repeat (first|refine blk_drewN ?_ _ | refine blk_drew ?_ | refine blk_alloc ?_ _)); exact BK443.out) hb); have n6_ := Aside0.mk (below_step (by repeat (first|(with_reducible first|exact HB.out|apply below_alloc|apply pw_below_drewN|apply below_drew1 | refine below_set ?_ GE400.out | refine below_set ?_ GE443.out)|exact HB.out)) hb); clear HO_5; clear HO_7; clear HO_9; clear HO_217; clear BK400; clear BK443; clear HB; have HO_5 := n0_; have HO_7 := n1_; have HO_9 := n2_; have HO_217 := n3_; have BK400 := n4_; have BK443 := n5_; have HB := n6_; clear n0_ n1_ n2_ n3_ n4_ n5_ n6_; (try clear hb); (try clear hb2); (try clear hk); (try clear hi); have hcz142_0 : w141.cell? ⟨gb443, 0, none⟩ = some (.string ((rd_T29 t381 x219_5).f0)) := (blk_cell BK443.out 0).trans rfl; have hcz142_1 : w141.cell? ⟨gb443, 1, none⟩ = some (.string ((rd_T29 t381 x219_5).f1)) := (blk_cell BK443.out 1).trans rfl; have hcz142_2 : w141.cell? ⟨gb443, 2, none⟩ = some (.int .i64 ((rd_T29 t381 x219_5).f2)) := (blk_cell BK443.out 2).trans rfl; have hcz142_3 : w141.cell? ⟨gb443, 3, none⟩ = some (.int .i64 ((rd_T29 t381 x219_5).f3)) := (blk_cell BK443.out 3).trans rfl; have hfz142_0 := blk_frozen BK443.out 0; have hfz142_1 := blk_frozen BK443.out 1; have hfz142_2 := blk_frozen BK443.out 2; have hfz142_3 := blk_frozen BK443.out 3; obtain ⟨Ao143, co143, eo143⟩ := Kd.R_slice HO_9.out; subst eo143)|(go_at_call 15; (with_reducible refine (spec_FindRoll.calls k5 _ _ t389 ((rd_T29 t381 x219_5).f0) t446 t447 _ ?side1 ?side2 A135.out).mono ?_);(case side1 => repeat (first|exact (Kd.R_reads' HO_9.out).2.2|(with_reducible refine Kd.C_alloc ?_ _)|(with_reducible refine Kd.C_drewN ?_ _)|(with_reducible refine Kd.C_drew ?_)));(case side2 => exact (Kd.R_reads' HO_9.out).2.1); rintro e w144 ⟨rfl, hb⟩; have n0_ := Aside0.mk (Kd.R_below (by (with_reducible repeat (first|apply Kd.R_alloc|apply Kd.R_drewN|apply Kd.R_drew)); exact HO_5.out) hb); have n1_ := Aside0.mk (Kd.R_below (by (with_reducible repeat (first|apply Kd.R_alloc|apply Kd.R_drewN|apply Kd.R_drew)); exact HO_7.out) hb); have n2_ := Aside0.mk (Kd.R_below (by (with_reducible repeat (first|apply Kd.R_alloc|apply Kd.R_drewN|apply Kd.R_drew)); exact HO_9.out) hb); have n3_ := Aside0.mk (Kd.R_below (by (with_reducible repeat (first|apply Kd.R_alloc|apply Kd.R_drewN|apply Kd.R_drew)); exact HO_217.out) hb); have n4_ := Aside0.mk (blk_below (g := gb400) (o := .cells #[.string t396, .string t397, .int .i64 t398, .int .i64 t399] 29 (0, 0)) (by (with_reducible repeat (first|refine blk_drewN ?_ _ | refine blk_drew ?_ | refine blk_alloc ?_ _)); exact BK400.out) hb); have n5_ := Aside0.mk (blk_below (g := gb443) (o := .cells #[.string ((rd_T29 t381 x219_5).f0), .string ((rd_T29 t381 x219_5).f1), .int .i64 ((rd_T29 t381 x219_5).f2), .int .i64 ((rd_T29 t381 x219_5).f3)] 29 (0, 0)) (by (with_reducible repeat (first|refine blk_drewN ?_ _ | refine blk_drew ?_ | refine blk_alloc ?_ _)); exact BK443.out) hb); have n6_ := Aside0.mk (below_step (by repeat (first|(with_reducible first|exact HB.out|apply below_alloc|apply pw_below_drewN|apply below_drew1 | refine below_set ?_ GE400.out | refine below_set ?_ GE443.out)|exact HB.out)) hb); clear HO_5; clear HO_7; clear HO_9; clear HO_217; clear BK400; clear BK443; clear HB; have HO_5 := n0_; have HO_7 := n1_; have HO_9 := n2_; have HO_217 := n3_; have BK400 := n4_; have BK443 := n5_; have HB := n6_; clear n0_ n1_ n2_ n3_ n4_ n5_ n6_; (try clear hb); (try clear hb2); (try clear hk); (try clear hi))); try go_quiet (fail))
                        (try simp only [Act.put, List.setIfInBounds_toArray, List.set_cons_zero, List.set_cons_succ])
                        go_cut [271] (fun v271 wc => ∃ (kq : Nat) (x271_135 : Bool), v271 = .bool x271_135 ∧ Aside0 (laws_FnRolls.j5 kq t381 t382 t385 t389 t446 t381 (t381.length : Int) x219_5 x271_135 ((rd_T29 t381 x219_5).f0) ((rd_T29 t381 x219_5).f1) ((rd_T29 t381 x219_5).f2) ((rd_T29 t381 x219_5).f3) = some r) ∧ Aside0 (kq ≤ k5) ∧ Aside0 (Kd.R k29 29 wc w.heap.size (fun k_ => k_ ≠ gb400 ∧ k_ ≠ gb443) (.slice (some ad442) t381.length co18) t381) ∧ Aside0 (Kd.R k29 29 wc w.heap.size (fun k_ => k_ ≠ gb400 ∧ k_ ≠ gb443) (.slice Ao140 t385.length co140) t385) ∧ Aside0 (Kd.R k29 29 wc w.heap.size (fun k_ => k_ ≠ gb400 ∧ k_ ≠ gb443) (.slice Ao143 t389.length co143) t389) ∧ Aside0 (Kd.R k29 29 wc w.heap.size (fun k_ => k_ ≠ gb400 ∧ k_ ≠ gb443) (.slice (some ad442) t381.length co18) t381) ∧ Aside0 (wc.heap[gb400]? = some (.cells #[.string t396, .string t397, .int .i64 t398, .int .i64 t399] 29 (0, 0))) ∧ Aside0 (wc.heap[gb443]? = some (.cells #[.string ((rd_T29 t381 x219_5).f0), .string ((rd_T29 t381 x219_5).f1), .int .i64 ((rd_T29 t381 x219_5).f2), .int .i64 ((rd_T29 t381 x219_5).f3)] 29 (0, 0))) ∧ Aside0 (Below w.heap.size w wc))
                        case first =>
                         as_aux_lemma =>
                          have H := HC136.out
                          clear HC136
                          by_cases c145 : t445 = true
                          ·subst c145
                           have H1 : (if t447 = true then (if t444 = t446 then (if 0 ≤ t446 then (if t446 < (t389.length : Int) then (if ((rd_T29 t389 t446).f1).toList = ((rd_T29 t381 x219_5).f1).toList then (laws_FnRolls.j5 k5 t381 t382 t385 t389 t446 t381 (t381.length : Int) x219_5 (((rd_T29 t389 t446).f2) != ((rd_T29 t381 x219_5).f2)) ((rd_T29 t381 x219_5).f0) ((rd_T29 t381 x219_5).f1) ((rd_T29 t381 x219_5).f2) ((rd_T29 t381 x219_5).f3)) else (laws_FnRolls.j5 k5 t381 t382 t385 t389 t446 t381 (t381.length : Int) x219_5 true ((rd_T29 t381 x219_5).f0) ((rd_T29 t381 x219_5).f1) ((rd_T29 t381 x219_5).f2) ((rd_T29 t381 x219_5).f3))) else (none)) else (none)) else (laws_FnRolls.j5 k5 t381 t382 t385 t389 t446 t381 (t381.length : Int) x219_5 true ((rd_T29 t381 x219_5).f0) ((rd_T29 t381 x219_5).f1) ((rd_T29 t381 x219_5).f2) ((rd_T29 t381 x219_5).f3))) else (laws_FnRolls.j5 k5 t381 t382 t385 t389 t446 t381 (t381.length : Int) x219_5 true ((rd_T29 t381 x219_5).f0) ((rd_T29 t381 x219_5).f1) ((rd_T29 t381 x219_5).f2) ((rd_T29 t381 x219_5).f3))) = some r := by rw [if_pos rfl] at H; exact H
                           clear H
                           have H := H1
                           clear H1
                           by_cases c146 : t447 = true
                           ·subst c146
                            have H1 : (if t444 = t446 then (if 0 ≤ t446 then (if t446 < (t389.length : Int) then (if ((rd_T29 t389 t446).f1).toList = ((rd_T29 t381 x219_5).f1).toList then (laws_FnRolls.j5 k5 t381 t382 t385 t389 t446 t381 (t381.length : Int) x219_5 (((rd_T29 t389 t446).f2) != ((rd_T29 t381 x219_5).f2)) ((rd_T29 t381 x219_5).f0) ((rd_T29 t381 x219_5).f1) ((rd_T29 t381 x219_5).f2) ((rd_T29 t381 x219_5).f3)) else (laws_FnRolls.j5 k5 t381 t382 t385 t389 t446 t381 (t381.length : Int) x219_5 true ((rd_T29 t381 x219_5).f0) ((rd_T29 t381 x219_5).f1) ((rd_T29 t381 x219_5).f2) ((rd_T29 t381 x219_5).f3))) else (none)) else (none)) else (laws_FnRolls.j5 k5 t381 t382 t385 t389 t446 t381 (t381.length : Int) x219_5 true ((rd_T29 t381 x219_5).f0) ((rd_T29 t381 x219_5).f1) ((rd_T29 t381 x219_5).f2) ((rd_T29 t381 x219_5).f3))) = some r := by rw [if_pos rfl] at H; exact H
                            clear H
                            have H := H1
                            clear H1
                            by_cases c147 : t444 = t446
                            ·rw [if_pos c147] at H
                             have c147b0 : (t444 == t446) = true := beq_iff_eq.mpr c147
                             have c147b1 : (t444 != t446) = false := bne_eq_false_iff_eq.mpr c147
                             clear c147
                             (first|rw [c147b0]|(simp only [i64_w, i32_w]; rw [c147b0]) | skip)
                             by_cases c148 : 0 ≤ t446
                             ·rw [if_pos c148] at H
                              have c148b0 : decide (0 ≤ t446) = true := decide_eq_true c148
                              clear c148
                              by_cases c149 : t446 < (t389.length : Int)
                              ·rw [if_pos c149] at H
                               have c149b0 : decide (t446 < (t389.length : Int)) = true := decide_eq_true c149
                               clear c149
                               by_cases c150 : ((rd_T29 t389 t446).f1).toList = ((rd_T29 t381 x219_5).f1).toList
                               ·rw [if_pos c150] at H
                                have c150b0 : (((rd_T29 t389 t446).f1).toList == ((rd_T29 t381 x219_5).f1).toList) = true := beq_iff_eq.mpr c150
                                have c150b1 : (((rd_T29 t389 t446).f1).toList != ((rd_T29 t381 x219_5).f1).toList) = false := bne_eq_false_iff_eq.mpr c150
                                clear c150
                                have H' := Aside0.mk H
                                clear H
                                have p448 : 0 ≤ (t446 : Int) := of_decide_eq_true (by first|(with_reducible assumption) | assumption)
                                have q448 : t446 < (t389.length : Int) := of_decide_eq_true (by first|(with_reducible assumption) | assumption)
                                obtain ⟨ad448, e448, hx448_0, hx448_1, hx448_2, hx448_3⟩ := at_T29 (Kd.R_reads' HO_9.out).2.2 t446 p448 q448
                                cases e448
                                replace p448 := eq_true p448
                                replace q448 := eq_true q448
                                have hnb151 := NB443_400.out
                                have hnc151 := NB400_443.out
                                have hcz152_0 : w144.cell? ⟨gb443, 0, none⟩ = some (.string ((rd_T29 t381 x219_5).f0)) := (blk_cell BK443.out 0).trans rfl
                                have hcz152_1 : w144.cell? ⟨gb443, 1, none⟩ = some (.string ((rd_T29 t381 x219_5).f1)) := (blk_cell BK443.out 1).trans rfl
                                have hcz152_2 : w144.cell? ⟨gb443, 2, none⟩ = some (.int .i64 ((rd_T29 t381 x219_5).f2)) := (blk_cell BK443.out 2).trans rfl
                                have hcz152_3 : w144.cell? ⟨gb443, 3, none⟩ = some (.int .i64 ((rd_T29 t381 x219_5).f3)) := (blk_cell BK443.out 3).trans rfl
                                have hfz152_0 := blk_frozen BK443.out 0
                                have hfz152_1 := blk_frozen BK443.out 1
                                have hfz152_2 := blk_frozen BK443.out 2
                                have hfz152_3 := blk_frozen BK443.out 3
                                have p449 : 0 ≤ (t446 : Int) := of_decide_eq_true (by first|(with_reducible assumption) | assumption)
                                have q449 : t446 < (t389.length : Int) := of_decide_eq_true (by first|(with_reducible assumption) | assumption)
                                obtain ⟨ad449, e449, hx449_0, hx449_1, hx449_2, hx449_3⟩ := at_T29 (Kd.R_reads' HO_9.out).2.2 t446 p449 q449
                                obtain rfl : ad448 = ad449 := (by injection e449)
                                replace p449 := eq_true p449
                                replace q449 := eq_true q449
                                go_wp2
                                repeat (go_quiet (fail); try go_wp2)
                                all_goals
                                 go_meet
                                 case rel => exact ⟨_, ((((rd_T29 t389 t446).f2) != ((rd_T29 t381 x219_5).f2))), (by first | rfl|(simp;done)|(simp [*];done)), H', ⟨by have := HJ15.out; have := HJ72.out; have := HJ112.out; have := HJ118.out; have := HK5.out; first | omega|exact Nat.le_refl _⟩, ⟨by (with_reducible repeat (first|apply Kd.R_alloc|apply Kd.R_drewN|apply Kd.R_drew)); exact HO_5.out⟩, ⟨by (with_reducible repeat (first|apply Kd.R_alloc|apply Kd.R_drewN|apply Kd.R_drew)); exact HO_7.out⟩, ⟨by (with_reducible repeat (first|apply Kd.R_alloc|apply Kd.R_drewN|apply Kd.R_drew)); exact HO_9.out⟩, ⟨by (with_reducible repeat (first|apply Kd.R_alloc|apply Kd.R_drewN|apply Kd.R_drew)); exact HO_217.out⟩, ⟨by (with_reducible repeat (first|refine blk_drewN ?_ _ | refine blk_drew ?_ | refine blk_alloc ?_ _)); exact BK400.out⟩, ⟨by (with_reducible repeat (first|refine blk_drewN ?_ _ | refine blk_drew ?_ | refine blk_alloc ?_ _)); exact BK443.out⟩, ⟨by repeat (first|(with_reducible first|exact HB.out|apply below_alloc|apply pw_below_drewN|apply below_drew1 | refine below_set ?_ GE400.out | refine below_set ?_ GE443.out)|exact HB.out)⟩⟩
                               ·rw [if_neg c150] at H
                                have c150b0 : (((rd_T29 t389 t446).f1).toList == ((rd_T29 t381 x219_5).f1).toList) = false := beq_eq_false_iff_ne.mpr c150
                                have c150b1 : (((rd_T29 t389 t446).f1).toList != ((rd_T29 t381 x219_5).f1).toList) = true := bne_iff_ne.mpr c150
                                have H' := Aside0.mk H
                                clear H
                                have p448 : 0 ≤ (t446 : Int) := of_decide_eq_true (by first|(with_reducible assumption) | assumption)
                                have q448 : t446 < (t389.length : Int) := of_decide_eq_true (by first|(with_reducible assumption) | assumption)
                                obtain ⟨ad448, e448, hx448_0, hx448_1, hx448_2, hx448_3⟩ := at_T29 (Kd.R_reads' HO_9.out).2.2 t446 p448 q448
                                cases e448
                                replace p448 := eq_true p448
                                replace q448 := eq_true q448
                                have hnb153 := NB443_400.out
                                have hnc153 := NB400_443.out
                                have hcz154_0 : w144.cell? ⟨gb443, 0, none⟩ = some (.string ((rd_T29 t381 x219_5).f0)) := (blk_cell BK443.out 0).trans rfl
                                have hcz154_1 : w144.cell? ⟨gb443, 1, none⟩ = some (.string ((rd_T29 t381 x219_5).f1)) := (blk_cell BK443.out 1).trans rfl
                                have hcz154_2 : w144.cell? ⟨gb443, 2, none⟩ = some (.int .i64 ((rd_T29 t381 x219_5).f2)) := (blk_cell BK443.out 2).trans rfl
                                have hcz154_3 : w144.cell? ⟨gb443, 3, none⟩ = some (.int .i64 ((rd_T29 t381 x219_5).f3)) := (blk_cell BK443.out 3).trans rfl
                                have hfz154_0 := blk_frozen BK443.out 0
                                have hfz154_1 := blk_frozen BK443.out 1
                                have hfz154_2 := blk_frozen BK443.out 2
                                have hfz154_3 := blk_frozen BK443.out 3
                                go_wp2
                                repeat (go_quiet (fail); try go_wp2)
                                all_goals
                                 go_meet
                                 case rel => exact ⟨_, (true), (by first | rfl|(simp;done)|(simp [*];done)), H', ⟨by have := HJ15.out; have := HJ72.out; have := HJ112.out; have := HJ118.out; have := HK5.out; first | omega|exact Nat.le_refl _⟩, ⟨by (with_reducible repeat (first|apply Kd.R_alloc|apply Kd.R_drewN|apply Kd.R_drew)); exact HO_5.out⟩, ⟨by (with_reducible repeat (first|apply Kd.R_alloc|apply Kd.R_drewN|apply Kd.R_drew)); exact HO_7.out⟩, ⟨by (with_reducible repeat (first|apply Kd.R_alloc|apply Kd.R_drewN|apply Kd.R_drew)); exact HO_9.out⟩, ⟨by (with_reducible repeat (first|apply Kd.R_alloc|apply Kd.R_drewN|apply Kd.R_drew)); exact HO_217.out⟩, ⟨by (with_reducible repeat (first|refine blk_drewN ?_ _ | refine blk_drew ?_ | refine blk_alloc ?_ _)); exact BK400.out⟩, ⟨by (with_reducible repeat (first|refine blk_drewN ?_ _ | refine blk_drew ?_ | refine blk_alloc ?_ _)); exact BK443.out⟩, ⟨by repeat (first|(with_reducible first|exact HB.out|apply below_alloc|apply pw_below_drewN|apply below_drew1 | refine below_set ?_ GE400.out | refine below_set ?_ GE443.out)|exact HB.out)⟩⟩
                              ·rw [if_neg c149] at H
                               exact absurd H (by simp)
                             ·rw [if_neg c148] at H
                              exact absurd H (by simp)
                            ·rw [if_neg c147] at H
                             have c147b0 : (t444 == t446) = false := beq_eq_false_iff_ne.mpr c147
                             have c147b1 : (t444 != t446) = true := bne_iff_ne.mpr c147
                             (first|rw [c147b0]|(simp only [i64_w, i32_w]; rw [c147b0]) | skip)
                             have H' := Aside0.mk H
                             clear H
                             go_wp2
                             repeat (go_quiet (fail); try go_wp2)
                             all_goals
                              go_meet
                              case rel => exact ⟨_, (true), (by first | rfl|(simp;done)|(simp [*];done)), H', ⟨by have := HJ15.out; have := HJ72.out; have := HJ112.out; have := HJ118.out; have := HK5.out; first | omega|exact Nat.le_refl _⟩, ⟨by (with_reducible repeat (first|apply Kd.R_alloc|apply Kd.R_drewN|apply Kd.R_drew)); exact HO_5.out⟩, ⟨by (with_reducible repeat (first|apply Kd.R_alloc|apply Kd.R_drewN|apply Kd.R_drew)); exact HO_7.out⟩, ⟨by (with_reducible repeat (first|apply Kd.R_alloc|apply Kd.R_drewN|apply Kd.R_drew)); exact HO_9.out⟩, ⟨by (with_reducible repeat (first|apply Kd.R_alloc|apply Kd.R_drewN|apply Kd.R_drew)); exact HO_217.out⟩, ⟨by (with_reducible repeat (first|refine blk_drewN ?_ _ | refine blk_drew ?_ | refine blk_alloc ?_ _)); exact BK400.out⟩, ⟨by (with_reducible repeat (first|refine blk_drewN ?_ _ | refine blk_drew ?_ | refine blk_alloc ?_ _)); exact BK443.out⟩, ⟨by repeat (first|(with_reducible first|exact HB.out|apply below_alloc|apply pw_below_drewN|apply below_drew1 | refine below_set ?_ GE400.out | refine below_set ?_ GE443.out)|exact HB.out)⟩⟩
                           ·replace c146 := Bool.eq_false_iff.mpr c146
                            subst c146
                            have H1 : (laws_FnRolls.j5 k5 t381 t382 t385 t389 t446 t381 (t381.length : Int) x219_5 true ((rd_T29 t381 x219_5).f0) ((rd_T29 t381 x219_5).f1) ((rd_T29 t381 x219_5).f2) ((rd_T29 t381 x219_5).f3)) = some r := by rw [if_neg (show ¬ (false = true) by decide)] at H; exact H
                            clear H
                            have H := H1
                            clear H1
                            have H' := Aside0.mk H
                            clear H
                            go_wp2
                            repeat (go_quiet (fail); try go_wp2)
                            all_goals
                             go_meet
                             case rel => exact ⟨_, (true), (by first | rfl|(simp;done)|(simp [*];done)), H', ⟨by have := HJ15.out; have := HJ72.out; have := HJ112.out; have := HJ118.out; have := HK5.out; first | omega|exact Nat.le_refl _⟩, ⟨by (with_reducible repeat (first|apply Kd.R_alloc|apply Kd.R_drewN|apply Kd.R_drew)); exact HO_5.out⟩, ⟨by (with_reducible repeat (first|apply Kd.R_alloc|apply Kd.R_drewN|apply Kd.R_drew)); exact HO_7.out⟩, ⟨by (with_reducible repeat (first|apply Kd.R_alloc|apply Kd.R_drewN|apply Kd.R_drew)); exact HO_9.out⟩, ⟨by (with_reducible repeat (first|apply Kd.R_alloc|apply Kd.R_drewN|apply Kd.R_drew)); exact HO_217.out⟩, ⟨by (with_reducible repeat (first|refine blk_drewN ?_ _ | refine blk_drew ?_ | refine blk_alloc ?_ _)); exact BK400.out⟩, ⟨by (with_reducible repeat (first|refine blk_drewN ?_ _ | refine blk_drew ?_ | refine blk_alloc ?_ _)); exact BK443.out⟩, ⟨by repeat (first|(with_reducible first|exact HB.out|apply below_alloc|apply pw_below_drewN|apply below_drew1 | refine below_set ?_ GE400.out | refine below_set ?_ GE443.out)|exact HB.out)⟩⟩
                          ·replace c145 := Bool.eq_false_iff.mpr c145
                           subst c145
                           have H1 : (laws_FnRolls.j5 k5 t381 t382 t385 t389 t446 t381 (t381.length : Int) x219_5 true ((rd_T29 t381 x219_5).f0) ((rd_T29 t381 x219_5).f1) ((rd_T29 t381 x219_5).f2) ((rd_T29 t381 x219_5).f3)) = some r := by rw [if_neg (show ¬ (false = true) by decide)] at H; exact H
                           clear H
                           have H := H1
                           clear H1
                           have H' := Aside0.mk H
                           clear H
                           go_wp2
                           repeat (go_quiet (fail); try go_wp2)
                           all_goals
                            go_meet
                            case rel => exact ⟨_, (true), (by first | rfl|(simp;done)|(simp [*];done)), H', ⟨by have := HJ15.out; have := HJ72.out; have := HJ112.out; have := HJ118.out; have := HK5.out; first | omega|exact Nat.le_refl _⟩, ⟨by (with_reducible repeat (first|apply Kd.R_alloc|apply Kd.R_drewN|apply Kd.R_drew)); exact HO_5.out⟩, ⟨by (with_reducible repeat (first|apply Kd.R_alloc|apply Kd.R_drewN|apply Kd.R_drew)); exact HO_7.out⟩, ⟨by (with_reducible repeat (first|apply Kd.R_alloc|apply Kd.R_drewN|apply Kd.R_drew)); exact HO_9.out⟩, ⟨by (with_reducible repeat (first|apply Kd.R_alloc|apply Kd.R_drewN|apply Kd.R_drew)); exact HO_217.out⟩, ⟨by (with_reducible repeat (first|refine blk_drewN ?_ _ | refine blk_drew ?_ | refine blk_alloc ?_ _)); exact BK400.out⟩, ⟨by (with_reducible repeat (first|refine blk_drewN ?_ _ | refine blk_drew ?_ | refine blk_alloc ?_ _)); exact BK443.out⟩, ⟨by repeat (first|(with_reducible first|exact HB.out|apply below_alloc|apply pw_below_drewN|apply below_drew1 | refine below_set ?_ GE400.out | refine below_set ?_ GE443.out)|exact HB.out)⟩⟩
                        case rest =>
                         as_aux_lemma =>
                          clear HC136
                          try clear c1
                          try clear p2
                          try clear c3
                          try clear c3b0
                          try clear c4
                          try clear p4
                          try clear q4
                          try clear hx4
                          try clear c5
                          try clear p6
                          try clear c7
                          try clear c8
                          try clear c11
                          try clear c12
                          try clear c13
                          try clear c14
                          try clear c15
                          try clear c36
                          try clear c36b0
                          try clear c36b1
                          try clear c36b2
                          try clear c38
                          try clear c39
                          try clear c39b0
                          try clear c39b1
                          try clear c39b2
                          try clear c43
                          try clear c44
                          try clear c44b0
                          try clear c44b1
                          try clear c44b2
                          try clear p44
                          try clear q44
                          try clear hx44
                          try clear c49
                          try clear c49b0
                          try clear c49b1
                          try clear c50
                          try clear c50b0
                          try clear c50b1
                          try clear c50b2
                          try clear p64
                          try clear c72
                          try clear c74
                          try clear c77
                          try clear c78
                          try clear c78b0
                          try clear c78b1
                          try clear c79
                          try clear c81
                          try clear c83
                          try clear c114
                          try clear c115
                          try clear c115b0
                          try clear c116
                          try clear c116b0
                          try clear c117
                          try clear c118
                          try clear c120
                          try clear c120b0
                          try clear c120b1
                          try clear c126
                          try clear c127
                          try clear c127b0
                          try clear c128
                          try clear c128b0
                          try clear c129
                          try clear c129b0
                          try clear c130
                          try clear c130b0
                          try clear c130b1
                          try clear c132
                          try clear c138
                          try clear c145
                          try clear c146
                          try clear c147
                          try clear c147b0
                          try clear c147b1
                          try clear c148
                          try clear c148b0
                          try clear c149
                          try clear c149b0
                          try clear c150
                          try clear c150b0
                          try clear c150b1
                          try clear c151
                          try clear c153
                          try clear hcz101_0
                          try clear hcz101_1
                          try clear hcz101_2
                          try clear hcz101_3
                          try clear hcz105_0
                          try clear hcz105_1
                          try clear hcz105_2
                          try clear hcz105_3
                          try clear hcz109_0
                          try clear hcz109_1
                          try clear hcz109_2
                          try clear hcz109_3
                          try clear hcz133_0
                          try clear hcz133_1
                          try clear hcz133_2
                          try clear hcz133_3
                          try clear hcz139_0
                          try clear hcz139_1
                          try clear hcz139_2
                          try clear hcz139_3
                          try clear hcz142_0
                          try clear hcz142_1
                          try clear hcz142_2
                          try clear hcz142_3
                          try clear hcz152_0
                          try clear hcz152_1
                          try clear hcz152_2
                          try clear hcz152_3
                          try clear hcz154_0
                          try clear hcz154_1
                          try clear hcz154_2
                          try clear hcz154_3
                          try clear hcz23_0
                          try clear hcz23_1
                          try clear hcz23_2
                          try clear hcz23_3
                          try clear hcz26_0
                          try clear hcz26_1
                          try clear hcz26_2
                          try clear hcz26_3
                          try clear hcz84_0
                          try clear hcz84_1
                          try clear hcz84_2
                          try clear hcz84_3
                          try clear hcz90_0
                          try clear hcz90_1
                          try clear hcz90_2
                          try clear hcz90_3
                          try clear hcz96_0
                          try clear hcz96_1
                          try clear hcz96_2
                          try clear hcz96_3
                          try clear hfz101_0
                          try clear hfz101_1
                          try clear hfz101_2
                          try clear hfz101_3
                          try clear hfz105_0
                          try clear hfz105_1
                          try clear hfz105_2
                          try clear hfz105_3
                          try clear hfz109_0
                          try clear hfz109_1
                          try clear hfz109_2
                          try clear hfz109_3
                          try clear hfz133_0
                          try clear hfz133_1
                          try clear hfz133_2
                          try clear hfz133_3
                          try clear hfz139_0
                          try clear hfz139_1
                          try clear hfz139_2
                          try clear hfz139_3
                          try clear hfz142_0
                          try clear hfz142_1
                          try clear hfz142_2
                          try clear hfz142_3
                          try clear hfz152_0
                          try clear hfz152_1
                          try clear hfz152_2
                          try clear hfz152_3
                          try clear hfz154_0
                          try clear hfz154_1
                          try clear hfz154_2
                          try clear hfz154_3
                          try clear hfz23_0
                          try clear hfz23_1
                          try clear hfz23_2
                          try clear hfz23_3
                          try clear hfz26_0
                          try clear hfz26_1
                          try clear hfz26_2
                          try clear hfz26_3
                          try clear hfz84_0
                          try clear hfz84_1
                          try clear hfz84_2
                          try clear hfz84_3
                          try clear hfz90_0
                          try clear hfz90_1
                          try clear hfz90_2
                          try clear hfz90_3
                          try clear hfz96_0
                          try clear hfz96_1
                          try clear hfz96_2
                          try clear hfz96_3
                          try clear hx440_0
                          try clear hx440_1
                          try clear hx440_2
                          try clear hx440_3
                          try clear hx442_0
                          try clear hx442_1
                          try clear hx442_2
                          try clear hx442_3
                          try clear hx448_0
                          try clear hx448_1
                          try clear hx448_2
                          try clear hx448_3
                          try clear hx449_0
                          try clear hx449_1
                          try clear hx449_2
                          try clear hx449_3
                          try clear p2
                          try clear p4
                          try clear p44
                          try clear p440
                          try clear p442
                          try clear p448
                          try clear p449
                          try clear p6
                          try clear p64
                          try clear q4
                          try clear q44
                          try clear q440
                          try clear q442
                          try clear q448
                          try clear q449
                          obtain ⟨kq, x271_135, rfl, HA, HJ135, HO_5, HO_7, HO_9, HO_217, BK400, BK443, HB⟩ := hcut
                          cases kq with
                          | zero => exact absurd HA.out (by simp [laws_FnRolls.j5])
                          | succ kj135 =>
                           have H := HA.out
                           clear HA
                           simp only [laws_FnRolls.j5] at H
                           by_cases c155 : x271_135 = true
                           ·subst c155
                            have H1 : (some false) = some r := by rw [if_pos rfl] at H; exact H
                            clear H
                            have H := H1
                            clear H1
                            exact absurd ((Option.some.inj H).trans HR_.out) (by decide)
                           ·replace c155 := Bool.eq_false_iff.mpr c155
                            subst c155
                            have H1 : (if ((rd_T29 t381 x219_5).f3) = t382 then (if 0 ≤ t382 then (if t382 < (t381.length : Int) then (if 0 ≤ t446 then (if t446 < (t389.length : Int) then (if ((decide (((rd_T29 t389 t446).f3) < 0)) != (decide (((rd_T29 t381 t382).f3) < 0))) = true then (some false) else (if ((rd_T29 t389 t446).f3) ≥ 0 then (if 0 ≤ ((rd_T29 t389 t446).f3) then (if ((rd_T29 t389 t446).f3) < (t389.length : Int) then (if 0 ≤ ((rd_T29 t381 t382).f3) then (if ((rd_T29 t381 t382).f3) < (t381.length : Int) then (if ((rd_T29 t389 ((rd_T29 t389 t446).f3)).f0).toList = ((rd_T29 t381 ((rd_T29 t381 t382).f3)).f0).toList then (laws_FnRolls.l0 kj135 t381 t382 t385 t389 t381 (t381.length : Int) (wrap64 (x219_5 + 1))) else (some false)) else (none)) else (none)) else (none)) else (none)) else (laws_FnRolls.l0 kj135 t381 t382 t385 t389 t381 (t381.length : Int) (wrap64 (x219_5 + 1))))) else (none)) else (none)) else (none)) else (none)) else (if 0 ≤ t446 then (if t446 < (t389.length : Int) then (if ((decide (((rd_T29 t389 t446).f3) < 0)) != (decide (((rd_T29 t381 x219_5).f3) < 0))) = true then (some false) else (if ((rd_T29 t389 t446).f3) ≥ 0 then (if 0 ≤ ((rd_T29 t389 t446).f3) then (if ((rd_T29 t389 t446).f3) < (t389.length : Int) then (if 0 ≤ ((rd_T29 t381 x219_5).f3) then (if ((rd_T29 t381 x219_5).f3) < (t381.length : Int) then (if ((rd_T29 t389 ((rd_T29 t389 t446).f3)).f0).toList = ((rd_T29 t381 ((rd_T29 t381 x219_5).f3)).f0).toList then (laws_FnRolls.l0 kj135 t381 t382 t385 t389 t381 (t381.length : Int) (wrap64 (x219_5 + 1))) else (some false)) else (none)) else (none)) else (none)) else (none)) else (laws_FnRolls.l0 kj135 t381 t382 t385 t389 t381 (t381.length : Int) (wrap64 (x219_5 + 1))))) else (none)) else (none))) = some r := by rw [if_neg (show ¬ (false = true) by decide)] at H; exact H
                            clear H
                            have H := H1
                            clear H1
                            by_cases c156 : ((rd_T29 t381 x219_5).f3) = t382
                            ·rw [if_pos c156] at H
                             have c156b0 : (((rd_T29 t381 x219_5).f3) == t382) = true := beq_iff_eq.mpr c156
                             have c156b1 : (((rd_T29 t381 x219_5).f3) != t382) = false := bne_eq_false_iff_eq.mpr c156
                             clear c156
                             by_cases c157 : 0 ≤ t382
                             ·rw [if_pos c157] at H
                              have c157b0 : decide (0 ≤ t382) = true := decide_eq_true c157
                              clear c157
                              by_cases c158 : t382 < (t381.length : Int)
                              ·rw [if_pos c158] at H
                               have c158b0 : decide (t382 < (t381.length : Int)) = true := decide_eq_true c158
                               clear c158
                               by_cases c159 : 0 ≤ t446
                               ·rw [if_pos c159] at H
                                have c159b0 : decide (0 ≤ t446) = true := decide_eq_true c159
                                clear c159
                                by_cases c160 : t446 < (t389.length : Int)
                                ·rw [if_pos c160] at H
                                 have c160b0 : decide (t446 < (t389.length : Int)) = true := decide_eq_true c160
                                 clear c160
                                 by_cases c161 : ((decide (((rd_T29 t389 t446).f3) < 0)) != (decide (((rd_T29 t381 t382).f3) < 0))) = true
                                 ·rw [if_pos c161] at H
                                  have c161b0 : ((decide (((rd_T29 t389 t446).f3) < 0)) != (decide (((rd_T29 t381 t382).f3) < 0))) = true := c161
                                  (try (have c161b1 : decide ((decide (((rd_T29 t389 t446).f3) < 0)) = (decide (((rd_T29 t381 t382).f3) < 0))) = false := by simpa using c161))
                                  (try (have c161b2 : ((decide (((rd_T29 t389 t446).f3) < 0)) == (decide (((rd_T29 t381 t382).f3) < 0))) = false := by simpa using c161))
                                  (try (have c161b3 : ¬ ((decide (((rd_T29 t389 t446).f3) < 0)) = (decide (((rd_T29 t381 t382).f3) < 0))) := by simpa using c161))
                                  clear c161
                                  exact absurd ((Option.some.inj H).trans HR_.out) (by decide)
                                 ·rw [if_neg c161] at H
                                  have c161b0 : ((decide (((rd_T29 t389 t446).f3) < 0)) != (decide (((rd_T29 t381 t382).f3) < 0))) = false := by simpa using c161
                                  (try (have c161b1 : decide ((decide (((rd_T29 t389 t446).f3) < 0)) = (decide (((rd_T29 t381 t382).f3) < 0))) = true := by simpa using c161))
                                  (try (have c161b2 : ((decide (((rd_T29 t389 t446).f3) < 0)) == (decide (((rd_T29 t381 t382).f3) < 0))) = true := by simpa using c161))
                                  clear c161
                                  by_cases c164 : ((rd_T29 t389 t446).f3) ≥ 0
                                  ·rw [if_pos c164] at H
                                   have c164b0 : decide (0 ≤ ((rd_T29 t389 t446).f3)) = true := decide_eq_true c164
                                   clear c164
                                   by_cases c165 : 0 ≤ ((rd_T29 t389 t446).f3)
                                   ·rw [if_pos c165] at H
                                    have c165b0 : decide (0 ≤ ((rd_T29 t389 t446).f3)) = true := decide_eq_true c165
                                    clear c165
                                    by_cases c166 : ((rd_T29 t389 t446).f3) < (t389.length : Int)
                                    ·rw [if_pos c166] at H
                                     have c166b0 : decide (((rd_T29 t389 t446).f3) < (t389.length : Int)) = true := decide_eq_true c166
                                     clear c166
                                     by_cases c167 : 0 ≤ ((rd_T29 t381 t382).f3)
                                     ·rw [if_pos c167] at H
                                      have c167b0 : decide (0 ≤ ((rd_T29 t381 t382).f3)) = true := decide_eq_true c167
                                      clear c167
                                      by_cases c168 : ((rd_T29 t381 t382).f3) < (t381.length : Int)
                                      ·rw [if_pos c168] at H
                                       have c168b0 : decide (((rd_T29 t381 t382).f3) < (t381.length : Int)) = true := decide_eq_true c168
                                       clear c168
                                       by_cases c169 : ((rd_T29 t389 ((rd_T29 t389 t446).f3)).f0).toList = ((rd_T29 t381 ((rd_T29 t381 t382).f3)).f0).toList
                                       ·rw [if_pos c169] at H
                                        have c169b0 : (((rd_T29 t389 ((rd_T29 t389 t446).f3)).f0).toList == ((rd_T29 t381 ((rd_T29 t381 t382).f3)).f0).toList) = true := beq_iff_eq.mpr c169
                                        have c169b1 : (((rd_T29 t389 ((rd_T29 t389 t446).f3)).f0).toList != ((rd_T29 t381 ((rd_T29 t381 t382).f3)).f0).toList) = false := bne_eq_false_iff_eq.mpr c169
                                        clear c169
                                        have H' := Aside0.mk H
                                        clear H
                                        have hnb170 := NB443_400.out
                                        have hnc170 := NB400_443.out
                                        have hcz171_0 : wc.cell? ⟨gb443, 0, none⟩ = some (.string ((rd_T29 t381 x219_5).f0)) := (blk_cell BK443.out 0).trans rfl
                                        have hcz171_1 : wc.cell? ⟨gb443, 1, none⟩ = some (.string ((rd_T29 t381 x219_5).f1)) := (blk_cell BK443.out 1).trans rfl
                                        have hcz171_2 : wc.cell? ⟨gb443, 2, none⟩ = some (.int .i64 ((rd_T29 t381 x219_5).f2)) := (blk_cell BK443.out 2).trans rfl
                                        have hcz171_3 : wc.cell? ⟨gb443, 3, none⟩ = some (.int .i64 ((rd_T29 t381 x219_5).f3)) := (blk_cell BK443.out 3).trans rfl
                                        have hfz171_0 := blk_frozen BK443.out 0
                                        have hfz171_1 := blk_frozen BK443.out 1
                                        have hfz171_2 := blk_frozen BK443.out 2
                                        have hfz171_3 := blk_frozen BK443.out 3
                                        have p450 : 0 ≤ (t382 : Int) := of_decide_eq_true (by first|(with_reducible assumption) | assumption)
                                        have q450 : t382 < (t381.length : Int) := of_decide_eq_true (by first|(with_reducible assumption) | assumption)
                                        obtain ⟨ad450, e450, hx450_0, hx450_1, hx450_2, hx450_3⟩ := at_T29 (Kd.R_reads' HO_5.out).2.2 t382 p450 q450
                                        obtain rfl : ad442 = ad450 := (by injection e450)
                                        replace p450 := eq_true p450
                                        replace q450 := eq_true q450
                                        have p451 : 0 ≤ (t446 : Int) := of_decide_eq_true (by first|(with_reducible assumption) | assumption)
                                        have q451 : t446 < (t389.length : Int) := of_decide_eq_true (by first|(with_reducible assumption) | assumption)
                                        obtain ⟨ad451, e451, hx451_0, hx451_1, hx451_2, hx451_3⟩ := at_T29 (Kd.R_reads' HO_9.out).2.2 t446 p451 q451
                                        cases e451
                                        replace p451 := eq_true p451
                                        replace q451 := eq_true q451
                                        have p452 : 0 ≤ (((rd_T29 t389 t446).f3) : Int) := of_decide_eq_true (by first|(with_reducible assumption) | assumption)
                                        have q452 : ((rd_T29 t389 t446).f3) < (t389.length : Int) := of_decide_eq_true (by first|(with_reducible assumption) | assumption)
                                        obtain ⟨ad452, e452, hx452_0, hx452_1, hx452_2, hx452_3⟩ := at_T29 (Kd.R_reads' HO_9.out).2.2 ((rd_T29 t389 t446).f3) p452 q452
                                        obtain rfl : ad451 = ad452 := (by injection e452)
                                        replace p452 := eq_true p452
                                        replace q452 := eq_true q452
                                        have p453 : 0 ≤ (((rd_T29 t381 t382).f3) : Int) := of_decide_eq_true (by first|(with_reducible assumption) | assumption)
                                        have q453 : ((rd_T29 t381 t382).f3) < (t381.length : Int) := of_decide_eq_true (by first|(with_reducible assumption) | assumption)
                                        obtain ⟨ad453, e453, hx453_0, hx453_1, hx453_2, hx453_3⟩ := at_T29 (Kd.R_reads' HO_5.out).2.2 ((rd_T29 t381 t382).f3) p453 q453
                                        obtain rfl : ad442 = ad453 := (by injection e453)
                                        replace p453 := eq_true p453
                                        replace q453 := eq_true q453
                                        go_wp2
                                        repeat (go_quiet (fail); try go_wp2)
                                        go_roundg kj135
                                        case measure => have := HJ15.out; have := HJ72.out; have := HJ112.out; have := HJ118.out; have := HK5.out; have := HJ135.out; omega
                                        case rel => exact ⟨(wrap64 (x219_5 + 1)), (by first | rfl|(simp;done)|(simp [*];done)), H', ⟨by have := HJ15.out; have := HJ72.out; have := HJ112.out; have := HJ118.out; have := HK5.out; have := HJ135.out; omega⟩, ⟨by (with_reducible repeat (first|apply Kd.R_alloc|apply Kd.R_drewN|apply Kd.R_drew)); exact Kd.R_mono HO_5.out (fun _ hk => hk.1)⟩, ⟨by (with_reducible repeat (first|apply Kd.R_alloc|apply Kd.R_drewN|apply Kd.R_drew)); exact Kd.R_mono HO_7.out (fun _ hk => hk.1)⟩, ⟨by (with_reducible repeat (first|apply Kd.R_alloc|apply Kd.R_drewN|apply Kd.R_drew)); exact Kd.R_mono HO_9.out (fun _ hk => hk.1)⟩, ⟨by (with_reducible repeat (first|apply Kd.R_alloc|apply Kd.R_drewN|apply Kd.R_drew)); exact Kd.R_mono HO_217.out (fun _ hk => hk.1)⟩, ⟨by (with_reducible repeat (first|refine blk_drewN ?_ _ | refine blk_drew ?_ | refine blk_alloc ?_ _)); exact BK400.out⟩, ⟨by repeat (first|(with_reducible first|exact HB.out|apply below_alloc|apply pw_below_drewN|apply below_drew1 | refine below_set ?_ GE400.out | refine below_set ?_ GE443.out)|exact HB.out)⟩⟩
                                       ·rw [if_neg c169] at H
                                        have c169b0 : (((rd_T29 t389 ((rd_T29 t389 t446).f3)).f0).toList == ((rd_T29 t381 ((rd_T29 t381 t382).f3)).f0).toList) = false := beq_eq_false_iff_ne.mpr c169
                                        have c169b1 : (((rd_T29 t389 ((rd_T29 t389 t446).f3)).f0).toList != ((rd_T29 t381 ((rd_T29 t381 t382).f3)).f0).toList) = true := bne_iff_ne.mpr c169
                                        exact absurd ((Option.some.inj H).trans HR_.out) (by decide)
                                      ·rw [if_neg c168] at H
                                       exact absurd H (by simp)
                                     ·rw [if_neg c167] at H
                                      exact absurd H (by simp)
                                    ·rw [if_neg c166] at H
                                     exact absurd H (by simp)
                                   ·rw [if_neg c165] at H
                                    exact absurd H (by simp)
                                  ·rw [if_neg c164] at H
                                   have c164b0 : decide (0 ≤ ((rd_T29 t389 t446).f3)) = false := decide_eq_false c164
                                   clear c164
                                   have H' := Aside0.mk H
                                   clear H
                                   have hnb174 := NB443_400.out
                                   have hnc174 := NB400_443.out
                                   have hcz175_0 : wc.cell? ⟨gb443, 0, none⟩ = some (.string ((rd_T29 t381 x219_5).f0)) := (blk_cell BK443.out 0).trans rfl
                                   have hcz175_1 : wc.cell? ⟨gb443, 1, none⟩ = some (.string ((rd_T29 t381 x219_5).f1)) := (blk_cell BK443.out 1).trans rfl
                                   have hcz175_2 : wc.cell? ⟨gb443, 2, none⟩ = some (.int .i64 ((rd_T29 t381 x219_5).f2)) := (blk_cell BK443.out 2).trans rfl
                                   have hcz175_3 : wc.cell? ⟨gb443, 3, none⟩ = some (.int .i64 ((rd_T29 t381 x219_5).f3)) := (blk_cell BK443.out 3).trans rfl
                                   have hfz175_0 := blk_frozen BK443.out 0
                                   have hfz175_1 := blk_frozen BK443.out 1
                                   have hfz175_2 := blk_frozen BK443.out 2
                                   have hfz175_3 := blk_frozen BK443.out 3
                                   have p450 : 0 ≤ (t382 : Int) := of_decide_eq_true (by first|(with_reducible assumption) | assumption)
                                   have q450 : t382 < (t381.length : Int) := of_decide_eq_true (by first|(with_reducible assumption) | assumption)
                                   obtain ⟨ad450, e450, hx450_0, hx450_1, hx450_2, hx450_3⟩ := at_T29 (Kd.R_reads' HO_5.out).2.2 t382 p450 q450
                                   obtain rfl : ad442 = ad450 := (by injection e450)
                                   replace p450 := eq_true p450
                                   replace q450 := eq_true q450
                                   have p451 : 0 ≤ (t446 : Int) := of_decide_eq_true (by first|(with_reducible assumption) | assumption)
                                   have q451 : t446 < (t389.length : Int) := of_decide_eq_true (by first|(with_reducible assumption) | assumption)
                                   obtain ⟨ad451, e451, hx451_0, hx451_1, hx451_2, hx451_3⟩ := at_T29 (Kd.R_reads' HO_9.out).2.2 t446 p451 q451
                                   cases e451
                                   replace p451 := eq_true p451
                                   replace q451 := eq_true q451
                                   go_wp2
                                   repeat (go_quiet (fail); try go_wp2)
                                   go_roundg kj135
                                   case measure => have := HJ15.out; have := HJ72.out; have := HJ112.out; have := HJ118.out; have := HK5.out; have := HJ135.out; omega
                                   case rel => exact ⟨(wrap64 (x219_5 + 1)), (by first | rfl|(simp;done)|(simp [*];done)), H', ⟨by have := HJ15.out; have := HJ72.out; have := HJ112.out; have := HJ118.out; have := HK5.out; have := HJ135.out; omega⟩, ⟨by (with_reducible repeat (first|apply Kd.R_alloc|apply Kd.R_drewN|apply Kd.R_drew)); exact Kd.R_mono HO_5.out (fun _ hk => hk.1)⟩, ⟨by (with_reducible repeat (first|apply Kd.R_alloc|apply Kd.R_drewN|apply Kd.R_drew)); exact Kd.R_mono HO_7.out (fun _ hk => hk.1)⟩, ⟨by (with_reducible repeat (first|apply Kd.R_alloc|apply Kd.R_drewN|apply Kd.R_drew)); exact Kd.R_mono HO_9.out (fun _ hk => hk.1)⟩, ⟨by (with_reducible repeat (first|apply Kd.R_alloc|apply Kd.R_drewN|apply Kd.R_drew)); exact Kd.R_mono HO_217.out (fun _ hk => hk.1)⟩, ⟨by (with_reducible repeat (first|refine blk_drewN ?_ _ | refine blk_drew ?_ | refine blk_alloc ?_ _)); exact BK400.out⟩, ⟨by repeat (first|(with_reducible first|exact HB.out|apply below_alloc|apply pw_below_drewN|apply below_drew1 | refine below_set ?_ GE400.out | refine below_set ?_ GE443.out)|exact HB.out)⟩⟩
                                ·rw [if_neg c160] at H
                                 exact absurd H (by simp)
                               ·rw [if_neg c159] at H
                                exact absurd H (by simp)
                              ·rw [if_neg c158] at H
                               exact absurd H (by simp)
                             ·rw [if_neg c157] at H
                              exact absurd H (by simp)
                            ·rw [if_neg c156] at H
                             have c156b0 : (((rd_T29 t381 x219_5).f3) == t382) = false := beq_eq_false_iff_ne.mpr c156
                             have c156b1 : (((rd_T29 t381 x219_5).f3) != t382) = true := bne_iff_ne.mpr c156
                             by_cases c176 : 0 ≤ t446
                             ·rw [if_pos c176] at H
                              have c176b0 : decide (0 ≤ t446) = true := decide_eq_true c176
                              clear c176
                              by_cases c177 : t446 < (t389.length : Int)
                              ·rw [if_pos c177] at H
                               have c177b0 : decide (t446 < (t389.length : Int)) = true := decide_eq_true c177
                               clear c177
                               by_cases c178 : ((decide (((rd_T29 t389 t446).f3) < 0)) != (decide (((rd_T29 t381 x219_5).f3) < 0))) = true
                               ·rw [if_pos c178] at H
                                have c178b0 : ((decide (((rd_T29 t389 t446).f3) < 0)) != (decide (((rd_T29 t381 x219_5).f3) < 0))) = true := c178
                                (try (have c178b1 : decide ((decide (((rd_T29 t389 t446).f3) < 0)) = (decide (((rd_T29 t381 x219_5).f3) < 0))) = false := by simpa using c178))
                                (try (have c178b2 : ((decide (((rd_T29 t389 t446).f3) < 0)) == (decide (((rd_T29 t381 x219_5).f3) < 0))) = false := by simpa using c178))
                                (try (have c178b3 : ¬ ((decide (((rd_T29 t389 t446).f3) < 0)) = (decide (((rd_T29 t381 x219_5).f3) < 0))) := by simpa using c178))
                                clear c178
                                exact absurd ((Option.some.inj H).trans HR_.out) (by decide)
                               ·rw [if_neg c178] at H
                                have c178b0 : ((decide (((rd_T29 t389 t446).f3) < 0)) != (decide (((rd_T29 t381 x219_5).f3) < 0))) = false := by simpa using c178
                                (try (have c178b1 : decide ((decide (((rd_T29 t389 t446).f3) < 0)) = (decide (((rd_T29 t381 x219_5).f3) < 0))) = true := by simpa using c178))
                                (try (have c178b2 : ((decide (((rd_T29 t389 t446).f3) < 0)) == (decide (((rd_T29 t381 x219_5).f3) < 0))) = true := by simpa using c178))
                                clear c178
                                by_cases c181 : ((rd_T29 t389 t446).f3) ≥ 0
                                ·rw [if_pos c181] at H
                                 have c181b0 : decide (0 ≤ ((rd_T29 t389 t446).f3)) = true := decide_eq_true c181
                                 clear c181
                                 by_cases c182 : 0 ≤ ((rd_T29 t389 t446).f3)
                                 ·rw [if_pos c182] at H
                                  have c182b0 : decide (0 ≤ ((rd_T29 t389 t446).f3)) = true := decide_eq_true c182
                                  clear c182
                                  by_cases c183 : ((rd_T29 t389 t446).f3) < (t389.length : Int)
                                  ·rw [if_pos c183] at H
                                   have c183b0 : decide (((rd_T29 t389 t446).f3) < (t389.length : Int)) = true := decide_eq_true c183
                                   clear c183
                                   by_cases c184 : 0 ≤ ((rd_T29 t381 x219_5).f3)
                                   ·rw [if_pos c184] at H
                                    have c184b0 : decide (0 ≤ ((rd_T29 t381 x219_5).f3)) = true := decide_eq_true c184
                                    clear c184
                                    by_cases c185 : ((rd_T29 t381 x219_5).f3) < (t381.length : Int)
                                    ·rw [if_pos c185] at H
                                     have c185b0 : decide (((rd_T29 t381 x219_5).f3) < (t381.length : Int)) = true := decide_eq_true c185
                                     clear c185
                                     by_cases c186 : ((rd_T29 t389 ((rd_T29 t389 t446).f3)).f0).toList = ((rd_T29 t381 ((rd_T29 t381 x219_5).f3)).f0).toList
                                     ·rw [if_pos c186] at H
                                      have c186b0 : (((rd_T29 t389 ((rd_T29 t389 t446).f3)).f0).toList == ((rd_T29 t381 ((rd_T29 t381 x219_5).f3)).f0).toList) = true := beq_iff_eq.mpr c186
                                      have c186b1 : (((rd_T29 t389 ((rd_T29 t389 t446).f3)).f0).toList != ((rd_T29 t381 ((rd_T29 t381 x219_5).f3)).f0).toList) = false := bne_eq_false_iff_eq.mpr c186
                                      clear c186
                                      have H' := Aside0.mk H
                                      clear H
                                      have hnb187 := NB443_400.out
                                      have hnc187 := NB400_443.out
                                      have hcz188_0 : wc.cell? ⟨gb443, 0, none⟩ = some (.string ((rd_T29 t381 x219_5).f0)) := (blk_cell BK443.out 0).trans rfl
                                      have hcz188_1 : wc.cell? ⟨gb443, 1, none⟩ = some (.string ((rd_T29 t381 x219_5).f1)) := (blk_cell BK443.out 1).trans rfl
                                      have hcz188_2 : wc.cell? ⟨gb443, 2, none⟩ = some (.int .i64 ((rd_T29 t381 x219_5).f2)) := (blk_cell BK443.out 2).trans rfl
                                      have hcz188_3 : wc.cell? ⟨gb443, 3, none⟩ = some (.int .i64 ((rd_T29 t381 x219_5).f3)) := (blk_cell BK443.out 3).trans rfl
                                      have hfz188_0 := blk_frozen BK443.out 0
                                      have hfz188_1 := blk_frozen BK443.out 1
                                      have hfz188_2 := blk_frozen BK443.out 2
                                      have hfz188_3 := blk_frozen BK443.out 3
                                      have p454 : 0 ≤ (t446 : Int) := of_decide_eq_true (by first|(with_reducible assumption) | assumption)
                                      have q454 : t446 < (t389.length : Int) := of_decide_eq_true (by first|(with_reducible assumption) | assumption)
                                      obtain ⟨ad454, e454, hx454_0, hx454_1, hx454_2, hx454_3⟩ := at_T29 (Kd.R_reads' HO_9.out).2.2 t446 p454 q454
                                      cases e454
                                      replace p454 := eq_true p454
                                      replace q454 := eq_true q454
                                      have p455 : 0 ≤ (((rd_T29 t389 t446).f3) : Int) := of_decide_eq_true (by first|(with_reducible assumption) | assumption)
                                      have q455 : ((rd_T29 t389 t446).f3) < (t389.length : Int) := of_decide_eq_true (by first|(with_reducible assumption) | assumption)
                                      obtain ⟨ad455, e455, hx455_0, hx455_1, hx455_2, hx455_3⟩ := at_T29 (Kd.R_reads' HO_9.out).2.2 ((rd_T29 t389 t446).f3) p455 q455
                                      obtain rfl : ad454 = ad455 := (by injection e455)
                                      replace p455 := eq_true p455
                                      replace q455 := eq_true q455
                                      have p456 : 0 ≤ (((rd_T29 t381 x219_5).f3) : Int) := of_decide_eq_true (by first|(with_reducible assumption) | assumption)
                                      have q456 : ((rd_T29 t381 x219_5).f3) < (t381.length : Int) := of_decide_eq_true (by first|(with_reducible assumption) | assumption)
                                      obtain ⟨ad456, e456, hx456_0, hx456_1, hx456_2, hx456_3⟩ := at_T29 (Kd.R_reads' HO_5.out).2.2 ((rd_T29 t381 x219_5).f3) p456 q456
                                      obtain rfl : ad442 = ad456 := (by injection e456)
                                      replace p456 := eq_true p456
                                      replace q456 := eq_true q456
                                      go_wp2
                                      repeat (go_quiet (fail); try go_wp2)
                                      go_roundg kj135
                                      case measure => have := HJ15.out; have := HJ72.out; have := HJ112.out; have := HJ118.out; have := HK5.out; have := HJ135.out; omega
                                      case rel => exact ⟨(wrap64 (x219_5 + 1)), (by first | rfl|(simp;done)|(simp [*];done)), H', ⟨by have := HJ15.out; have := HJ72.out; have := HJ112.out; have := HJ118.out; have := HK5.out; have := HJ135.out; omega⟩, ⟨by (with_reducible repeat (first|apply Kd.R_alloc|apply Kd.R_drewN|apply Kd.R_drew)); exact Kd.R_mono HO_5.out (fun _ hk => hk.1)⟩, ⟨by (with_reducible repeat (first|apply Kd.R_alloc|apply Kd.R_drewN|apply Kd.R_drew)); exact Kd.R_mono HO_7.out (fun _ hk => hk.1)⟩, ⟨by (with_reducible repeat (first|apply Kd.R_alloc|apply Kd.R_drewN|apply Kd.R_drew)); exact Kd.R_mono HO_9.out (fun _ hk => hk.1)⟩, ⟨by (with_reducible repeat (first|apply Kd.R_alloc|apply Kd.R_drewN|apply Kd.R_drew)); exact Kd.R_mono HO_217.out (fun _ hk => hk.1)⟩, ⟨by (with_reducible repeat (first|refine blk_drewN ?_ _ | refine blk_drew ?_ | refine blk_alloc ?_ _)); exact BK400.out⟩, ⟨by repeat (first|(with_reducible first|exact HB.out|apply below_alloc|apply pw_below_drewN|apply below_drew1 | refine below_set ?_ GE400.out | refine below_set ?_ GE443.out)|exact HB.out)⟩⟩
                                     ·rw [if_neg c186] at H
                                      have c186b0 : (((rd_T29 t389 ((rd_T29 t389 t446).f3)).f0).toList == ((rd_T29 t381 ((rd_T29 t381 x219_5).f3)).f0).toList) = false := beq_eq_false_iff_ne.mpr c186
                                      have c186b1 : (((rd_T29 t389 ((rd_T29 t389 t446).f3)).f0).toList != ((rd_T29 t381 ((rd_T29 t381 x219_5).f3)).f0).toList) = true := bne_iff_ne.mpr c186
                                      exact absurd ((Option.some.inj H).trans HR_.out) (by decide)
                                    ·rw [if_neg c185] at H
                                     exact absurd H (by simp)
                                   ·rw [if_neg c184] at H
                                    exact absurd H (by simp)
                                  ·rw [if_neg c183] at H
                                   exact absurd H (by simp)
                                 ·rw [if_neg c182] at H
                                  exact absurd H (by simp)
                                ·rw [if_neg c181] at H
                                 have c181b0 : decide (0 ≤ ((rd_T29 t389 t446).f3)) = false := decide_eq_false c181
                                 clear c181
                                 have H' := Aside0.mk H
                                 clear H
                                 have hnb191 := NB443_400.out
                                 have hnc191 := NB400_443.out
                                 have hcz192_0 : wc.cell? ⟨gb443, 0, none⟩ = some (.string ((rd_T29 t381 x219_5).f0)) := (blk_cell BK443.out 0).trans rfl
                                 have hcz192_1 : wc.cell? ⟨gb443, 1, none⟩ = some (.string ((rd_T29 t381 x219_5).f1)) := (blk_cell BK443.out 1).trans rfl
                                 have hcz192_2 : wc.cell? ⟨gb443, 2, none⟩ = some (.int .i64 ((rd_T29 t381 x219_5).f2)) := (blk_cell BK443.out 2).trans rfl
                                 have hcz192_3 : wc.cell? ⟨gb443, 3, none⟩ = some (.int .i64 ((rd_T29 t381 x219_5).f3)) := (blk_cell BK443.out 3).trans rfl
                                 have hfz192_0 := blk_frozen BK443.out 0
                                 have hfz192_1 := blk_frozen BK443.out 1
                                 have hfz192_2 := blk_frozen BK443.out 2
                                 have hfz192_3 := blk_frozen BK443.out 3
                                 have p454 : 0 ≤ (t446 : Int) := of_decide_eq_true (by first|(with_reducible assumption) | assumption)
                                 have q454 : t446 < (t389.length : Int) := of_decide_eq_true (by first|(with_reducible assumption) | assumption)
                                 obtain ⟨ad454, e454, hx454_0, hx454_1, hx454_2, hx454_3⟩ := at_T29 (Kd.R_reads' HO_9.out).2.2 t446 p454 q454
                                 cases e454
                                 replace p454 := eq_true p454
                                 replace q454 := eq_true q454
                                 go_wp2
                                 repeat (go_quiet (fail); try go_wp2)
                                 go_roundg kj135
                                 case measure => have := HJ15.out; have := HJ72.out; have := HJ112.out; have := HJ118.out; have := HK5.out; have := HJ135.out; omega
                                 case rel => exact ⟨(wrap64 (x219_5 + 1)), (by first | rfl|(simp;done)|(simp [*];done)), H', ⟨by have := HJ15.out; have := HJ72.out; have := HJ112.out; have := HJ118.out; have := HK5.out; have := HJ135.out; omega⟩, ⟨by (with_reducible repeat (first|apply Kd.R_alloc|apply Kd.R_drewN|apply Kd.R_drew)); exact Kd.R_mono HO_5.out (fun _ hk => hk.1)⟩, ⟨by (with_reducible repeat (first|apply Kd.R_alloc|apply Kd.R_drewN|apply Kd.R_drew)); exact Kd.R_mono HO_7.out (fun _ hk => hk.1)⟩, ⟨by (with_reducible repeat (first|apply Kd.R_alloc|apply Kd.R_drewN|apply Kd.R_drew)); exact Kd.R_mono HO_9.out (fun _ hk => hk.1)⟩, ⟨by (with_reducible repeat (first|apply Kd.R_alloc|apply Kd.R_drewN|apply Kd.R_drew)); exact Kd.R_mono HO_217.out (fun _ hk => hk.1)⟩, ⟨by (with_reducible repeat (first|refine blk_drewN ?_ _ | refine blk_drew ?_ | refine blk_alloc ?_ _)); exact BK400.out⟩, ⟨by repeat (first|(with_reducible first|exact HB.out|apply below_alloc|apply pw_below_drewN|apply below_drew1 | refine below_set ?_ GE400.out | refine below_set ?_ GE443.out)|exact HB.out)⟩⟩
                              ·rw [if_neg c177] at H
                               exact absurd H (by simp)
                             ·rw [if_neg c176] at H
                              exact absurd H (by simp)
                      ·rw [if_neg c129] at H
                       exact absurd H (by simp)
                     ·rw [if_neg c128] at H
                      exact absurd H (by simp)
                    ·rw [if_neg c127] at H
                     have c127b0 : decide (x219_5 < (t381.length : Int)) = false := decide_eq_false c127
                     clear c127
                     obtain rfl := Option.some.inj H
                     go_wp2
                     repeat (go_quiet (fail); try go_wp2)
                     go_ret
                     exact ⟨by first | rfl|(simp [errW_none, errW_some] <;> rfl)|(simp [*, errW_none, errW_some] <;> rfl), by repeat (first|(with_reducible first|exact HB.out|apply below_alloc|apply pw_below_drewN|apply below_drew1 | refine below_set ?_ GE400.out)|exact HB.out)⟩
             ·replace c118 := Bool.eq_false_iff.mpr c118
              subst c118
              have H1 : (some true) = some r := by rw [if_neg (show ¬ (false = true) by decide)] at H; exact H
              clear H
              have H := H1
              clear H1
              obtain rfl := Option.some.inj H
              go_wp2
              repeat (go_quiet (fail); try go_wp2)
              go_ret
              exact ⟨by first | rfl|(simp [errW_none, errW_some] <;> rfl)|(simp [*, errW_none, errW_some] <;> rfl), by repeat (first|(with_reducible first|exact HB.out|apply below_alloc|apply pw_below_drewN|apply below_drew1 | refine below_set ?_ GE400.out)|exact HB.out)⟩

/-- THE ONE PURE STATEMENT of laws_FnRolls: yours. -/
def laws_FnRolls.Pure : Prop := ∀ (l0 : List Int) (l1 : List Int), l0.length ≤ maxLen → l0.length * 1 ≤ 140737488351232 → (∀ x ∈ l0, (Lit.int .u8 x).wf = true) → l1.length ≤ maxLen → l1.length * 1 ≤ 140737488351232 → (∀ x ∈ l1, (Lit.int .u8 x).wf = true) → ∃ k, laws_FnRolls.f k l0 l1 = some true
theorem laws_FnRolls.walk (P : laws_FnRolls.Pure) (a0 : Option Addr) (len0 cap0 : Nat) (z0 : List Int) (a1 : Option Addr) (len1 cap1 : Nat) (z1 : List Int) (w : World) (w0 : (a0 = none ∧ len0 = 0 ∧ cap0 = 0 ∧ z0 = []) ∨ ∃ x, a0 = some x ∧ len0 ≤ cap0 ∧ cap0 ≤ maxLen ∧ z0.length = cap0 ∧ (∀ i, i < z0.length → w.cell? (x.add i) = some (.int .u8 (z0.getD i 0))) ∧ ∀ n ∈ z0, (Lit.int .u8 n).wf = true) (y0 : len0 * 1 ≤ 140737488351232) (w1 : (a1 = none ∧ len1 = 0 ∧ cap1 = 0 ∧ z1 = []) ∨ ∃ x, a1 = some x ∧ len1 ≤ cap1 ∧ cap1 ≤ maxLen ∧ z1.length = cap1 ∧ (∀ i, i < z1.length → w.cell? (x.add i) = some (.int .u8 (z1.getD i 0))) ∧ ∀ n ∈ z1, (Lit.int .u8 n).wf = true) (y1 : len1 * 1 ≤ 140737488351232) :
 Calls Try.prog 3 #[.slice a0 len0 cap0, .slice a1 len1 cap1] w fun e w' => e = .returned (.bool true) ∧ Below w.heap.size w w' := by
 obtain ⟨l0, rfl, hr0, hm0, hw0, hc0⟩ := ReadsInt.ofRowC w0
 obtain ⟨l1, rfl, hr1, hm1, hw1, hc1⟩ := ReadsInt.ofRowC w1
 obtain ⟨k, h⟩ := P l0 l1 hm0 y0 hw0 hm1 y1 hw1
 refine (laws_FnRolls.calls k _ _ l0 _ _ l1 true w (Kd.C_of_reads (d := (0 : Int)) (h1 := fun _ => rfl) hr0) hc0 (Kd.C_of_reads (d := (0 : Int)) (h1 := fun _ => rfl) hr1) hc1 h rfl).mono ?_
 rintro e w' ⟨rfl, hd⟩
 exact ⟨rfl, hd⟩

end Go.Proofs.Ytlbbkepkincleaa.QFnRolls
