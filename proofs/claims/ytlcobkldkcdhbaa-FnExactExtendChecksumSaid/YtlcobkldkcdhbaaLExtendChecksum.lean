/- For every int and every hole of any three ints the law FnExactExtendChecksum answers true; no condition but that the ints are ints. -/
import Derived.Test.YtlcobkldkcdhbaaPFnExactExtendChecksumx1
import Derived.Test.YtlcobkldkcdhbaaBase
namespace Go.Proofs.Ytlcobkldkcdhbaa.LExtendChecksum
open Go Go.RowKit Go.Proofs.Ytlcobkldkcdhbaa.PFnExactExtendChecksum Go.Proofs.YtlcobkldkcdhbaaW.PrintWords Go.Proofs.YtlcobkldkcdhbaaW.PrintLast Go.Proofs.YtlcobkldkcdhbaaW.PrintMore Go.Proofs.Ytlcobkldkcdhbaa.Base
set_option linter.unusedVariables false
set_option linter.unusedSimpArgs false

/-! one hole: whether it is valid, its number -/
/-- A valid hole. -/
def holeOk (t a b : Int) : Bool := decide (0 ≤ t ∧ t ≤ 19 ∧ 0 ≤ a ∧ a ≤ 1999 ∧ a < b ∧ b ≤ 2000)

theorem shHole_ok (t a b : Int) : spec_shHole.f t a b = some (holeOk t a b) := by
  unfold spec_shHole.f spec_l1In.f holeOk
  by_cases h1 : 0 ≤ t
  · by_cases h2 : t ≤ 19
    · by_cases h3 : 0 ≤ a
      · by_cases h4 : a ≤ 1999
        · have hw : wrap64 (a + 1) = a + 1 := wrapS (by omega) (by omega)
          by_cases h5 : a + 1 ≤ b
          · simp [h1, h2, h3, h4, hw, h5, show a < b by omega]
          · simp [h1, h2, h3, h4, hw, h5, show ¬ a < b by omega]
        · simp [h1, h2, h3, h4]
      · simp [h1, h2, h3]
    · simp [h1, h2]
  · simp [h1]

theorem isHole_ok (t a b : Int) : impl_IsHole.f t a b = some (holeOk t a b) := by
  unfold impl_IsHole.f impl_isTrack.f holeOk
  by_cases h1 : 0 ≤ t
  · by_cases h2 : t < 20
    · by_cases h3 : 0 ≤ a
      · by_cases h4 : a < b
        · by_cases h5 : b ≤ 2000
          · simp [h1, h2, h3, h4, h5, show t ≤ 19 by omega, show a ≤ 1999 by omega]
          · simp [h1, h2, h3, h4, h5]
        · simp [h1, h2, h3, h4]
      · simp [h1, h2, h3]
    · simp [h1, h2, show ¬ t ≤ 19 by omega]
  · simp [h1]

theorem holeOk_bounds {t a b : Int} (h : holeOk t a b = true) : 0 ≤ t ∧ t ≤ 19 ∧ 0 ≤ a ∧ a ≤ 1999 ∧ a < b ∧ b ≤ 2000 := by
  simpa [holeOk] using h

theorem ckIs_ok (s : Int) : spec_ckIs.f s = impl_isChecksum.f s := by
  unfold spec_ckIs.f spec_l1In.f impl_isChecksum.f
  by_cases h : 0 ≤ s
  · by_cases h1 : s < 1000003
    · simp [h, h1, show s ≤ 1000002 by omega]
    · simp [h, h1, show ¬ s ≤ 1000002 by omega]
  · simp [h]
theorem isCk_some (s : Int) : ∃ b, impl_isChecksum.f s = some b := by
  unfold impl_isChecksum.f; split <;> exact ⟨_, rfl⟩
theorem FnExactExtendChecksum (s t a b : Int) (_hs : (Lit.int .i64 s).wf = true) (_ht : (Lit.int .i64 t).wf = true) (_ha : (Lit.int .i64 a).wf = true) (_hb : (Lit.int .i64 b).wf = true) : laws_FnExactExtendChecksum.f s t a b = some true := by
  obtain ⟨c, hc⟩ := isCk_some s
  simp only [laws_FnExactExtendChecksum.f, laws_toHole.f, spec_ExtendChecksum.f, impl_ExtendChecksum.f, ckIs_ok, hc, shHole_ok, isHole_ok, spec_ckExtend.f, impl_extendChecksum.f, spec_ckNumber.f, impl_holeNumber.f, Option.bind_some, Int.mul_comm t, Int.mul_comm a]
  cases c <;> cases holeOk t a b <;> simp

end Go.Proofs.Ytlcobkldkcdhbaa.LExtendChecksum
