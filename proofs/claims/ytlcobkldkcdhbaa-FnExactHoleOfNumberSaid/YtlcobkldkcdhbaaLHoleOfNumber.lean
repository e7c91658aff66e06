/- For every number the law FnExactHoleOfNumber answers true; no condition but that the number is an int. -/
import Derived.Test.YtlcobkldkcdhbaaQFnExactHoleOfNumberx1
import Derived.Test.YtlcobkldkcdhbaaBase
namespace Go.Proofs.Ytlcobkldkcdhbaa.LHoleOfNumber
open Go Go.RowKit Go.Proofs.Ytlcobkldkcdhbaa.QFnExactHoleOfNumber Go.Proofs.YtlcobkldkcdhbaaW.PrintWords Go.Proofs.YtlcobkldkcdhbaaW.PrintLast Go.Proofs.YtlcobkldkcdhbaaW.PrintMore Go.Proofs.Ytlcobkldkcdhbaa.Base
set_option linter.unusedVariables false
set_option linter.unusedSimpArgs false

/-! one hole: whether it is valid, its number -/
/-- A valid hole. -/
def holeOk (t a b : Int) : Bool := decide (0 ≤ t ∧ t ≤ 19 ∧ 0 ≤ a ∧ a ≤ 1999 ∧ a < b ∧ b ≤ 2000)

theorem shHole_ok (t a b : Int) : spec_shHole.f t a b = some (holeOk t a b) := by
  unfold spec_shHole.f spec_l1In.f holeOk
  by_cases h1 : 0 ≤ t
  · by_cases h2 : t ≤ 19
    · by_cases h3 : 0 ≤ a
      · by_cases h4 : a ≤ 1999
        · have hw : wrap64 (a + 1) = a + 1 := wrapS (by omega) (by omega)
          by_cases h5 : a + 1 ≤ b
          · simp [h1, h2, h3, h4, hw, h5, show a < b by omega]
          · simp [h1, h2, h3, h4, hw, h5, show ¬ a < b by omega]
        · simp [h1, h2, h3, h4]
      · simp [h1, h2, h3]
    · simp [h1, h2]
  · simp [h1]

theorem isHole_ok (t a b : Int) : impl_IsHole.f t a b = some (holeOk t a b) := by
  unfold impl_IsHole.f impl_isTrack.f holeOk
  by_cases h1 : 0 ≤ t
  · by_cases h2 : t < 20
    · by_cases h3 : 0 ≤ a
      · by_cases h4 : a < b
        · by_cases h5 : b ≤ 2000
          · simp [h1, h2, h3, h4, h5, show t ≤ 19 by omega, show a ≤ 1999 by omega]
          · simp [h1, h2, h3, h4, h5]
        · simp [h1, h2, h3, h4]
      · simp [h1, h2, h3]
    · simp [h1, h2, show ¬ t ≤ 19 by omega]
  · simp [h1]

theorem holeOk_bounds {t a b : Int} (h : holeOk t a b = true) : 0 ≤ t ∧ t ≤ 19 ∧ 0 ≤ a ∧ a ≤ 1999 ∧ a < b ∧ b ≤ 2000 := by
  simpa [holeOk] using h

theorem ck_back (n : Int) (h0 : 0 ≤ n) (h1 : n ≤ 9223372036854775807) : 4004001 * (n.tdiv 4004001) + 2001 * ((n.tmod 4004001).tdiv 2001) + n.tmod 2001 = n := by
  have e1 : n.tmod 4004001 = n % 4004001 := Int.tmod_eq_emod_of_nonneg h0
  rw [e1, Int.tdiv_eq_ediv_of_nonneg h0, Int.tmod_eq_emod_of_nonneg h0, Int.tdiv_eq_ediv_of_nonneg (by omega)]
  omega
theorem FnExactHoleOfNumber (n : Int) (hn : (Lit.int .i64 n).wf = true) : laws_FnExactHoleOfNumber.f n = some true := by
  have hb : -9223372036854775808 ≤ n ∧ n ≤ 9223372036854775807 := by
    have e1 : IntKind.min .i64 = -9223372036854775808 := by decide
    have e2 : IntKind.max .i64 = 9223372036854775807 := by decide
    simp [Lit.wf, e1, e2] at hn; omega
  have z : laws_eqHole.f 0 0 0 0 0 0 = some true := by decide
  have same : ∀ t a b : Int, laws_eqHole.f t a b t a b = some true := fun t a b => by simp [laws_eqHole.f]
  by_cases c : n < 0
  · simp only [laws_FnExactHoleOfNumber.f, spec_HoleOfNumber.f, impl_HoleOfNumber.f, if_pos c, Option.bind_some, z, bnot_ne, if_true, Bool.false_eq_true, if_false]
  · have hk := ck_back n (by omega) hb.2
    have w1 : wrap64 (n.tdiv 4004001) = n.tdiv 4004001 := by rw [Int.tdiv_eq_ediv_of_nonneg (by omega)]; exact wrapS (by omega) (by omega)
    have w2 : wrap64 ((n.tmod 4004001).tdiv 2001) = (n.tmod 4004001).tdiv 2001 := by rw [Int.tmod_eq_emod_of_nonneg (by omega), Int.tdiv_eq_ediv_of_nonneg (by omega)]; exact wrapS (by omega) (by omega)
    cases g : holeOk (n.tdiv 4004001) ((n.tmod 4004001).tdiv 2001) (n.tmod 2001) with
    | false =>
      simp only [laws_FnExactHoleOfNumber.f, spec_HoleOfNumber.f, impl_HoleOfNumber.f, if_neg c, w1, w2, shHole_ok, isHole_ok, g, Option.bind_some, z, bnot_ne, if_true, Bool.false_eq_true, if_false]
    | true =>
      obtain ⟨b1, b2, b3, b4, b5, b6⟩ := holeOk_bounds g
      have hc : spec_ckNumber.f (n.tdiv 4004001) ((n.tmod 4004001).tdiv 2001) (n.tmod 2001) = some n := by
        rw [spec_ckNumber.f]
        rw [wrapS (x := 4004001 * n.tdiv 4004001) (by omega) (by omega), wrapS (x := 2001 * (n.tmod 4004001).tdiv 2001) (by omega) (by omega), wrapS (x := 4004001 * n.tdiv 4004001 + 2001 * (n.tmod 4004001).tdiv 2001) (by omega) (by omega), hk, wrapS hb.1 hb.2]
      simp only [laws_FnExactHoleOfNumber.f, spec_HoleOfNumber.f, impl_HoleOfNumber.f, if_neg c, w1, w2, shHole_ok, isHole_ok, g, hc, same, Option.bind_some, bnot_ne, if_true, Bool.false_eq_true, if_false]

end Go.Proofs.Ytlcobkldkcdhbaa.LHoleOfNumber
