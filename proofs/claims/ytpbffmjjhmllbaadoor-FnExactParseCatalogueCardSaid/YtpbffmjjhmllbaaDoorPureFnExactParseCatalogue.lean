/- For every text the law FnExactParseCatalogue answers true, after some number of rounds; the condition is the text's own bound. -/
import Derived.Test.YtpbffmjjhmllbaaDoorQFnExactParseCataloguex10
import Derived.Test.YtpbffmjjhmllbaaDoorBaseP
import Derived.Test.YtpbffmjjhmllbaaDoorLFnExactParseCatalogueB
namespace Go.Proofs.YtpbffmjjhmllbaaDoor.Pure
open Go Go.RowKit Go.Proofs.YtpbffmjjhmllbaaDoor.QFnExactParseCatalogue Go.Proofs.YtpbffmjjhmllbaaDoorW.PrintWords Go.Proofs.YtpbffmjjhmllbaaDoorW.PrintLast Go.Proofs.YtpbffmjjhmllbaaDoorW.PrintMore Go.Proofs.YtpbffmjjhmllbaaDoor.Base Go.Proofs.YtpbffmjjhmllbaaDoor.LFnExactParseCatalogueA Go.Proofs.YtpbffmjjhmllbaaDoor.LFnExactParseCatalogueB
set_option linter.unusedVariables false
set_option linter.unusedSimpArgs false

/-! the law -/
theorem specP_len (s : List UInt8) : (specP s).1.length ≤ 30 := by
  unfold specP
  by_cases c : (spl 10 s).length > 31
  · rw [if_pos c]; simp
  · rw [if_neg c]
    cases sRolls (spl 10 s).dropLast with
    | none => simp [sEnd]
    | some out =>
      rw [sEnd]
      by_cases g : good out = true ∧ textC out = s
      · rw [if_pos g]
        have h := g.1
        unfold good at h
        exact of_decide_eq_true (Bool.and_eq_true_iff.1 h).2
      · rw [if_neg g]; simp
theorem ne2 (x : Bool) : ¬ (x != x) = true := by simp
set_option maxHeartbeats 4000000 in
theorem FnExactParseCatalogue : laws_FnExactParseCatalogue.Pure := by
  intro s hs
  by_cases big : (s.size : Int) > 1048576
  · exact ⟨0, by rw [laws_FnExactParseCatalogue.f, if_pos big]⟩
  obtain ⟨K1, e1⟩ := specParse_ok s (by omega)
  obtain ⟨K2, e2⟩ := implParse_ok s (by omega)
  rw [parse_same] at e2
  have hl := specP_len s.data.toList
  generalize specP s.data.toList = R at e1 e2 hl
  obtain ⟨R1, R2⟩ := R
  simp only at hl
  obtain ⟨K3, e3⟩ := eqRollS_same R1 (by omega)
  obtain ⟨K4, e4⟩ := markRollS_all R1 1 (by omega) (by omega) (by omega)
  obtain ⟨K5, e5⟩ := heldRollS_all R1.length 1 (by omega) (by omega) (by omega)
  dsimp only at e1 e2 e3 e4 e5
  have j1 : ∀ k, K5 + 1 ≤ k → laws_FnExactParseCatalogue.j1 k (mrolls R1.length 1) (1 + 4 * (R1.length : Int)) false = some true := by
    intro k hk
    obtain ⟨q, rfl⟩ : ∃ q, k = q + 1 := ⟨k - 1, by omega⟩
    rw [laws_FnExactParseCatalogue.j1, if_neg (by simp), e5 q (by omega), Option.bind_some, if_neg (by omega), if_pos rfl]
  have j0 : ∀ k, K2 + K3 + K4 + K5 + 2 ≤ k → laws_FnExactParseCatalogue.j0 k s R1 R2 R1 false = some true := by
    intro k hk
    obtain ⟨q, rfl⟩ : ∃ q, k = q + 1 := ⟨k - 1, by omega⟩
    rw [laws_FnExactParseCatalogue.j0, if_neg (by simp), e4 q (by omega), Option.bind_some]
    dsimp only
    rw [e5 q (by omega), Option.bind_some, if_neg (by omega), if_pos rfl, e2 q (by omega), Option.bind_some]
    dsimp only
    rw [e3 q (by omega), Option.bind_some, if_pos rfl, show (R2 != R2) = false by simp]
    exact j1 q (by omega)
  refine ⟨K1 + K2 + K3 + K4 + K5 + 2, ?_⟩
  generalize hK : K1 + K2 + K3 + K4 + K5 + 2 = k
  rw [laws_FnExactParseCatalogue.f, if_neg big, e1 k (by omega), Option.bind_some, e2 k (by omega), Option.bind_some]
  dsimp only
  rw [e3 k (by omega), Option.bind_some, if_pos rfl, show (R2 != R2) = false by simp]
  exact j0 k (by omega)

end Go.Proofs.YtpbffmjjhmllbaaDoor.Pure
