/- For every list of ints the law FnExactIsState answers true, after some number of rounds; the condition is the list's own bound. -/
import Derived.Test.YteopihcigopbbaaPFnExactIsStatex1
import Derived.Test.YteopihcigopbbaaBase
namespace Go.Proofs.Yteopihcigopbbaa.LIsState
open Go Go.RowKit Go.Proofs.Yteopihcigopbbaa.PFnExactIsState Go.Proofs.YteopihcigopbbaaW.PrintWords Go.Proofs.YteopihcigopbbaaW.PrintLast Go.Proofs.YteopihcigopbbaaW.PrintMore Go.Proofs.Yteopihcigopbbaa.Base
set_option linter.unusedVariables false
set_option linter.unusedSimpArgs false

/-! slices of ints: copied, held against each other, marked -/
theorem eqIntS_l0 (suf : List Int) : ∀ pre : List Int, (pre ++ suf).length ≤ 9223372036854775806 → Ev (fun k => laws_eqIntS.l0 k (pre ++ suf) (pre ++ suf) (pre.length : Int)) true := by
  induction suf with
  | nil =>
    intro pre _
    refine ev_step ev_const (fun k => ?_)
    rw [laws_eqIntS.l0, if_neg (by simp)]
  | cons x suf ih =>
    intro pre hl
    have h := ih (pre ++ [x]) (by simp at hl ⊢; omega)
    rw [snoc_app, snoc_leni] at h
    have hl' : (pre.length : Int) < ((pre ++ x :: suf).length : Int) := by simp; omega
    refine ev_step h (fun k => ?_)
    rw [laws_eqIntS.l0, if_pos hl', if_pos (by omega), if_pos hl', if_pos rfl, wrapS (by omega) (by simp at hl; omega)]

theorem eqIntS_same (l : List Int) (h : l.length ≤ 9223372036854775806) : Ev (fun k => laws_eqIntS.f k l l) true := by
  have := eqIntS_l0 l [] (by simpa using h)
  refine Ev.congr (fun k => ?_) this
  simp [laws_eqIntS.f]

theorem toIntS_l0 (suf : List Int) : ∀ pre : List Int, (pre ++ suf).length ≤ 9223372036854775806 → Ev (fun k => laws_toIntS.l0 k (pre ++ suf) (pre ++ List.replicate suf.length 0) (pre.length : Int)) (pre ++ suf) := by
  induction suf with
  | nil =>
    intro pre _
    refine ev_step ev_const (fun k => ?_)
    rw [laws_toIntS.l0, if_neg (by simp)]
    simp
  | cons x suf ih =>
    intro pre hl
    have h := ih (pre ++ [x]) (by simp at hl ⊢; omega)
    rw [snoc_app, snoc_app, snoc_leni] at h
    have hl' : (pre.length : Int) < ((pre ++ x :: suf).length : Int) := by simp; omega
    refine ev_step h (fun k => ?_)
    rw [laws_toIntS.l0, if_pos hl', if_pos (by omega), if_pos (by simp; omega), rd_mid, wrapS (by omega) (by simp at hl; omega), List.length_cons, List.replicate_succ, set_mid _ _ _ _ _ (by simp)]

theorem toIntS_copy (l : List Int) (h : l.length ≤ 1048576) : Ev (fun k => laws_toIntS.f k l) l := by
  have := toIntS_l0 l [] (by simp; omega)
  refine Ev.congr (fun k => ?_) this
  rw [laws_toIntS.f, if_pos (by omega), if_pos (by omega)]
  simp

/-! all numbers of a list lie in a range -/
theorem l1All_l0 (lo hi : Int) (suf : List Int) : ∀ pre : List Int, (pre ++ suf).length ≤ 9223372036854775806 →
    Ev (fun k => spec_l1All.l0 k lo hi (pre ++ suf) ((pre ++ suf).length : Int) (pre.length : Int)) (suf.all fun x => decide (lo ≤ x ∧ x ≤ hi)) := by
  induction suf with
  | nil =>
    intro pre _
    refine ev_step (Ev.now _) (fun k => ?_)
    rw [spec_l1All.l0, if_neg (by simp)]
    rfl
  | cons x suf ih =>
    intro pre hl
    have h := ih (pre ++ [x]) (by simp at hl ⊢; omega)
    rw [snoc_app, snoc_leni] at h
    have hl' : (pre.length : Int) < ((pre ++ x :: suf).length : Int) := by simp; omega
    have hw : wrap64 ((pre.length : Int) + 1) = (pre.length : Int) + 1 := wrapS (by omega) (by simp at hl; omega)
    by_cases h1 : lo ≤ x ∧ x ≤ hi
    · refine ev_step (ev_eq h (by simp [h1])) (fun k => ?_)
      rw [spec_l1All.l0, if_pos hl', if_pos (by omega), if_pos hl', rd_mid, hw]
      simp [spec_l1In.f, h1]
    · refine ev_step (f := fun _ => some _) (Ev.now _) (fun k => ?_)
      rw [spec_l1All.l0, if_pos hl', if_pos (by omega), if_pos hl', rd_mid, hw]
      by_cases h2 : lo ≤ x
      · have h3 : ¬ x ≤ hi := fun h3 => h1 ⟨h2, h3⟩
        simp [spec_l1In.f, h2, h3]
      · simp [spec_l1In.f, h2]
theorem l1All_ok (l : List Int) (lo hi : Int) (h : l.length ≤ 9223372036854775806) : Ev (fun k => spec_l1All.f k l lo hi) (l.all fun x => decide (lo ≤ x ∧ x ≤ hi)) :=
  Ev.congr (fun _ => rfl) (l1All_l0 lo hi l [] (by simpa using h))

/-! a state -/
def stateOk (l : List Int) : Bool := (l.all fun x => decide (0 ≤ x ∧ x ≤ 999)) && decide (l.length ≤ 12)
theorem jrState_ok (l : List Int) (h : l.length ≤ 9223372036854775806) : Ev (fun k => spec_jrState.f k l) (stateOk l) := by
  by_cases h2 : l.length ≤ 12
  · refine Ev.congr (fun k => ?_) (ev_eq (l1All_ok l 0 999 h) ?_)
    · rw [spec_jrState.f, if_pos (by omega)]; simp
    · simp [stateOk, h2]
  · refine Ev.congr (f := fun _ => some (stateOk l)) (fun k => ?_) (Ev.now _)
    rw [spec_jrState.f, if_neg (by omega)]
    simp [stateOk, h2]
theorem isState_l0 (l : List Int) (suf : List Int) : ∀ pre : List Int, (pre ++ suf).length ≤ 9223372036854775806 →
    Ev (fun k => impl_IsState.l0 k l (pre ++ suf) ((pre ++ suf).length : Int) (pre.length : Int)) ((suf.all fun x => decide (0 ≤ x ∧ x ≤ 999)) && decide (l.length ≤ 12)) := by
  induction suf with
  | nil =>
    intro pre _
    refine ev_step (f := fun _ => some _) (Ev.now _) (fun k => ?_)
    rw [impl_IsState.l0, if_neg (by simp)]
    have e : decide ((l.length : Int) ≤ 12) = decide (l.length ≤ 12) := by
      by_cases h : l.length ≤ 12
      · simp [h]; omega
      · simp [h]; omega
    rw [e]; simp
  | cons x suf ih =>
    intro pre hl
    have h := ih (pre ++ [x]) (by simp at hl ⊢; omega)
    rw [snoc_app, snoc_leni] at h
    have hl' : (pre.length : Int) < ((pre ++ x :: suf).length : Int) := by simp; omega
    have hw : wrap64 ((pre.length : Int) + 1) = (pre.length : Int) + 1 := wrapS (by omega) (by simp at hl; omega)
    by_cases h1 : 0 ≤ x ∧ x ≤ 999
    · refine ev_step (ev_eq h (by simp [h1])) (fun k => ?_)
      rw [impl_IsState.l0, if_pos hl', if_pos (by omega), if_pos hl', rd_mid, hw, if_neg (by omega), if_neg (by omega)]
    · refine ev_step (f := fun _ => some _) (Ev.now _) (fun k => ?_)
      rw [impl_IsState.l0, if_pos hl', if_pos (by omega), if_pos hl', rd_mid, hw]
      by_cases h2 : x < 0
      · rw [if_pos h2]; simp [show ¬ 0 ≤ x by omega]
      · rw [if_neg h2, if_pos (by omega)]; simp [show ¬ x ≤ 999 by omega]
theorem isState_ok (l : List Int) (h : l.length ≤ 9223372036854775806) : Ev (fun k => impl_IsState.f k l) (stateOk l) :=
  Ev.congr (fun _ => rfl) (isState_l0 l l [] (by simpa using h))

theorem FnExactIsState (a : List Int) (_ha : a.length * 8 ≤ 140737488351232) (_hg : ∀ y ∈ a, (Lit.int .i64 y).wf = true) : ∃ k, laws_FnExactIsState.f k a = some true := by
  by_cases ha : (a.length : Int) > 1048576
  · exact ⟨0, by rw [laws_FnExactIsState.f, if_pos ha]⟩
  obtain ⟨K1, h1⟩ := toIntS_copy a (by omega)
  obtain ⟨K2, h2⟩ := jrState_ok a (by omega)
  obtain ⟨K3, h3⟩ := isState_ok a (by omega)
  obtain ⟨K4, h4⟩ := eqIntS_same a (by omega)
  dsimp only at h1 h2 h3 h4
  refine ⟨K1 + K2 + K3 + K4 + 3, ?_⟩
  simp (disch := omega) only [laws_FnExactIsState.f, ha, if_false, h1, spec_IsState.f, h2, h3, h4, Option.bind_some, if_true, bnot_ne, Bool.false_eq_true]

end Go.Proofs.Yteopihcigopbbaa.LIsState
