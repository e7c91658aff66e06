/- For every input the law FnExactAreJobs answers true, after some number of rounds; the conditions are the input's own bounds. -/
import Derived.Test.YtldngpdppickdaaPFnExactAreJobsx2
import Derived.Test.YtldngpdppickdaaBase
namespace Go.Proofs.Ytldngpdppickdaa.LAreJobs
open Go Go.RowKit Go.Proofs.Ytldngpdppickdaa.PFnExactAreJobs Go.Proofs.YtldngpdppickdaaW.PrintWords Go.Proofs.YtldngpdppickdaaW.PrintLast Go.Proofs.YtldngpdppickdaaW.PrintMore Go.Proofs.Ytldngpdppickdaa.Base
set_option linter.unusedVariables false
set_option linter.unusedSimpArgs false

/-! slices of jobs: copied, held against each other; good jobs -/
def toJ (x : S96) : S94 := ⟨x.f0, x.f1, x.f2⟩
theorem rdLJ_mid (pre suf : List S96) (x : S96) : rd_T96 (pre ++ x :: suf) (pre.length : Int) = x := getD_mid _ _ _ _ _ (by simp)
theorem rdJ_mid (pre suf : List S94) (x : S94) : rd_T94 (pre ++ x :: suf) (pre.length : Int) = x := getD_mid _ _ _ _ _ (by simp)
theorem szJobS_ok (l : List S96) (h : l.length ≤ 140737488351232) : laws_szJobS.f l 1048576 = some (if 1048576 - (l.length : Int) < 0 then -1 else 1048576 - (l.length : Int)) := by
  have w1 : wrap64 (1048576 - (l.length : Int)) = 1048576 - (l.length : Int) := wrapS (by omega) (by omega)
  rw [laws_szJobS.f, w1]
  split <;> rfl
theorem toJobS_l0 (suf : List S96) : ∀ pre : List S96, (pre ++ suf).length ≤ 9223372036854775806 →
    Ev (fun k => laws_toJobS.l0 k (pre ++ suf) (pre.map toJ ++ List.replicate suf.length z94) (pre.length : Int)) ((pre ++ suf).map toJ) := by
  induction suf with
  | nil =>
    intro pre _
    refine ev_step ev_const (fun k => ?_)
    rw [laws_toJobS.l0, if_neg (by simp)]
    simp
  | cons x suf ih =>
    intro pre hl
    have h := ih (pre ++ [x]) (by simp at hl ⊢; omega)
    rw [snoc_app, snoc_leni, List.map_append, List.map_cons, List.map_nil, snoc_app] at h
    have hl' : (pre.length : Int) < ((pre ++ x :: suf).length : Int) := by simp; omega
    refine ev_step h (fun k => ?_)
    rw [laws_toJobS.l0, if_pos hl', if_pos (by omega), rdLJ_mid]
    simp only [laws_toJob.f, Option.bind_some]
    rw [if_pos (by simp; omega), wrapS (by omega) (by simp at hl; omega), List.length_cons, List.replicate_succ, set_mid _ _ _ _ _ (by simp)]
    rfl
theorem toJobS_copy (l : List S96) (h : l.length ≤ 1048576) : Ev (fun k => laws_toJobS.f k l) (l.map toJ) := by
  have := toJobS_l0 l [] (by simp; omega)
  refine Ev.congr (fun k => ?_) this
  rw [laws_toJobS.f, if_pos (by omega), if_pos (by omega)]
  simp
theorem eqJobS_l0 (suf : List S94) : ∀ pre : List S94, (pre ++ suf).length ≤ 9223372036854775806 → Ev (fun k => laws_eqJobS.l0 k (pre ++ suf) (pre ++ suf) (pre.length : Int)) true := by
  induction suf with
  | nil =>
    intro pre _
    refine ev_step ev_const (fun k => ?_)
    rw [laws_eqJobS.l0, if_neg (by simp)]
  | cons x suf ih =>
    intro pre hl
    have h := ih (pre ++ [x]) (by simp at hl ⊢; omega)
    rw [snoc_app, snoc_leni] at h
    have hl' : (pre.length : Int) < ((pre ++ x :: suf).length : Int) := by simp; omega
    refine ev_step h (fun k => ?_)
    rw [laws_eqJobS.l0, if_pos hl', if_pos (by omega), if_pos hl']
    simp only [laws_eqJob.f, if_true, Option.bind_some]
    rw [wrapS (by omega) (by simp at hl; omega)]
theorem eqJobS_same (l : List S94) (h : l.length ≤ 9223372036854775806) : Ev (fun k => laws_eqJobS.f k l l) true := by
  have := eqJobS_l0 l [] (by simpa using h)
  refine Ev.congr (fun k => ?_) this
  simp [laws_eqJobS.f]
def jobOk (x : S94) : Bool := decide (1 ≤ x.f0 ∧ x.f0 ≤ 30 ∧ 0 ≤ x.f1 ∧ x.f1 ≤ 400 ∧ 0 ≤ x.f2 ∧ x.f2 ≤ 20)
theorem l1In_ok (a b c : Int) : spec_l1In.f a b c = some (decide (b ≤ a ∧ a ≤ c)) := by
  unfold spec_l1In.f
  by_cases h : a ≥ b
  · rw [if_pos h]; congr 1; exact decide_eq_decide.2 ⟨fun q => ⟨h, q⟩, fun q => q.2⟩
  · rw [if_neg h]; congr 1; exact (decide_eq_false (fun q => h q.1)).symm
theorem pnGood_l0 (l : List S94) (suf : List S94) : ∀ pre : List S94, (pre ++ suf).length ≤ 1048576 →
    Ev (fun k => spec_pnGood.l0 k l (pre ++ suf) ((pre ++ suf).length : Int) (pre.length : Int)) (suf.all jobOk && decide ((l.length : Int) ≤ 12)) := by
  induction suf with
  | nil =>
    intro pre _
    refine ev_step (f := fun _ => some _) (Ev.now _) (fun k => ?_)
    rw [spec_pnGood.l0, if_neg (by simp)]; simp
  | cons x suf ih =>
    intro pre hl
    have hlp : pre.length ≤ 1048576 := by simp at hl; omega
    have h := ih (pre ++ [x]) (by simp at hl ⊢; omega)
    rw [snoc_app, snoc_leni] at h
    have hl' : (pre.length : Int) < ((pre ++ x :: suf).length : Int) := by simp; omega
    have hw : wrap64 ((pre.length : Int) + 1) = (pre.length : Int) + 1 := wrapS (by omega) (by omega)
    by_cases c : jobOk x = true
    · have c2 := c
      simp only [jobOk, decide_eq_true_eq] at c2
      refine ev_step (ev_eq h (by simp [c])) (fun k => ?_)
      rw [spec_pnGood.l0, if_pos hl', if_pos (by omega), if_pos hl', rdJ_mid]
      simp only [l1In_ok, Option.bind_some]
      rw [if_pos (decide_eq_true ⟨c2.1, c2.2.1⟩), if_pos (decide_eq_true ⟨c2.2.2.1, c2.2.2.2.1⟩), if_pos (decide_eq_true c2.2.2.2.2), hw]
    · have c2 := c
      simp only [jobOk, decide_eq_true_eq] at c2
      refine ev_step (f := fun _ => some _) (Ev.now _) (fun k => ?_)
      rw [spec_pnGood.l0, if_pos hl', if_pos (by omega), if_pos hl', rdJ_mid]
      simp only [l1In_ok, Option.bind_some]
      have e : ((x :: suf).all jobOk && decide ((l.length : Int) ≤ 12)) = false := by simp [Bool.eq_false_iff.2 c]
      rw [e]
      by_cases d1 : 1 ≤ x.f0 ∧ x.f0 ≤ 30
      · rw [if_pos (decide_eq_true d1)]
        by_cases d2 : 0 ≤ x.f1 ∧ x.f1 ≤ 400
        · rw [if_pos (decide_eq_true d2), if_neg (by simp only [decide_eq_true_eq]; intro d3; exact c2 ⟨d1.1, d1.2, d2.1, d2.2, d3.1, d3.2⟩)]
        · rw [if_neg (by simpa using d2)]
      · rw [if_neg (by simpa using d1)]
def jobsGood (l : List S94) : Bool := l.all jobOk && decide ((l.length : Int) ≤ 12)
theorem pnGood_ok (l : List S94) (h : l.length ≤ 1048576) : Ev (fun k => spec_pnGood.f k l) (jobsGood l) :=
  Ev.congr (f := fun k => spec_pnGood.l0 k l l (l.length : Int) 0) (fun _ => rfl) (pnGood_l0 l l [] (by simpa using h))
theorem areJobs_l0 (l : List S94) (suf : List S94) : ∀ pre : List S94, (pre ++ suf).length ≤ 1048576 →
    Ev (fun k => impl_AreJobs.l0 k l (pre ++ suf) ((pre ++ suf).length : Int) (pre.length : Int)) (suf.all jobOk && decide ((l.length : Int) ≤ 12)) := by
  induction suf with
  | nil =>
    intro pre _
    refine ev_step (f := fun _ => some _) (Ev.now _) (fun k => ?_)
    rw [impl_AreJobs.l0, if_neg (by simp)]; simp
  | cons x suf ih =>
    intro pre hl
    have hlp : pre.length ≤ 1048576 := by simp at hl; omega
    have h := ih (pre ++ [x]) (by simp at hl ⊢; omega)
    rw [snoc_app, snoc_leni] at h
    have hl' : (pre.length : Int) < ((pre ++ x :: suf).length : Int) := by simp; omega
    have hw : wrap64 ((pre.length : Int) + 1) = (pre.length : Int) + 1 := wrapS (by omega) (by omega)
    by_cases c : jobOk x = true
    · have c2 := c
      simp only [jobOk, decide_eq_true_eq] at c2
      refine ev_step (ev_eq h (by simp [c])) (fun k => ?_)
      rw [impl_AreJobs.l0, if_pos hl', if_pos (by omega), if_pos hl', rdJ_mid, if_neg (by omega), if_neg (by omega), if_neg (by omega), if_neg (by omega), if_neg (by omega), if_neg (by omega), hw]
    · have c2 := c
      simp only [jobOk, decide_eq_true_eq] at c2
      refine ev_step (f := fun _ => some _) (Ev.now _) (fun k => ?_)
      rw [impl_AreJobs.l0, if_pos hl', if_pos (by omega), if_pos hl', rdJ_mid]
      have e : ((x :: suf).all jobOk && decide ((l.length : Int) ≤ 12)) = false := by simp [Bool.eq_false_iff.2 c]
      rw [e]
      repeat (first | rfl | (split; rfl))
      omega
theorem areJobs_ok (l : List S94) (h : l.length ≤ 1048576) : Ev (fun k => impl_AreJobs.f k l) (jobsGood l) :=
  Ev.congr (f := fun k => impl_AreJobs.l0 k l l (l.length : Int) 0) (fun _ => rfl) (areJobs_l0 l l [] (by simpa using h))

theorem FnExactAreJobs (l : List S96) (hb : l.length * 24 ≤ 140737488351232) (hw : ∀ y ∈ l, ((Lit.int .i64 y.f0).wf = true) ∧ ((Lit.int .i64 y.f1).wf = true) ∧ ((Lit.int .i64 y.f2).wf = true)) : ∃ k, laws_FnExactAreJobs.f k l = some true := by
  have e0 := szJobS_ok l (by omega)
  by_cases c : 1048576 - (l.length : Int) < 0
  · rw [if_pos c] at e0
    exact ⟨0, by simp (disch := omega) only [laws_FnExactAreJobs.f, e0, Option.bind_some, if_true, show (-1 : Int) < 0 by omega]⟩
  rw [if_neg c] at e0
  have hl : l.length ≤ 1048576 := by omega
  have hl2 : (l.map toJ).length ≤ 1048576 := by simpa using hl
  obtain ⟨K1, e1⟩ := toJobS_copy l hl
  obtain ⟨K2, e2⟩ := pnGood_ok (l.map toJ) hl2
  obtain ⟨K3, e3⟩ := areJobs_ok (l.map toJ) hl2
  obtain ⟨K4, e4⟩ := eqJobS_same (l.map toJ) (by omega)
  dsimp only at e1 e2 e3 e4
  refine ⟨K1 + K2 + K3 + K4 + 6, ?_⟩
  simp (disch := omega) only [laws_FnExactAreJobs.f, spec_AreJobs.f, e0, e1, e2, e3, e4, c, if_false, if_true, Option.bind_some, bnot_ne, Bool.false_eq_true]

end Go.Proofs.Ytldngpdppickdaa.LAreJobs
