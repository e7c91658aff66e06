/- For every input the law FnExactWorstLateness answers true, after some number of rounds; the conditions are the input's own bounds. -/
import Derived.Test.YtldngpdppickdaaQFnExactWorstLatenessx4
import Derived.Test.YtldngpdppickdaaBase
namespace Go.Proofs.Ytldngpdppickdaa.LWorstLateness
open Go Go.RowKit Go.Proofs.Ytldngpdppickdaa.QFnExactWorstLateness Go.Proofs.YtldngpdppickdaaW.PrintWords Go.Proofs.YtldngpdppickdaaW.PrintLast Go.Proofs.YtldngpdppickdaaW.PrintMore Go.Proofs.Ytldngpdppickdaa.Base
set_option linter.unusedVariables false
set_option linter.unusedSimpArgs false

/-! slices of ints: copied, held against each other, marked -/
theorem eqIntS_l0 (suf : List Int) : ∀ pre : List Int, (pre ++ suf).length ≤ 9223372036854775806 → Ev (fun k => laws_eqIntS.l0 k (pre ++ suf) (pre ++ suf) (pre.length : Int)) true := by
  induction suf with
  | nil =>
    intro pre _
    refine ev_step ev_const (fun k => ?_)
    rw [laws_eqIntS.l0, if_neg (by simp)]
  | cons x suf ih =>
    intro pre hl
    have h := ih (pre ++ [x]) (by simp at hl ⊢; omega)
    rw [snoc_app, snoc_leni] at h
    have hl' : (pre.length : Int) < ((pre ++ x :: suf).length : Int) := by simp; omega
    refine ev_step h (fun k => ?_)
    rw [laws_eqIntS.l0, if_pos hl', if_pos (by omega), if_pos hl', if_pos rfl, wrapS (by omega) (by simp at hl; omega)]

theorem eqIntS_same (l : List Int) (h : l.length ≤ 9223372036854775806) : Ev (fun k => laws_eqIntS.f k l l) true := by
  have := eqIntS_l0 l [] (by simpa using h)
  refine Ev.congr (fun k => ?_) this
  simp [laws_eqIntS.f]

theorem toIntS_l0 (suf : List Int) : ∀ pre : List Int, (pre ++ suf).length ≤ 9223372036854775806 → Ev (fun k => laws_toIntS.l0 k (pre ++ suf) (pre ++ List.replicate suf.length 0) (pre.length : Int)) (pre ++ suf) := by
  induction suf with
  | nil =>
    intro pre _
    refine ev_step ev_const (fun k => ?_)
    rw [laws_toIntS.l0, if_neg (by simp)]
    simp
  | cons x suf ih =>
    intro pre hl
    have h := ih (pre ++ [x]) (by simp at hl ⊢; omega)
    rw [snoc_app, snoc_app, snoc_leni] at h
    have hl' : (pre.length : Int) < ((pre ++ x :: suf).length : Int) := by simp; omega
    refine ev_step h (fun k => ?_)
    rw [laws_toIntS.l0, if_pos hl', if_pos (by omega), if_pos (by simp; omega), rd_mid, wrapS (by omega) (by simp at hl; omega), List.length_cons, List.replicate_succ, set_mid _ _ _ _ _ (by simp)]

theorem toIntS_copy (l : List Int) (h : l.length ≤ 1048576) : Ev (fun k => laws_toIntS.f k l) l := by
  have := toIntS_l0 l [] (by simp; omega)
  refine Ev.congr (fun k => ?_) this
  rw [laws_toIntS.f, if_pos (by omega), if_pos (by omega)]
  simp

theorem l1Has_l0 (n : Int) (suf : List Int) : ∀ pre : List Int, (pre ++ suf).length ≤ 1048576 → Ev (fun k => spec_l1Has.l0 k n (pre ++ suf) ((pre ++ suf).length : Int) (pre.length : Int)) (decide (n ∈ suf)) := by
  induction suf with
  | nil =>
    intro pre _
    refine ev_step (f := fun _ => some _) (Ev.now _) (fun k => ?_)
    rw [spec_l1Has.l0, if_neg (by simp)]; simp
  | cons x suf ih =>
    intro pre hl
    have h := ih (pre ++ [x]) (by simp at hl ⊢; omega)
    rw [snoc_app, snoc_leni] at h
    have hl' : (pre.length : Int) < ((pre ++ x :: suf).length : Int) := by simp; omega
    have hw : wrap64 ((pre.length : Int) + 1) = (pre.length : Int) + 1 := wrapS (by omega) (by simp at hl; omega)
    by_cases c : x = n
    · refine ev_step (f := fun _ => some _) (Ev.now _) (fun k => ?_)
      rw [spec_l1Has.l0, if_pos hl', if_pos (by omega), if_pos hl', rd_mid, if_pos c]; simp [c]
    · refine ev_step (ev_eq h (by simp [fun q => c (Eq.symm q)]; intro q; exact absurd q.symm c)) (fun k => ?_)
      rw [spec_l1Has.l0, if_pos hl', if_pos (by omega), if_pos hl', rd_mid, if_neg c, hw]
theorem l1Has_ok (l : List Int) (n : Int) (h : l.length ≤ 1048576) : Ev (fun k => spec_l1Has.f k l n) (decide (n ∈ l)) :=
  Ev.congr (fun _ => rfl) (l1Has_l0 n l [] (by simpa using h))
theorem index_l0 (n : Int) (suf : List Int) : ∀ pre : List Int, (pre ++ suf).length ≤ 1048576 → ∃ r, Ev (fun k => slices_Index_int_int.l0 k (pre ++ suf) n ((pre ++ suf).length : Int) (pre.length : Int)) r ∧ (r ≥ 0 ↔ n ∈ suf) := by
  induction suf with
  | nil =>
    intro pre _
    refine ⟨-1, ev_step (f := fun _ => some _) (Ev.now _) (fun k => ?_), by simp⟩
    rw [slices_Index_int_int.l0, if_neg (by simp)]
  | cons x suf ih =>
    intro pre hl
    obtain ⟨r, h, hr⟩ := ih (pre ++ [x]) (by simp at hl ⊢; omega)
    rw [snoc_app, snoc_leni] at h
    have hl' : (pre.length : Int) < ((pre ++ x :: suf).length : Int) := by simp; omega
    have hw : wrap64 ((pre.length : Int) + 1) = (pre.length : Int) + 1 := wrapS (by omega) (by simp at hl; omega)
    by_cases c : n = x
    · refine ⟨(pre.length : Int), ev_step (f := fun _ => some _) (Ev.now _) (fun k => ?_), by simp [c]⟩
      rw [slices_Index_int_int.l0, if_pos hl', if_pos (by omega), if_pos hl', rd_mid, if_pos c]
    · refine ⟨r, ev_step h (fun k => ?_), by rw [hr]; simp [c]⟩
      rw [slices_Index_int_int.l0, if_pos hl', if_pos (by omega), if_pos hl', rd_mid, if_neg c, hw]
theorem contains_ok (l : List Int) (n : Int) (h : l.length ≤ 1048576) : Ev (fun k => slices_Contains_int_int.f k l n) (decide (n ∈ l)) := by
  obtain ⟨r, hr, e⟩ := index_l0 n l [] (by simpa using h)
  refine Ev.bind (Ev.congr (fun _ => rfl) hr) (ev_of_eq (fun _ => ?_))
  congr 1
  exact decide_eq_decide.2 e

/-! slices of jobs: copied, held against each other; good jobs -/
def toJ (x : S96) : S94 := ⟨x.f0, x.f1, x.f2⟩
theorem rdLJ_mid (pre suf : List S96) (x : S96) : rd_T96 (pre ++ x :: suf) (pre.length : Int) = x := getD_mid _ _ _ _ _ (by simp)
theorem rdJ_mid (pre suf : List S94) (x : S94) : rd_T94 (pre ++ x :: suf) (pre.length : Int) = x := getD_mid _ _ _ _ _ (by simp)
theorem szJobS_ok (l : List S96) (h : l.length ≤ 140737488351232) : laws_szJobS.f l 1048576 = some (if 1048576 - (l.length : Int) < 0 then -1 else 1048576 - (l.length : Int)) := by
  have w1 : wrap64 (1048576 - (l.length : Int)) = 1048576 - (l.length : Int) := wrapS (by omega) (by omega)
  rw [laws_szJobS.f, w1]
  split <;> rfl
theorem toJobS_l0 (suf : List S96) : ∀ pre : List S96, (pre ++ suf).length ≤ 9223372036854775806 →
    Ev (fun k => laws_toJobS.l0 k (pre ++ suf) (pre.map toJ ++ List.replicate suf.length z94) (pre.length : Int)) ((pre ++ suf).map toJ) := by
  induction suf with
  | nil =>
    intro pre _
    refine ev_step ev_const (fun k => ?_)
    rw [laws_toJobS.l0, if_neg (by simp)]
    simp
  | cons x suf ih =>
    intro pre hl
    have h := ih (pre ++ [x]) (by simp at hl ⊢; omega)
    rw [snoc_app, snoc_leni, List.map_append, List.map_cons, List.map_nil, snoc_app] at h
    have hl' : (pre.length : Int) < ((pre ++ x :: suf).length : Int) := by simp; omega
    refine ev_step h (fun k => ?_)
    rw [laws_toJobS.l0, if_pos hl', if_pos (by omega), rdLJ_mid]
    simp only [laws_toJob.f, Option.bind_some]
    rw [if_pos (by simp; omega), wrapS (by omega) (by simp at hl; omega), List.length_cons, List.replicate_succ, set_mid _ _ _ _ _ (by simp)]
    rfl
theorem toJobS_copy (l : List S96) (h : l.length ≤ 1048576) : Ev (fun k => laws_toJobS.f k l) (l.map toJ) := by
  have := toJobS_l0 l [] (by simp; omega)
  refine Ev.congr (fun k => ?_) this
  rw [laws_toJobS.f, if_pos (by omega), if_pos (by omega)]
  simp
theorem eqJobS_l0 (suf : List S94) : ∀ pre : List S94, (pre ++ suf).length ≤ 9223372036854775806 → Ev (fun k => laws_eqJobS.l0 k (pre ++ suf) (pre ++ suf) (pre.length : Int)) true := by
  induction suf with
  | nil =>
    intro pre _
    refine ev_step ev_const (fun k => ?_)
    rw [laws_eqJobS.l0, if_neg (by simp)]
  | cons x suf ih =>
    intro pre hl
    have h := ih (pre ++ [x]) (by simp at hl ⊢; omega)
    rw [snoc_app, snoc_leni] at h
    have hl' : (pre.length : Int) < ((pre ++ x :: suf).length : Int) := by simp; omega
    refine ev_step h (fun k => ?_)
    rw [laws_eqJobS.l0, if_pos hl', if_pos (by omega), if_pos hl']
    simp only [laws_eqJob.f, if_true, Option.bind_some]
    rw [wrapS (by omega) (by simp at hl; omega)]
theorem eqJobS_same (l : List S94) (h : l.length ≤ 9223372036854775806) : Ev (fun k => laws_eqJobS.f k l l) true := by
  have := eqJobS_l0 l [] (by simpa using h)
  refine Ev.congr (fun k => ?_) this
  simp [laws_eqJobS.f]
def jobOk (x : S94) : Bool := decide (1 ≤ x.f0 ∧ x.f0 ≤ 30 ∧ 0 ≤ x.f1 ∧ x.f1 ≤ 400 ∧ 0 ≤ x.f2 ∧ x.f2 ≤ 20)
theorem l1In_ok (a b c : Int) : spec_l1In.f a b c = some (decide (b ≤ a ∧ a ≤ c)) := by
  unfold spec_l1In.f
  by_cases h : a ≥ b
  · rw [if_pos h]; congr 1; exact decide_eq_decide.2 ⟨fun q => ⟨h, q⟩, fun q => q.2⟩
  · rw [if_neg h]; congr 1; exact (decide_eq_false (fun q => h q.1)).symm
theorem pnGood_l0 (l : List S94) (suf : List S94) : ∀ pre : List S94, (pre ++ suf).length ≤ 1048576 →
    Ev (fun k => spec_pnGood.l0 k l (pre ++ suf) ((pre ++ suf).length : Int) (pre.length : Int)) (suf.all jobOk && decide ((l.length : Int) ≤ 12)) := by
  induction suf with
  | nil =>
    intro pre _
    refine ev_step (f := fun _ => some _) (Ev.now _) (fun k => ?_)
    rw [spec_pnGood.l0, if_neg (by simp)]; simp
  | cons x suf ih =>
    intro pre hl
    have hlp : pre.length ≤ 1048576 := by simp at hl; omega
    have h := ih (pre ++ [x]) (by simp at hl ⊢; omega)
    rw [snoc_app, snoc_leni] at h
    have hl' : (pre.length : Int) < ((pre ++ x :: suf).length : Int) := by simp; omega
    have hw : wrap64 ((pre.length : Int) + 1) = (pre.length : Int) + 1 := wrapS (by omega) (by omega)
    by_cases c : jobOk x = true
    · have c2 := c
      simp only [jobOk, decide_eq_true_eq] at c2
      refine ev_step (ev_eq h (by simp [c])) (fun k => ?_)
      rw [spec_pnGood.l0, if_pos hl', if_pos (by omega), if_pos hl', rdJ_mid]
      simp only [l1In_ok, Option.bind_some]
      rw [if_pos (decide_eq_true ⟨c2.1, c2.2.1⟩), if_pos (decide_eq_true ⟨c2.2.2.1, c2.2.2.2.1⟩), if_pos (decide_eq_true c2.2.2.2.2), hw]
    · have c2 := c
      simp only [jobOk, decide_eq_true_eq] at c2
      refine ev_step (f := fun _ => some _) (Ev.now _) (fun k => ?_)
      rw [spec_pnGood.l0, if_pos hl', if_pos (by omega), if_pos hl', rdJ_mid]
      simp only [l1In_ok, Option.bind_some]
      have e : ((x :: suf).all jobOk && decide ((l.length : Int) ≤ 12)) = false := by simp [Bool.eq_false_iff.2 c]
      rw [e]
      by_cases d1 : 1 ≤ x.f0 ∧ x.f0 ≤ 30
      · rw [if_pos (decide_eq_true d1)]
        by_cases d2 : 0 ≤ x.f1 ∧ x.f1 ≤ 400
        · rw [if_pos (decide_eq_true d2), if_neg (by simp only [decide_eq_true_eq]; intro d3; exact c2 ⟨d1.1, d1.2, d2.1, d2.2, d3.1, d3.2⟩)]
        · rw [if_neg (by simpa using d2)]
      · rw [if_neg (by simpa using d1)]
def jobsGood (l : List S94) : Bool := l.all jobOk && decide ((l.length : Int) ≤ 12)
theorem pnGood_ok (l : List S94) (h : l.length ≤ 1048576) : Ev (fun k => spec_pnGood.f k l) (jobsGood l) :=
  Ev.congr (f := fun k => spec_pnGood.l0 k l l (l.length : Int) 0) (fun _ => rfl) (pnGood_l0 l l [] (by simpa using h))
theorem areJobs_l0 (l : List S94) (suf : List S94) : ∀ pre : List S94, (pre ++ suf).length ≤ 1048576 →
    Ev (fun k => impl_AreJobs.l0 k l (pre ++ suf) ((pre ++ suf).length : Int) (pre.length : Int)) (suf.all jobOk && decide ((l.length : Int) ≤ 12)) := by
  induction suf with
  | nil =>
    intro pre _
    refine ev_step (f := fun _ => some _) (Ev.now _) (fun k => ?_)
    rw [impl_AreJobs.l0, if_neg (by simp)]; simp
  | cons x suf ih =>
    intro pre hl
    have hlp : pre.length ≤ 1048576 := by simp at hl; omega
    have h := ih (pre ++ [x]) (by simp at hl ⊢; omega)
    rw [snoc_app, snoc_leni] at h
    have hl' : (pre.length : Int) < ((pre ++ x :: suf).length : Int) := by simp; omega
    have hw : wrap64 ((pre.length : Int) + 1) = (pre.length : Int) + 1 := wrapS (by omega) (by omega)
    by_cases c : jobOk x = true
    · have c2 := c
      simp only [jobOk, decide_eq_true_eq] at c2
      refine ev_step (ev_eq h (by simp [c])) (fun k => ?_)
      rw [impl_AreJobs.l0, if_pos hl', if_pos (by omega), if_pos hl', rdJ_mid, if_neg (by omega), if_neg (by omega), if_neg (by omega), if_neg (by omega), if_neg (by omega), if_neg (by omega), hw]
    · have c2 := c
      simp only [jobOk, decide_eq_true_eq] at c2
      refine ev_step (f := fun _ => some _) (Ev.now _) (fun k => ?_)
      rw [impl_AreJobs.l0, if_pos hl', if_pos (by omega), if_pos hl', rdJ_mid]
      have e : ((x :: suf).all jobOk && decide ((l.length : Int) ≤ 12)) = false := by simp [Bool.eq_false_iff.2 c]
      rw [e]
      repeat (first | rfl | (split; rfl))
      omega
theorem areJobs_ok (l : List S94) (h : l.length ≤ 1048576) : Ev (fun k => impl_AreJobs.f k l) (jobsGood l) :=
  Ev.congr (f := fun k => impl_AreJobs.l0 k l l (l.length : Int) 0) (fun _ => rfl) (areJobs_l0 l l [] (by simpa using h))

/-! orders of jobs, and the days on which they end -/
def orderFrom (n : Int) : List Int → List Int → Bool
  | _, [] => true
  | pre, x :: s => decide (0 ≤ x ∧ x < n) && !decide (x ∈ pre) && orderFrom n (pre ++ [x]) s
def isOrd (l : List S94) (o : List Int) : Bool := orderFrom (l.length : Int) [] o && (jobsGood l && ((o.length : Int) == (l.length : Int)))
theorem pnOrder_l0 (l : List S94) (hll : l.length ≤ 1048576) (suf : List Int) : ∀ pre : List Int, (pre ++ suf).length ≤ 1048576 →
    Ev (fun k => spec_pnOrder.l0 k l (pre ++ suf) (pre ++ suf) ((pre ++ suf).length : Int) (pre.length : Int)) (orderFrom (l.length : Int) pre suf && (jobsGood l && (((pre ++ suf).length : Int) == (l.length : Int)))) := by
  induction suf with
  | nil =>
    intro pre hl
    obtain ⟨K, e⟩ := pnGood_ok l hll
    dsimp only at e
    refine ⟨K + 1, fun k hk => ?_⟩
    obtain ⟨m, rfl⟩ : ∃ m, k = m + 1 := ⟨k - 1, by omega⟩
    dsimp only
    rw [spec_pnOrder.l0, if_neg (by simp), e m (by omega)]
    cases jobsGood l <;> simp [orderFrom]
  | cons x suf ih =>
    intro pre hl
    have hlp : pre.length ≤ 1048576 := by simp at hl; omega
    have h := ih (pre ++ [x]) (by simp at hl ⊢; omega)
    rw [snoc_app, snoc_leni] at h
    have hl' : (pre.length : Int) < ((pre ++ x :: suf).length : Int) := by simp; omega
    have hw : wrap64 ((pre.length : Int) + 1) = (pre.length : Int) + 1 := wrapS (by omega) (by omega)
    have hw2 : wrap64 ((l.length : Int) - 1) = (l.length : Int) - 1 := wrapS (by omega) (by omega)
    obtain ⟨K1, e1⟩ := l1Has_ok pre x hlp
    obtain ⟨K2, e2⟩ := h
    dsimp only at e1 e2
    refine ⟨K1 + K2 + 1, fun k hk => ?_⟩
    obtain ⟨m, rfl⟩ : ∃ m, k = m + 1 := ⟨k - 1, by omega⟩
    dsimp only
    have ht : (pre ++ x :: suf).take ((pre.length : Int)).toNat = pre := by rw [Int.toNat_natCast, List.take_left]
    rw [spec_pnOrder.l0, if_pos hl', if_pos (by omega), if_pos hl', rd_mid, hw2]
    simp only [l1In_ok, Option.bind_some]
    rw [if_pos (show (pre.length : Int) ≤ ((pre ++ x :: suf).length : Int) by omega), ht, e1 m (by omega), hw, e2 m (by omega)]
    simp only [Option.bind_some]
    by_cases c : 0 ≤ x ∧ x < (l.length : Int)
    · rw [if_pos (decide_eq_true (by omega))]
      by_cases d : x ∈ pre
      · simp [orderFrom, d]
      · simp [orderFrom, d, c]
    · rw [if_neg (by simp only [decide_eq_true_eq]; omega)]
      simp [orderFrom, c]
theorem pnOrder_ok (l : List S94) (o : List Int) (hll : l.length ≤ 1048576) (ho : o.length ≤ 1048576) : Ev (fun k => spec_pnOrder.f k l o) (isOrd l o) :=
  Ev.congr (f := fun k => spec_pnOrder.l0 k l o o (o.length : Int) 0) (fun _ => rfl) (pnOrder_l0 l hll o [] (by simpa using ho))
theorem isOrder_l0 (l : List S94) (hll : l.length ≤ 1048576) (suf : List Int) : ∀ pre : List Int, (pre ++ suf).length ≤ 1048576 →
    Ev (fun k => impl_isOrder.l0 k l (pre ++ suf) (pre ++ suf) ((pre ++ suf).length : Int) (pre.length : Int)) (orderFrom (l.length : Int) pre suf && (jobsGood l && (((pre ++ suf).length : Int) == (l.length : Int)))) := by
  induction suf with
  | nil =>
    intro pre hl
    obtain ⟨K, e⟩ := areJobs_ok l hll
    dsimp only at e
    refine ⟨K + 1, fun k hk => ?_⟩
    obtain ⟨m, rfl⟩ : ∃ m, k = m + 1 := ⟨k - 1, by omega⟩
    dsimp only
    rw [impl_isOrder.l0, if_neg (by simp), e m (by omega)]
    cases jobsGood l <;> simp [orderFrom]
  | cons x suf ih =>
    intro pre hl
    have hlp : pre.length ≤ 1048576 := by simp at hl; omega
    have h := ih (pre ++ [x]) (by simp at hl ⊢; omega)
    rw [snoc_app, snoc_leni] at h
    have hl' : (pre.length : Int) < ((pre ++ x :: suf).length : Int) := by simp; omega
    have hw : wrap64 ((pre.length : Int) + 1) = (pre.length : Int) + 1 := wrapS (by omega) (by omega)
    obtain ⟨K1, e1⟩ := contains_ok pre x hlp
    obtain ⟨K2, e2⟩ := h
    dsimp only at e1 e2
    refine ⟨K1 + K2 + 1, fun k hk => ?_⟩
    obtain ⟨m, rfl⟩ : ∃ m, k = m + 1 := ⟨k - 1, by omega⟩
    dsimp only
    have ht : (pre ++ x :: suf).take ((pre.length : Int)).toNat = pre := by rw [Int.toNat_natCast, List.take_left]
    rw [impl_isOrder.l0, if_pos hl', if_pos (by omega), if_pos hl', rd_mid]
    rw [if_pos (show (pre.length : Int) ≤ ((pre ++ x :: suf).length : Int) by omega), ht, e1 m (by omega), hw, e2 m (by omega)]
    simp only [Option.bind_some]
    by_cases c1 : x < 0
    · rw [if_pos c1]
      simp [orderFrom, show ¬ (0 ≤ x ∧ x < (l.length : Int)) by omega]
    · rw [if_neg c1]
      by_cases c2 : x ≥ (l.length : Int)
      · rw [if_pos c2]
        simp [orderFrom, show ¬ (0 ≤ x ∧ x < (l.length : Int)) by omega]
      · rw [if_neg c2]
        have c : 0 ≤ x ∧ x < (l.length : Int) := by omega
        by_cases d : x ∈ pre
        · simp [orderFrom, d]
        · simp [orderFrom, d, c]
theorem isOrder_ok (l : List S94) (o : List Int) (hll : l.length ≤ 1048576) (ho : o.length ≤ 1048576) : Ev (fun k => impl_isOrder.f k l o) (isOrd l o) :=
  Ev.congr (f := fun k => impl_isOrder.l0 k l o o (o.length : Int) 0) (fun _ => rfl) (isOrder_l0 l hll o [] (by simpa using ho))
theorem orderFrom_in (n : Int) (s : List Int) : ∀ pre, orderFrom n pre s = true → ∀ x ∈ s, 0 ≤ x ∧ x < n := by
  induction s with
  | nil => intro pre _ x hx; exact absurd hx List.not_mem_nil
  | cons y s ih =>
    intro pre h x hx
    simp only [orderFrom, Bool.and_eq_true, decide_eq_true_eq] at h
    rcases List.mem_cons.1 hx with rfl | hx
    · exact h.1.1
    · exact ih _ h.2 x hx
theorem isOrd_of {l : List S94} {o : List Int} (h : isOrd l o = true) : (∀ x ∈ o, 0 ≤ x ∧ x < (l.length : Int)) ∧ jobsGood l = true ∧ o.length = l.length ∧ l.length ≤ 12 := by
  simp only [isOrd, Bool.and_eq_true] at h
  have hg := h.2.1
  simp only [jobsGood, Bool.and_eq_true, decide_eq_true_eq] at hg
  have he : (o.length : Int) = (l.length : Int) := by simpa using h.2.2
  exact ⟨orderFrom_in _ _ _ h.1, h.2.1, by omega, by omega⟩
def fin (l : List S94) : List Int → List Int → Int → List Int
  | [], acc, _ => acc
  | x :: s, acc, d => fin l s (acc.set x.toNat (wrap64 (d + (rd_T94 l x).f0))) (wrap64 (d + (rd_T94 l x).f0))
theorem fin_len (l : List S94) (s : List Int) : ∀ acc d, (fin l s acc d).length = acc.length := by
  induction s with
  | nil => intro acc d; rfl
  | cons x s ih => intro acc d; rw [fin, ih]; simp
theorem pnFinish_l0 (l : List S94) (suf : List Int) : ∀ (pre acc : List Int) (d : Int), (pre ++ suf).length ≤ 1048576 → acc.length = l.length → (∀ x ∈ suf, 0 ≤ x ∧ x < (l.length : Int)) →
    Ev (fun k => spec_pnFinish.l0 k l acc d (pre ++ suf) ((pre ++ suf).length : Int) (pre.length : Int)) (fin l suf acc d) := by
  induction suf with
  | nil =>
    intro pre acc d _ _ _
    refine ev_step (f := fun _ => some _) (Ev.now _) (fun k => ?_)
    rw [spec_pnFinish.l0, if_neg (by simp)]; rfl
  | cons x suf ih =>
    intro pre acc d hl ha hx
    have hlp : pre.length ≤ 1048576 := by simp at hl; omega
    have h := ih (pre ++ [x]) (acc.set x.toNat (wrap64 (d + (rd_T94 l x).f0))) (wrap64 (d + (rd_T94 l x).f0)) (by simp at hl ⊢; omega) (by simpa using ha) (fun y hy => hx y (List.mem_cons_of_mem _ hy))
    rw [snoc_app, snoc_leni] at h
    have hl' : (pre.length : Int) < ((pre ++ x :: suf).length : Int) := by simp; omega
    have hw : wrap64 ((pre.length : Int) + 1) = (pre.length : Int) + 1 := wrapS (by omega) (by omega)
    have hxx := hx x List.mem_cons_self
    refine ev_step (ev_eq h rfl) (fun k => ?_)
    rw [spec_pnFinish.l0, if_pos hl', if_pos (by omega), if_pos hl', rd_mid, if_pos hxx.1, if_pos hxx.2, if_pos (by omega), hw]
theorem finishDays_l0 (l : List S94) (suf : List Int) : ∀ (pre acc : List Int) (d : Int), (pre ++ suf).length ≤ 1048576 → acc.length = l.length → (∀ x ∈ suf, 0 ≤ x ∧ x < (l.length : Int)) →
    Ev (fun k => impl_finishDays.l0 k l acc d (pre ++ suf) ((pre ++ suf).length : Int) (pre.length : Int)) (fin l suf acc d) := by
  induction suf with
  | nil =>
    intro pre acc d _ _ _
    refine ev_step (f := fun _ => some _) (Ev.now _) (fun k => ?_)
    rw [impl_finishDays.l0, if_neg (by simp)]; rfl
  | cons x suf ih =>
    intro pre acc d hl ha hx
    have hlp : pre.length ≤ 1048576 := by simp at hl; omega
    have h := ih (pre ++ [x]) (acc.set x.toNat (wrap64 (d + (rd_T94 l x).f0))) (wrap64 (d + (rd_T94 l x).f0)) (by simp at hl ⊢; omega) (by simpa using ha) (fun y hy => hx y (List.mem_cons_of_mem _ hy))
    rw [snoc_app, snoc_leni] at h
    have hl' : (pre.length : Int) < ((pre ++ x :: suf).length : Int) := by simp; omega
    have hw : wrap64 ((pre.length : Int) + 1) = (pre.length : Int) + 1 := wrapS (by omega) (by omega)
    have hxx := hx x List.mem_cons_self
    refine ev_step (ev_eq h rfl) (fun k => ?_)
    rw [impl_finishDays.l0, if_pos hl', if_pos (by omega), if_pos hl', rd_mid, if_pos hxx.1, if_pos hxx.2, if_pos (by omega), hw]
def finish (l : List S94) (o : List Int) : List Int := fin l o (List.replicate l.length 0) 0
theorem finish_len (l : List S94) (o : List Int) : (finish l o).length = l.length := by rw [finish, fin_len]; simp
theorem pnFinish_ok (l : List S94) (o : List Int) (hll : l.length ≤ 12) (ho : o.length = l.length) (hx : ∀ x ∈ o, 0 ≤ x ∧ x < (l.length : Int)) : Ev (fun k => spec_pnFinish.f k l o) (finish l o) := by
  have h := pnFinish_l0 l o [] (List.replicate l.length 0) 0 (by simp; omega) (by simp) hx
  refine Ev.congr (fun k => ?_) h
  rw [spec_pnFinish.f, if_pos (by omega), if_pos (by omega)]; simp
theorem finishDays_ok (l : List S94) (o : List Int) (hll : l.length ≤ 12) (ho : o.length = l.length) (hx : ∀ x ∈ o, 0 ≤ x ∧ x < (l.length : Int)) : Ev (fun k => impl_finishDays.f k l o) (finish l o) := by
  have h := finishDays_l0 l o [] (List.replicate l.length 0) 0 (by simp; omega) (by simp) hx
  refine Ev.congr (fun k => ?_) h
  rw [impl_finishDays.f, if_pos (by omega), if_pos (by omega)]; simp

def worst (l : List S94) (days : List Int) : Nat → Int → Int → Int
  | 0, _, m => m
  | d + 1, i, m => worst l days d (i + 1) (mx m (wrap64 (rd days i - (rd_T94 l i).f1)))
theorem l1Most_ok (a b : Int) : spec_l1Most.f a b = some (mx a b) := by
  unfold spec_l1Most.f mx
  by_cases c : a > b
  · rw [if_pos c, if_neg (by omega)]
  · rw [if_neg c]
    by_cases d : a < b
    · rw [if_pos d]
    · rw [if_neg d]; congr 1; omega
theorem pnWorst_l0 (l : List S94) (days : List Int) (hd : days.length = l.length) (hll : l.length ≤ 12) (d : Nat) : ∀ (i : Nat) (m : Int), i + d = l.length →
    Ev (fun k => spec_pnWorst.l0 k l m days (days.length : Int) (i : Int)) (worst l days d i m) := by
  induction d with
  | zero =>
    intro i m hi
    refine ev_step (f := fun _ => some _) (Ev.now _) (fun k => ?_)
    rw [spec_pnWorst.l0, if_neg (by omega)]; rfl
  | succ d ih =>
    intro i m hi
    have h := ih (i + 1) (mx m (wrap64 (rd days i - (rd_T94 l i).f1))) (by omega)
    have hw : wrap64 ((i : Int) + 1) = ((i + 1 : Nat) : Int) := by rw [wrapS (by omega) (by omega)]; simp
    refine ev_step (ev_eq h (by rw [worst]; congr 1)) (fun k => ?_)
    rw [spec_pnWorst.l0, if_pos (by omega), if_pos (by omega), if_pos (by omega), if_pos (by omega), l1Most_ok, hw]
    rfl
theorem implWorst_l0 (l : List S94) (days : List Int) (hd : days.length = l.length) (hll : l.length ≤ 12) (d : Nat) : ∀ (i : Nat) (m : Int), i + d = l.length →
    Ev (fun k => impl_WorstLateness.l0 k days m l (l.length : Int) (i : Int)) (worst l days d i m, true) := by
  induction d with
  | zero =>
    intro i m hi
    refine ev_step (f := fun _ => some _) (Ev.now _) (fun k => ?_)
    rw [impl_WorstLateness.l0, if_neg (by omega)]; rfl
  | succ d ih =>
    intro i m hi
    have h := ih (i + 1) (mx m (wrap64 (rd days i - (rd_T94 l i).f1))) (by omega)
    have hw : wrap64 ((i : Int) + 1) = ((i + 1 : Nat) : Int) := by rw [wrapS (by omega) (by omega)]; simp
    refine ev_step (ev_eq h (by rw [worst]; congr 2)) (fun k => ?_)
    rw [impl_WorstLateness.l0, if_pos (by omega), if_pos (by omega), if_pos (by omega), if_pos (by omega), hw]
theorem job_bounds {l : List S94} (h : jobsGood l = true) (i : Int) : 0 ≤ (rd_T94 l i).f0 ∧ (rd_T94 l i).f0 ≤ 30 ∧ 0 ≤ (rd_T94 l i).f1 ∧ (rd_T94 l i).f1 ≤ 400 := by
  by_cases c : i.toNat < l.length
  · have hm : rd_T94 l i ∈ l := by
      have e : rd_T94 l i = l[i.toNat] := by simp [rd_T94, List.getD_eq_getElem?_getD, List.getElem?_eq_getElem c]
      rw [e]; exact List.getElem_mem c
    simp only [jobsGood, Bool.and_eq_true, List.all_eq_true] at h
    have := h.1 _ hm
    simp only [jobOk, decide_eq_true_eq] at this
    omega
  · have e : rd_T94 l i = z94 := by simp only [rd_T94, List.getD_eq_getElem?_getD]; rw [List.getElem?_eq_none (by omega)]; rfl
    rw [e]
    exact ⟨by decide, by decide, by decide, by decide⟩
theorem fin_bounds (l : List S94) (hg : jobsGood l = true) (s : List Int) : ∀ (acc : List Int) (d : Int), 0 ≤ d → d + 30 * s.length ≤ 1000 → (∀ y ∈ acc, 0 ≤ y ∧ y ≤ 1000) → ∀ y ∈ fin l s acc d, 0 ≤ y ∧ y ≤ 1000 := by
  induction s with
  | nil => intro acc d _ _ h; exact h
  | cons x s ih =>
    intro acc d h0 h1 h
    have hb := job_bounds hg x
    have h2 : d + 30 + 30 * (s.length : Int) ≤ 1000 := by simp at h1; omega
    have hw : wrap64 (d + (rd_T94 l x).f0) = d + (rd_T94 l x).f0 := wrapS (by omega) (by omega)
    rw [fin, hw]
    refine ih _ _ (by omega) (by omega) (fun y hy => ?_)
    rcases List.mem_or_eq_of_mem_set hy with hy | hy
    · exact h y hy
    · rw [hy]; omega
theorem finish_bounds {l : List S94} {o : List Int} (hg : jobsGood l = true) (ho : o.length ≤ 12) (i : Int) : 0 ≤ rd (finish l o) i ∧ rd (finish l o) i ≤ 1000 := by
  have hb := fin_bounds l hg o (List.replicate l.length 0) 0 (by omega) (by omega) (fun y hy => by rw [List.eq_of_mem_replicate hy]; omega)
  by_cases c : i.toNat < (finish l o).length
  · refine hb _ ?_
    have e : rd (finish l o) i = (finish l o)[i.toNat] := by simp [rd, List.getD_eq_getElem?_getD, List.getElem?_eq_getElem c]
    rw [e]; exact List.getElem_mem c
  · have e : rd (finish l o) i = 0 := by simp only [rd, List.getD_eq_getElem?_getD]; rw [List.getElem?_eq_none (by omega)]; rfl
    rw [e]; omega
theorem worst_start {l : List S94} {o : List Int} (hg : jobsGood l = true) (ho : o.length ≤ 12) (d : Nat) : worst l (finish l o) (d + 1) 0 (-1000) = worst l (finish l o) (d + 1) 0 (wrap64 (rd (finish l o) 0 - (rd_T94 l 0).f1)) := by
  have h1 := finish_bounds (l := l) (o := o) hg ho 0
  have h2 := job_bounds hg 0
  have hw : wrap64 (rd (finish l o) 0 - (rd_T94 l 0).f1) = rd (finish l o) 0 - (rd_T94 l 0).f1 := wrapS (by omega) (by omega)
  rw [worst, worst, hw]
  congr 1
  unfold mx
  rw [if_neg (show ¬ (rd (finish l o) 0 - (rd_T94 l 0).f1 < rd (finish l o) 0 - (rd_T94 l 0).f1) by omega)]
  by_cases c : (-1000 : Int) < rd (finish l o) 0 - (rd_T94 l 0).f1
  · rw [if_pos c]
  · rw [if_neg c]; omega
def worstR (l : List S94) (o : List Int) : Int × Bool := if isOrd l o = true ∧ l.length ≠ 0 then (worst l (finish l o) l.length 0 (-1000), true) else (0, false)
theorem specWorst_ok (l : List S94) (o : List Int) (hll : l.length ≤ 1048576) (ho : o.length ≤ 1048576) : Ev (fun k => spec_WorstLateness.f k l o) (worstR l o) := by
  refine Ev.bind (pnOrder_ok l o hll ho) ?_
  cases g : isOrd l o with
  | false => exact ev_of_eq (fun _ => by simp [worstR, g])
  | true =>
    obtain ⟨h1, h2, h3, h4⟩ := isOrd_of g
    simp only [if_true]
    by_cases z : l.length = 0
    · exact ev_of_eq (fun _ => by simp [worstR, z])
    · have z2 : ¬ ((l.length : Int) = 0) := by omega
      refine Ev.congr (f := fun k => (spec_pnWorst.f k l o).bind fun t => some (t, true)) (fun k => by rw [if_neg z2]) ?_
      refine Ev.bind (a := worst l (finish l o) l.length 0 (-1000)) (Ev.bind (pnFinish_ok l o h4 h3 h1) ?_) (ev_of_eq (fun _ => by simp [worstR, g, z]))
      exact pnWorst_l0 l (finish l o) (finish_len l o) h4 l.length 0 (-1000) (by omega)
theorem implWorst_ok (l : List S94) (o : List Int) (hll : l.length ≤ 1048576) (ho : o.length ≤ 1048576) : Ev (fun k => impl_WorstLateness.f k l o) (worstR l o) := by
  refine Ev.bind (isOrder_ok l o hll ho) ?_
  cases g : isOrd l o with
  | false =>
    simp only [Bool.false_eq_true, if_false]
    refine ev_step (f := fun _ => some _) (Ev.now _) (fun k => ?_)
    rw [impl_WorstLateness.j0, if_pos rfl]; simp [worstR, g]
  | true =>
    obtain ⟨h1, h2, h3, h4⟩ := isOrd_of g
    simp only [if_true]
    by_cases z : l.length = 0
    · refine ev_step (f := fun _ => some _) (Ev.now _) (fun k => ?_)
      rw [impl_WorstLateness.j0, if_pos (by simp [z])]; simp [worstR, z]
    · obtain ⟨n, hn⟩ : ∃ n, l.length = n + 1 := ⟨l.length - 1, by omega⟩
      have e : worstR l o = (worst l (finish l o) l.length 0 (wrap64 (rd (finish l o) 0 - (rd_T94 l 0).f1)), true) := by
        have hs := worst_start (l := l) (o := o) h2 (by omega) n
        rw [← hn] at hs
        rw [← hs]
        simp [worstR, g, z]
      rw [e]
      have hfl := finish_len l o
      obtain ⟨K1, e1⟩ := finishDays_ok l o h4 h3 h1
      obtain ⟨K2, e2⟩ := implWorst_l0 l (finish l o) hfl h4 l.length 0 (wrap64 (rd (finish l o) 0 - (rd_T94 l 0).f1)) (by omega)
      dsimp only at e1 e2
      refine ⟨K1 + K2 + 1, fun k hk => ?_⟩
      obtain ⟨m, rfl⟩ : ∃ m, k = m + 1 := ⟨k - 1, by omega⟩
      dsimp only
      rw [impl_WorstLateness.j0, if_neg (show ¬ (((l.length : Int) == 0) = true) by rw [beq_iff_eq]; omega), e1 m (by omega)]
      simp only [Option.bind_some]
      rw [if_pos (show (0 : Int) < ((finish l o).length : Int) by omega), if_pos (show (0 : Int) < (l.length : Int) by omega)]
      exact e2 m (by omega)
theorem FnExactWorstLateness (l : List S96) (o : List Int) (hb : l.length * 24 ≤ 140737488351232) (hw : ∀ y ∈ l, ((Lit.int .i64 y.f0).wf = true) ∧ ((Lit.int .i64 y.f1).wf = true) ∧ ((Lit.int .i64 y.f2).wf = true)) (hob : o.length * 8 ≤ 140737488351232) (how : ∀ y ∈ o, (Lit.int .i64 y).wf = true) : ∃ k, laws_FnExactWorstLateness.f k l o = some true := by
  by_cases b : (o.length : Int) > 1048576
  · exact ⟨0, by rw [laws_FnExactWorstLateness.f, if_pos b]⟩
  have e0 := szJobS_ok l (by omega)
  by_cases c : 1048576 - (l.length : Int) < 0
  · rw [if_pos c] at e0
    exact ⟨0, by simp (disch := omega) only [laws_FnExactWorstLateness.f, b, e0, Option.bind_some, if_true, if_false, show (-1 : Int) < 0 by omega]⟩
  rw [if_neg c] at e0
  have hl : l.length ≤ 1048576 := by omega
  have hl2 : (l.map toJ).length ≤ 1048576 := by simpa using hl
  have ho2 : o.length ≤ 1048576 := by omega
  obtain ⟨K1, e1⟩ := toJobS_copy l hl
  obtain ⟨K2, e2⟩ := specWorst_ok (l.map toJ) o hl2 ho2
  obtain ⟨K3, e3⟩ := implWorst_ok (l.map toJ) o hl2 ho2
  obtain ⟨K4, e4⟩ := eqJobS_same (l.map toJ) (by omega)
  obtain ⟨K5, e5⟩ := toIntS_copy o ho2
  obtain ⟨K6, e6⟩ := eqIntS_same o (by omega)
  dsimp only at e1 e2 e3 e4 e5 e6
  refine ⟨K1 + K2 + K3 + K4 + K5 + K6 + 6, ?_⟩
  simp (disch := omega) only [laws_FnExactWorstLateness.f, b, e0, e1, e2, e3, e4, e5, e6, c, if_false, if_true, Option.bind_some, bnot_ne, Bool.false_eq_true]
  simp (disch := omega) only [laws_FnExactWorstLateness.j0, b, e0, e1, e2, e3, e4, e5, e6, c, if_false, if_true, Option.bind_some, bnot_ne, Bool.false_eq_true]

end Go.Proofs.Ytldngpdppickdaa.LWorstLateness
