/- For every input the law FnExactAreaOf answers true, after some number of rounds; the conditions are the input's own bounds. -/
import Derived.Test.YteopihcigopbbaaQFnExactAreaOfx3
import Derived.Test.YteopihcigopbbaaBase
namespace Go.Proofs.Yteopihcigopbbaa.LAreaOf
open Go Go.RowKit Go.Proofs.Yteopihcigopbbaa.QFnExactAreaOf Go.Proofs.YteopihcigopbbaaW.PrintWords Go.Proofs.YteopihcigopbbaaW.PrintLast Go.Proofs.YteopihcigopbbaaW.PrintMore Go.Proofs.Yteopihcigopbbaa.Base
set_option linter.unusedVariables false
set_option linter.unusedSimpArgs false

/-! slices of ints: copied, held against each other, marked -/
theorem eqIntS_l0 (suf : List Int) : ∀ pre : List Int, (pre ++ suf).length ≤ 9223372036854775806 → Ev (fun k => laws_eqIntS.l0 k (pre ++ suf) (pre ++ suf) (pre.length : Int)) true := by
  induction suf with
  | nil =>
    intro pre _
    refine ev_step ev_const (fun k => ?_)
    rw [laws_eqIntS.l0, if_neg (by simp)]
  | cons x suf ih =>
    intro pre hl
    have h := ih (pre ++ [x]) (by simp at hl ⊢; omega)
    rw [snoc_app, snoc_leni] at h
    have hl' : (pre.length : Int) < ((pre ++ x :: suf).length : Int) := by simp; omega
    refine ev_step h (fun k => ?_)
    rw [laws_eqIntS.l0, if_pos hl', if_pos (by omega), if_pos hl', if_pos rfl, wrapS (by omega) (by simp at hl; omega)]

theorem eqIntS_same (l : List Int) (h : l.length ≤ 9223372036854775806) : Ev (fun k => laws_eqIntS.f k l l) true := by
  have := eqIntS_l0 l [] (by simpa using h)
  refine Ev.congr (fun k => ?_) this
  simp [laws_eqIntS.f]

theorem toIntS_l0 (suf : List Int) : ∀ pre : List Int, (pre ++ suf).length ≤ 9223372036854775806 → Ev (fun k => laws_toIntS.l0 k (pre ++ suf) (pre ++ List.replicate suf.length 0) (pre.length : Int)) (pre ++ suf) := by
  induction suf with
  | nil =>
    intro pre _
    refine ev_step ev_const (fun k => ?_)
    rw [laws_toIntS.l0, if_neg (by simp)]
    simp
  | cons x suf ih =>
    intro pre hl
    have h := ih (pre ++ [x]) (by simp at hl ⊢; omega)
    rw [snoc_app, snoc_app, snoc_leni] at h
    have hl' : (pre.length : Int) < ((pre ++ x :: suf).length : Int) := by simp; omega
    refine ev_step h (fun k => ?_)
    rw [laws_toIntS.l0, if_pos hl', if_pos (by omega), if_pos (by simp; omega), rd_mid, wrapS (by omega) (by simp at hl; omega), List.length_cons, List.replicate_succ, set_mid _ _ _ _ _ (by simp)]

theorem toIntS_copy (l : List Int) (h : l.length ≤ 1048576) : Ev (fun k => laws_toIntS.f k l) l := by
  have := toIntS_l0 l [] (by simp; omega)
  refine Ev.congr (fun k => ?_) this
  rw [laws_toIntS.f, if_pos (by omega), if_pos (by omega)]
  simp

/-- a, a + 1, .. -/
def countUp : Int → Nat → List Int
  | _, 0 => []
  | a, n + 1 => a :: countUp (a + 1) n
theorem countUp_length (n : Nat) : ∀ a, (countUp a n).length = n := by
  induction n with
  | zero => intro a; rfl
  | succ n ih => intro a; simp [countUp, ih]

theorem markIntS_l0 (suf : List Int) : ∀ (pre : List Int) (a : Int), (pre ++ suf).length ≤ 1048576000 → 0 ≤ a → a + suf.length ≤ 4000000000000 → Ev (fun k => laws_markIntS.l0 k (pre ++ suf) a (pre.length : Int)) (a + suf.length, pre ++ countUp a suf.length) := by
  induction suf with
  | nil =>
    intro pre a _ _ _
    refine ev_step ev_const (fun k => ?_)
    rw [laws_markIntS.l0, if_neg (by simp)]
    simp [countUp]
  | cons x suf ih =>
    intro pre a hl h0 h1
    simp only [List.length_cons] at h1
    have h := ih (pre ++ [a]) (a + 1) (by simp at hl ⊢; omega) (by omega) (by omega)
    rw [snoc_app, snoc_app, snoc_leni] at h
    have hl' : (pre.length : Int) < ((pre ++ x :: suf).length : Int) := by simp; omega
    refine ev_step (ev_eq h ?_) (fun k => ?_)
    · simp only [List.length_cons, countUp, Prod.mk.injEq, and_true]; omega
    · rw [laws_markIntS.l0, if_pos hl', if_pos (by omega), wrapS (x := (pre.length : Int) + 1) (by omega) (by simp at hl; omega), wrapS (x := a + 1) (by omega) (by omega), set_mid _ _ _ _ _ (by simp)]

theorem markIntS_marks (l : List Int) (a : Int) (hl : l.length ≤ 1048576000) (h0 : 0 ≤ a) (h1 : a ≤ 1000000000000) : Ev (fun k => laws_markIntS.f k l a) (a + l.length, countUp a l.length) := by
  have := markIntS_l0 l [] a (by simpa using hl) h0 (by omega)
  refine Ev.congr (f := fun k => laws_markIntS.l0 k l a 0) (fun k => rfl) (by simpa using this)

theorem heldIntS_l0 (n : Nat) : ∀ (pre : List Int) (a : Int), pre.length + n ≤ 1048576000 → 0 ≤ a → a + n ≤ 4000000000000 → Ev (fun k => laws_heldIntS.l0 k (pre ++ countUp a n) a (pre.length : Int)) (a + n) := by
  induction n with
  | zero =>
    intro pre a _ _ _
    refine ev_step ev_const (fun k => ?_)
    rw [laws_heldIntS.l0, if_neg (by simp [countUp])]
    simp
  | succ n ih =>
    intro pre a hl h0 h1
    have h := ih (pre ++ [a]) (a + 1) (by simp; omega) (by omega) (by omega)
    rw [snoc_app, snoc_leni] at h
    refine ev_step (ev_eq h (by omega)) (fun k => ?_)
    rw [laws_heldIntS.l0, countUp, if_pos (by simp; omega), if_pos (by omega), rd_mid, if_pos rfl, wrapS (x := (pre.length : Int) + 1) (by omega) (by omega), wrapS (x := a + 1) (by omega) (by omega)]

theorem heldIntS_marked (n : Nat) (a : Int) (hl : n ≤ 1048576000) (h0 : 0 ≤ a) (h1 : a ≤ 1000000000000) : Ev (fun k => laws_heldIntS.f k (countUp a n) a) (a + n) := by
  have := heldIntS_l0 n [] a (by simpa using hl) h0 (by omega)
  refine Ev.congr (f := fun k => laws_heldIntS.l0 k (countUp a n) a 0) (fun k => rfl) (by simpa using this)

/-! all numbers of a list lie in a range -/
theorem l1All_l0 (lo hi : Int) (suf : List Int) : ∀ pre : List Int, (pre ++ suf).length ≤ 9223372036854775806 →
    Ev (fun k => spec_l1All.l0 k lo hi (pre ++ suf) ((pre ++ suf).length : Int) (pre.length : Int)) (suf.all fun x => decide (lo ≤ x ∧ x ≤ hi)) := by
  induction suf with
  | nil =>
    intro pre _
    refine ev_step (Ev.now _) (fun k => ?_)
    rw [spec_l1All.l0, if_neg (by simp)]
    rfl
  | cons x suf ih =>
    intro pre hl
    have h := ih (pre ++ [x]) (by simp at hl ⊢; omega)
    rw [snoc_app, snoc_leni] at h
    have hl' : (pre.length : Int) < ((pre ++ x :: suf).length : Int) := by simp; omega
    have hw : wrap64 ((pre.length : Int) + 1) = (pre.length : Int) + 1 := wrapS (by omega) (by simp at hl; omega)
    by_cases h1 : lo ≤ x ∧ x ≤ hi
    · refine ev_step (ev_eq h (by simp [h1])) (fun k => ?_)
      rw [spec_l1All.l0, if_pos hl', if_pos (by omega), if_pos hl', rd_mid, hw]
      simp [spec_l1In.f, h1]
    · refine ev_step (f := fun _ => some _) (Ev.now _) (fun k => ?_)
      rw [spec_l1All.l0, if_pos hl', if_pos (by omega), if_pos hl', rd_mid, hw]
      by_cases h2 : lo ≤ x
      · have h3 : ¬ x ≤ hi := fun h3 => h1 ⟨h2, h3⟩
        simp [spec_l1In.f, h2, h3]
      · simp [spec_l1In.f, h2]
theorem l1All_ok (l : List Int) (lo hi : Int) (h : l.length ≤ 9223372036854775806) : Ev (fun k => spec_l1All.f k l lo hi) (l.all fun x => decide (lo ≤ x ∧ x ≤ hi)) :=
  Ev.congr (fun _ => rfl) (l1All_l0 lo hi l [] (by simpa using h))

/-! a state -/
def stateOk (l : List Int) : Bool := (l.all fun x => decide (0 ≤ x ∧ x ≤ 999)) && decide (l.length ≤ 12)
theorem jrState_ok (l : List Int) (h : l.length ≤ 9223372036854775806) : Ev (fun k => spec_jrState.f k l) (stateOk l) := by
  by_cases h2 : l.length ≤ 12
  · refine Ev.congr (fun k => ?_) (ev_eq (l1All_ok l 0 999 h) ?_)
    · rw [spec_jrState.f, if_pos (by omega)]; simp
    · simp [stateOk, h2]
  · refine Ev.congr (f := fun _ => some (stateOk l)) (fun k => ?_) (Ev.now _)
    rw [spec_jrState.f, if_neg (by omega)]
    simp [stateOk, h2]
theorem isState_l0 (l : List Int) (suf : List Int) : ∀ pre : List Int, (pre ++ suf).length ≤ 9223372036854775806 →
    Ev (fun k => impl_IsState.l0 k l (pre ++ suf) ((pre ++ suf).length : Int) (pre.length : Int)) ((suf.all fun x => decide (0 ≤ x ∧ x ≤ 999)) && decide (l.length ≤ 12)) := by
  induction suf with
  | nil =>
    intro pre _
    refine ev_step (f := fun _ => some _) (Ev.now _) (fun k => ?_)
    rw [impl_IsState.l0, if_neg (by simp)]
    have e : decide ((l.length : Int) ≤ 12) = decide (l.length ≤ 12) := by
      by_cases h : l.length ≤ 12
      · simp [h]; omega
      · simp [h]; omega
    rw [e]; simp
  | cons x suf ih =>
    intro pre hl
    have h := ih (pre ++ [x]) (by simp at hl ⊢; omega)
    rw [snoc_app, snoc_leni] at h
    have hl' : (pre.length : Int) < ((pre ++ x :: suf).length : Int) := by simp; omega
    have hw : wrap64 ((pre.length : Int) + 1) = (pre.length : Int) + 1 := wrapS (by omega) (by simp at hl; omega)
    by_cases h1 : 0 ≤ x ∧ x ≤ 999
    · refine ev_step (ev_eq h (by simp [h1])) (fun k => ?_)
      rw [impl_IsState.l0, if_pos hl', if_pos (by omega), if_pos hl', rd_mid, hw, if_neg (by omega), if_neg (by omega)]
    · refine ev_step (f := fun _ => some _) (Ev.now _) (fun k => ?_)
      rw [impl_IsState.l0, if_pos hl', if_pos (by omega), if_pos hl', rd_mid, hw]
      by_cases h2 : x < 0
      · rw [if_pos h2]; simp [show ¬ 0 ≤ x by omega]
      · rw [if_neg h2, if_pos (by omega)]; simp [show ¬ x ≤ 999 by omega]
theorem isState_ok (l : List Int) (h : l.length ≤ 9223372036854775806) : Ev (fun k => impl_IsState.f k l) (stateOk l) :=
  Ev.congr (fun _ => rfl) (isState_l0 l l [] (by simpa using h))

/-! the area of a state, and what an area holds -/
theorem sum_same (l : List Int) : ∀ i s, spec_jrCheck.sum i l s = impl_areaOf.sum i l s := by
  induction l with
  | nil => intro i s; rfl
  | cons x l ih => intro i s; simp only [spec_jrCheck.sum, impl_areaOf.sum, ih]
def mk (g : Int) (l : List Int) : List Int := impl_areaOf.body g l ++ [Int.tmod (impl_areaOf.sum 0 (impl_areaOf.body g l) 0) 9973]
theorem body_len (g : Int) (l : List Int) (h : l.length ≤ 12) : (impl_areaOf.body g l).length = 14 := by
  simp [impl_areaOf.body]; omega
theorem mk_len (g : Int) (l : List Int) (h : l.length ≤ 12) : (mk g l).length = 15 := by
  simp [mk, body_len g l h]
theorem areaOf_ok (g : Int) (l : List Int) (h : l.length ≤ 12) : impl_areaOf.f g l = some (mk g l) := by
  rw [impl_areaOf.f, if_pos h]; rfl

theorem jrMake_l0 (g : Int) (suf : List Int) : ∀ pre : List Int, (pre ++ suf).length ≤ 12 →
    Ev (fun k => spec_jrMake.l0 k (g :: ((pre ++ suf).length : Int) :: (pre ++ List.replicate (13 - pre.length) 0)) (pre ++ suf) ((pre ++ suf).length : Int) (pre.length : Int)) (mk g (pre ++ suf)) := by
  induction suf with
  | nil =>
    intro pre hl
    refine ev_step (f := fun _ => some _) (Ev.now _) (fun k => ?_)
    simp only [List.append_nil] at hl ⊢
    have e : g :: (pre.length : Int) :: (pre ++ List.replicate (13 - pre.length) 0) = impl_areaOf.body g pre ++ [0] := by
      rw [show 13 - pre.length = (12 - pre.length) + 1 by omega, List.replicate_succ']
      simp [impl_areaOf.body]
    have hb := body_len g pre hl
    rw [spec_jrMake.l0, if_neg (by omega), e, spec_jrCheck.f, if_pos (by simp [hb])]
    simp only [Option.bind_some]
    rw [if_pos (by simp [hb]), sum_same]
    have e1 : (impl_areaOf.body g pre ++ [0]).take 14 = impl_areaOf.body g pre := by
      rw [List.take_append_of_le_length (by omega), List.take_of_length_le (by omega)]
    rw [e1]
    congr 1
    rw [mk]
    exact set_mid _ [] _ _ _ hb.symm
  | cons x suf ih =>
    intro pre hl
    have hl2 : pre.length + suf.length + 1 ≤ 12 := by simp at hl; omega
    have h := ih (pre ++ [x]) (by simp; omega)
    rw [snoc_app, snoc_app, snoc_leni] at h
    have hl' : (pre.length : Int) < ((pre ++ x :: suf).length : Int) := by simp; omega
    have hw : wrap64 ((pre.length : Int) + 1) = (pre.length : Int) + 1 := wrapS (by omega) (by omega)
    have hw2 : wrap64 (2 + (pre.length : Int)) = 2 + (pre.length : Int) := wrapS (by omega) (by omega)
    refine ev_step h (fun k => ?_)
    rw [spec_jrMake.l0, if_pos hl', if_pos (by omega), if_pos hl', hw2, hw, if_pos (by omega), if_pos (by simp; omega), rd_mid]
    have e : (2 + (pre.length : Int)).toNat = pre.length + 1 + 1 := by omega
    rw [e, List.set_cons_succ, List.set_cons_succ, show 13 - pre.length = (13 - (pre ++ [x]).length) + 1 by simp; omega, List.replicate_succ, set_mid _ _ _ _ _ rfl]

theorem jrMake_ok (g : Int) (l : List Int) (h : l.length ≤ 12) : Ev (fun k => spec_jrMake.f k g l) (mk g l) := by
  have := jrMake_l0 g l [] (by simpa using h)
  refine Ev.congr (fun k => ?_) this
  rw [spec_jrMake.f, if_pos (by omega)]
  rfl

def areaR (g : Int) (l : List Int) : List Int × Bool := if 1 ≤ g ∧ g ≤ 999 ∧ stateOk l = true then (mk g l, true) else ([], false)
theorem state_len {l : List Int} (h : stateOk l = true) : l.length ≤ 12 := by
  simp only [stateOk, Bool.and_eq_true, decide_eq_true_eq] at h; exact h.2
theorem areaR_len (g : Int) (l : List Int) : (areaR g l).1.length ≤ 15 := by
  unfold areaR; split
  · rename_i h; exact Nat.le_of_eq (mk_len g l (state_len h.2.2))
  · simp
theorem specAreaOf_ok (g : Int) (l : List Int) (h : l.length ≤ 1048576) : Ev (fun k => spec_AreaOf.f k g l) (areaR g l) := by
  by_cases hg : 1 ≤ g ∧ g ≤ 999
  · have eg : spec_jrGeneration.f g = some true := by simp [spec_jrGeneration.f, spec_l1In.f, hg.1, hg.2]
    simp only [spec_AreaOf.f, eg, Option.bind_some, if_true]
    refine Ev.bind (jrState_ok l (by omega)) ?_
    cases s : stateOk l with
    | false => exact ev_of_eq (fun _ => by simp [areaR, s])
    | true =>
      simp only [if_true]
      refine Ev.bind (jrMake_ok g l (state_len s)) (ev_of_eq (fun _ => by simp [areaR, s, hg]))
  · have eg : spec_jrGeneration.f g = some false := by
      by_cases g1 : 1 ≤ g
      · have g2 : ¬ g ≤ 999 := fun g2 => hg ⟨g1, g2⟩
        simp [spec_jrGeneration.f, spec_l1In.f, g1, g2]
      · simp [spec_jrGeneration.f, spec_l1In.f, g1]
    refine ev_of_eq (fun k => ?_)
    rw [spec_AreaOf.f, eg, areaR, if_neg (fun x => hg ⟨x.1, x.2.1⟩)]
    simp
theorem implAreaOf_ok (g : Int) (l : List Int) (h : l.length ≤ 1048576) : Ev (fun k => impl_AreaOf.f k g l) (areaR g l) := by
  by_cases g1 : g < 1
  · exact ev_of_eq (fun k => by rw [impl_AreaOf.f, if_pos g1, areaR, if_neg (fun x => by omega)])
  by_cases g2 : g > 999
  · exact ev_of_eq (fun k => by rw [impl_AreaOf.f, if_neg g1, if_pos g2, areaR, if_neg (fun x => by omega)])
  refine Ev.congr (fun k => by rw [impl_AreaOf.f, if_neg g1, if_neg g2]) (Ev.bind (isState_ok l (by omega)) ?_)
  cases s : stateOk l with
  | false => exact ev_of_eq (fun _ => by simp [areaR, s])
  | true =>
    simp only [if_true, areaOf_ok g l (state_len s), Option.bind_some]
    exact ev_of_eq (fun _ => by simp [areaR, s, show 1 ≤ g by omega, show g ≤ 999 by omega])
theorem FnExactAreaOf (g : Int) (l : List Int) (_hg : (Lit.int .i64 g).wf = true) (_hl : l.length * 8 ≤ 140737488351232) (_gl : ∀ y ∈ l, (Lit.int .i64 y).wf = true) : ∃ k, laws_FnExactAreaOf.f k g l = some true := by
  by_cases cl : (l.length : Int) > 1048576
  · exact ⟨0, by rw [laws_FnExactAreaOf.f, if_pos cl]⟩
  obtain ⟨K1, e1⟩ := toIntS_copy l (by omega)
  obtain ⟨K2, e2⟩ := eqIntS_same l (by omega)
  obtain ⟨K3, e3⟩ := specAreaOf_ok g l (by omega)
  obtain ⟨K4, e4⟩ := implAreaOf_ok g l (by omega)
  obtain ⟨K5, e5⟩ := markIntS_marks l (1) (by omega) (by omega) (by omega)
  have n0 : ¬ (1 + (l.length : Int)) < 0 := by omega
  have hb0 : (areaR g l).1.length ≤ 1048576 := by have := areaR_len g l; omega
  obtain ⟨K6, e6⟩ := eqIntS_same (areaR g l).1 (by omega)
  obtain ⟨K7, e7⟩ := markIntS_marks (areaR g l).1 (1) (by omega) (by omega) (by omega)
  obtain ⟨K8, e8⟩ := heldIntS_marked (areaR g l).1.length (1) (by omega) (by omega) (by omega)
  have m0 : ¬ (1 + ((areaR g l).1.length : Int)) < 0 := by omega
  dsimp only at e1 e2 e3 e4 e5 e6 e7 e8
  refine ⟨K1 + K2 + K3 + K4 + K5 + K6 + K7 + K8 + 6, ?_⟩
  simp (disch := omega) only [laws_FnExactAreaOf.f, e1, e2, e3, e4, e5, e6, e7, e8, cl, n0, m0, if_false, if_true, Option.bind_some, bnot_ne, Bool.false_eq_true]
  simp (disch := omega) only [laws_FnExactAreaOf.j0, e1, e2, e3, e4, e5, e6, e7, e8, cl, n0, m0, if_false, if_true, Option.bind_some, bnot_ne, Bool.false_eq_true]
  simp (disch := omega) only [laws_FnExactAreaOf.j1, e1, e2, e3, e4, e5, e6, e7, e8, cl, n0, m0, if_false, if_true, Option.bind_some, bnot_ne, Bool.false_eq_true]
  simp (disch := omega) only [laws_FnExactAreaOf.j2, e1, e2, e3, e4, e5, e6, e7, e8, cl, n0, m0, if_false, if_true, Option.bind_some, bnot_ne, Bool.false_eq_true]

end Go.Proofs.Yteopihcigopbbaa.LAreaOf
