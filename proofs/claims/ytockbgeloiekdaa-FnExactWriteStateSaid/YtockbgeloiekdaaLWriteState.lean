/- For every input the law FnExactWriteState answers true, after some number of rounds; the conditions are the input's own bounds. -/
import Derived.Test.YtockbgeloiekdaaQFnExactWriteStatex6
import Derived.Test.YtockbgeloiekdaaBase
namespace Go.Proofs.Ytockbgeloiekdaa.LWriteState
open Go Go.RowKit Go.Proofs.Ytockbgeloiekdaa.QFnExactWriteState Go.Proofs.YtockbgeloiekdaaW.PrintWords Go.Proofs.YtockbgeloiekdaaW.PrintLast Go.Proofs.YtockbgeloiekdaaW.PrintMore Go.Proofs.Ytockbgeloiekdaa.Base
set_option linter.unusedVariables false
set_option linter.unusedSimpArgs false

/-! slices of ints: copied, held against each other, marked -/
theorem eqIntS_l0 (suf : List Int) : ∀ pre : List Int, (pre ++ suf).length ≤ 9223372036854775806 → Ev (fun k => laws_eqIntS.l0 k (pre ++ suf) (pre ++ suf) (pre.length : Int)) true := by
  induction suf with
  | nil =>
    intro pre _
    refine ev_step ev_const (fun k => ?_)
    rw [laws_eqIntS.l0, if_neg (by simp)]
  | cons x suf ih =>
    intro pre hl
    have h := ih (pre ++ [x]) (by simp at hl ⊢; omega)
    rw [snoc_app, snoc_leni] at h
    have hl' : (pre.length : Int) < ((pre ++ x :: suf).length : Int) := by simp; omega
    refine ev_step h (fun k => ?_)
    rw [laws_eqIntS.l0, if_pos hl', if_pos (by omega), if_pos hl', if_pos rfl, wrapS (by omega) (by simp at hl; omega)]

theorem eqIntS_same (l : List Int) (h : l.length ≤ 9223372036854775806) : Ev (fun k => laws_eqIntS.f k l l) true := by
  have := eqIntS_l0 l [] (by simpa using h)
  refine Ev.congr (fun k => ?_) this
  simp [laws_eqIntS.f]

theorem toIntS_l0 (suf : List Int) : ∀ pre : List Int, (pre ++ suf).length ≤ 9223372036854775806 → Ev (fun k => laws_toIntS.l0 k (pre ++ suf) (pre ++ List.replicate suf.length 0) (pre.length : Int)) (pre ++ suf) := by
  induction suf with
  | nil =>
    intro pre _
    refine ev_step ev_const (fun k => ?_)
    rw [laws_toIntS.l0, if_neg (by simp)]
    simp
  | cons x suf ih =>
    intro pre hl
    have h := ih (pre ++ [x]) (by simp at hl ⊢; omega)
    rw [snoc_app, snoc_app, snoc_leni] at h
    have hl' : (pre.length : Int) < ((pre ++ x :: suf).length : Int) := by simp; omega
    refine ev_step h (fun k => ?_)
    rw [laws_toIntS.l0, if_pos hl', if_pos (by omega), if_pos (by simp; omega), rd_mid, wrapS (by omega) (by simp at hl; omega), List.length_cons, List.replicate_succ, set_mid _ _ _ _ _ (by simp)]

theorem toIntS_copy (l : List Int) (h : l.length ≤ 1048576) : Ev (fun k => laws_toIntS.f k l) l := by
  have := toIntS_l0 l [] (by simp; omega)
  refine Ev.congr (fun k => ?_) this
  rw [laws_toIntS.f, if_pos (by omega), if_pos (by omega)]
  simp

/-- a, a + 1, .. -/
def countUp : Int → Nat → List Int
  | _, 0 => []
  | a, n + 1 => a :: countUp (a + 1) n
theorem countUp_length (n : Nat) : ∀ a, (countUp a n).length = n := by
  induction n with
  | zero => intro a; rfl
  | succ n ih => intro a; simp [countUp, ih]

theorem markIntS_l0 (suf : List Int) : ∀ (pre : List Int) (a : Int), (pre ++ suf).length ≤ 1048576000 → 0 ≤ a → a + suf.length ≤ 4000000000000 → Ev (fun k => laws_markIntS.l0 k (pre ++ suf) a (pre.length : Int)) (a + suf.length, pre ++ countUp a suf.length) := by
  induction suf with
  | nil =>
    intro pre a _ _ _
    refine ev_step ev_const (fun k => ?_)
    rw [laws_markIntS.l0, if_neg (by simp)]
    simp [countUp]
  | cons x suf ih =>
    intro pre a hl h0 h1
    simp only [List.length_cons] at h1
    have h := ih (pre ++ [a]) (a + 1) (by simp at hl ⊢; omega) (by omega) (by omega)
    rw [snoc_app, snoc_app, snoc_leni] at h
    have hl' : (pre.length : Int) < ((pre ++ x :: suf).length : Int) := by simp; omega
    refine ev_step (ev_eq h ?_) (fun k => ?_)
    · simp only [List.length_cons, countUp, Prod.mk.injEq, and_true]; omega
    · rw [laws_markIntS.l0, if_pos hl', if_pos (by omega), wrapS (x := (pre.length : Int) + 1) (by omega) (by simp at hl; omega), wrapS (x := a + 1) (by omega) (by omega), set_mid _ _ _ _ _ (by simp)]

theorem markIntS_marks (l : List Int) (a : Int) (hl : l.length ≤ 1048576000) (h0 : 0 ≤ a) (h1 : a ≤ 1000000000000) : Ev (fun k => laws_markIntS.f k l a) (a + l.length, countUp a l.length) := by
  have := markIntS_l0 l [] a (by simpa using hl) h0 (by omega)
  refine Ev.congr (f := fun k => laws_markIntS.l0 k l a 0) (fun k => rfl) (by simpa using this)

theorem heldIntS_l0 (n : Nat) : ∀ (pre : List Int) (a : Int), pre.length + n ≤ 1048576000 → 0 ≤ a → a + n ≤ 4000000000000 → Ev (fun k => laws_heldIntS.l0 k (pre ++ countUp a n) a (pre.length : Int)) (a + n) := by
  induction n with
  | zero =>
    intro pre a _ _ _
    refine ev_step ev_const (fun k => ?_)
    rw [laws_heldIntS.l0, if_neg (by simp [countUp])]
    simp
  | succ n ih =>
    intro pre a hl h0 h1
    have h := ih (pre ++ [a]) (a + 1) (by simp; omega) (by omega) (by omega)
    rw [snoc_app, snoc_leni] at h
    refine ev_step (ev_eq h (by omega)) (fun k => ?_)
    rw [laws_heldIntS.l0, countUp, if_pos (by simp; omega), if_pos (by omega), rd_mid, if_pos rfl, wrapS (x := (pre.length : Int) + 1) (by omega) (by omega), wrapS (x := a + 1) (by omega) (by omega)]

theorem heldIntS_marked (n : Nat) (a : Int) (hl : n ≤ 1048576000) (h0 : 0 ≤ a) (h1 : a ≤ 1000000000000) : Ev (fun k => laws_heldIntS.f k (countUp a n) a) (a + n) := by
  have := heldIntS_l0 n [] a (by simpa using hl) h0 (by omega)
  refine Ev.congr (f := fun k => laws_heldIntS.l0 k (countUp a n) a 0) (fun k => rfl) (by simpa using this)

/-! all numbers of a list lie in a range -/
theorem l1All_l0 (lo hi : Int) (suf : List Int) : ∀ pre : List Int, (pre ++ suf).length ≤ 9223372036854775806 →
    Ev (fun k => spec_l1All.l0 k lo hi (pre ++ suf) ((pre ++ suf).length : Int) (pre.length : Int)) (suf.all fun x => decide (lo ≤ x ∧ x ≤ hi)) := by
  induction suf with
  | nil =>
    intro pre _
    refine ev_step (Ev.now _) (fun k => ?_)
    rw [spec_l1All.l0, if_neg (by simp)]
    rfl
  | cons x suf ih =>
    intro pre hl
    have h := ih (pre ++ [x]) (by simp at hl ⊢; omega)
    rw [snoc_app, snoc_leni] at h
    have hl' : (pre.length : Int) < ((pre ++ x :: suf).length : Int) := by simp; omega
    have hw : wrap64 ((pre.length : Int) + 1) = (pre.length : Int) + 1 := wrapS (by omega) (by simp at hl; omega)
    by_cases h1 : lo ≤ x ∧ x ≤ hi
    · refine ev_step (ev_eq h (by simp [h1])) (fun k => ?_)
      rw [spec_l1All.l0, if_pos hl', if_pos (by omega), if_pos hl', rd_mid, hw]
      simp [spec_l1In.f, h1]
    · refine ev_step (f := fun _ => some _) (Ev.now _) (fun k => ?_)
      rw [spec_l1All.l0, if_pos hl', if_pos (by omega), if_pos hl', rd_mid, hw]
      by_cases h2 : lo ≤ x
      · have h3 : ¬ x ≤ hi := fun h3 => h1 ⟨h2, h3⟩
        simp [spec_l1In.f, h2, h3]
      · simp [spec_l1In.f, h2]
theorem l1All_ok (l : List Int) (lo hi : Int) (h : l.length ≤ 9223372036854775806) : Ev (fun k => spec_l1All.f k l lo hi) (l.all fun x => decide (lo ≤ x ∧ x ≤ hi)) :=
  Ev.congr (fun _ => rfl) (l1All_l0 lo hi l [] (by simpa using h))

/-! a state -/
def stateOk (l : List Int) : Bool := (l.all fun x => decide (0 ≤ x ∧ x ≤ 999)) && decide (l.length ≤ 12)
theorem jrState_ok (l : List Int) (h : l.length ≤ 9223372036854775806) : Ev (fun k => spec_jrState.f k l) (stateOk l) := by
  by_cases h2 : l.length ≤ 12
  · refine Ev.congr (fun k => ?_) (ev_eq (l1All_ok l 0 999 h) ?_)
    · rw [spec_jrState.f, if_pos (by omega)]; simp
    · simp [stateOk, h2]
  · refine Ev.congr (f := fun _ => some (stateOk l)) (fun k => ?_) (Ev.now _)
    rw [spec_jrState.f, if_neg (by omega)]
    simp [stateOk, h2]
theorem isState_l0 (l : List Int) (suf : List Int) : ∀ pre : List Int, (pre ++ suf).length ≤ 9223372036854775806 →
    Ev (fun k => impl_IsState.l0 k l (pre ++ suf) ((pre ++ suf).length : Int) (pre.length : Int)) ((suf.all fun x => decide (0 ≤ x ∧ x ≤ 999)) && decide (l.length ≤ 12)) := by
  induction suf with
  | nil =>
    intro pre _
    refine ev_step (f := fun _ => some _) (Ev.now _) (fun k => ?_)
    rw [impl_IsState.l0, if_neg (by simp)]
    have e : decide ((l.length : Int) ≤ 12) = decide (l.length ≤ 12) := by
      by_cases h : l.length ≤ 12
      · simp [h]; omega
      · simp [h]; omega
    rw [e]; simp
  | cons x suf ih =>
    intro pre hl
    have h := ih (pre ++ [x]) (by simp at hl ⊢; omega)
    rw [snoc_app, snoc_leni] at h
    have hl' : (pre.length : Int) < ((pre ++ x :: suf).length : Int) := by simp; omega
    have hw : wrap64 ((pre.length : Int) + 1) = (pre.length : Int) + 1 := wrapS (by omega) (by simp at hl; omega)
    by_cases h1 : 0 ≤ x ∧ x ≤ 999
    · refine ev_step (ev_eq h (by simp [h1])) (fun k => ?_)
      rw [impl_IsState.l0, if_pos hl', if_pos (by omega), if_pos hl', rd_mid, hw, if_neg (by omega), if_neg (by omega)]
    · refine ev_step (f := fun _ => some _) (Ev.now _) (fun k => ?_)
      rw [impl_IsState.l0, if_pos hl', if_pos (by omega), if_pos hl', rd_mid, hw]
      by_cases h2 : x < 0
      · rw [if_pos h2]; simp [show ¬ 0 ≤ x by omega]
      · rw [if_neg h2, if_pos (by omega)]; simp [show ¬ x ≤ 999 by omega]
theorem isState_ok (l : List Int) (h : l.length ≤ 9223372036854775806) : Ev (fun k => impl_IsState.f k l) (stateOk l) :=
  Ev.congr (fun _ => rfl) (isState_l0 l l [] (by simpa using h))

/-! an area -/
def areaOk (l : List Int) : Bool := (l.all fun x => decide (0 ≤ x ∧ x ≤ 9999)) && decide (l.length = 15)
theorem jrArea_ok (l : List Int) (h : l.length ≤ 9223372036854775806) : Ev (fun k => spec_jrArea.f k l) (areaOk l) := by
  by_cases h2 : l.length = 15
  · refine Ev.congr (fun k => ?_) (ev_eq (l1All_ok l 0 9999 h) ?_)
    · rw [spec_jrArea.f, if_pos (by omega)]; simp
    · simp [areaOk, h2]
  · refine Ev.congr (f := fun _ => some (areaOk l)) (fun k => ?_) (Ev.now _)
    rw [spec_jrArea.f, if_neg (by omega)]
    simp [areaOk, h2]
theorem isArea_l0 (l : List Int) (suf : List Int) : ∀ pre : List Int, (pre ++ suf).length ≤ 9223372036854775806 →
    Ev (fun k => impl_isArea.l0 k l (pre ++ suf) ((pre ++ suf).length : Int) (pre.length : Int)) ((suf.all fun x => decide (0 ≤ x ∧ x ≤ 9999)) && decide (l.length = 15)) := by
  induction suf with
  | nil =>
    intro pre _
    refine ev_step (f := fun _ => some _) (Ev.now _) (fun k => ?_)
    rw [impl_isArea.l0, if_neg (by simp)]
    have e : ((l.length : Int) == 15) = decide (l.length = 15) := by
      by_cases h : l.length = 15
      · simp [h]
      · simp [h]; omega
    rw [e]; simp
  | cons x suf ih =>
    intro pre hl
    have h := ih (pre ++ [x]) (by simp at hl ⊢; omega)
    rw [snoc_app, snoc_leni] at h
    have hl' : (pre.length : Int) < ((pre ++ x :: suf).length : Int) := by simp; omega
    have hw : wrap64 ((pre.length : Int) + 1) = (pre.length : Int) + 1 := wrapS (by omega) (by simp at hl; omega)
    by_cases h1 : 0 ≤ x ∧ x ≤ 9999
    · refine ev_step (ev_eq h (by simp [h1])) (fun k => ?_)
      rw [impl_isArea.l0, if_pos hl', if_pos (by omega), if_pos hl', rd_mid, hw, if_neg (by omega), if_neg (by omega)]
    · refine ev_step (f := fun _ => some _) (Ev.now _) (fun k => ?_)
      rw [impl_isArea.l0, if_pos hl', if_pos (by omega), if_pos hl', rd_mid, hw]
      by_cases h2 : x < 0
      · rw [if_pos h2]; simp [show ¬ 0 ≤ x by omega]
      · rw [if_neg h2, if_pos (by omega)]; simp [show ¬ x ≤ 9999 by omega]
theorem isArea_ok (l : List Int) (h : l.length ≤ 9223372036854775806) : Ev (fun k => impl_isArea.f k l) (areaOk l) :=
  Ev.congr (fun _ => rfl) (isArea_l0 l l [] (by simpa using h))
theorem l1Own_ok (l : List Int) (h : l.length ≤ 1048576000) : spec_l1Own.f l = some l := by
  unfold spec_l1Own.f
  simp only [Option.bind_some, List.length_nil, List.nil_append]
  rw [if_pos (by omega)]
theorem area_len {l : List Int} (h : areaOk l = true) : l.length = 15 := by
  simp only [areaOk, Bool.and_eq_true, decide_eq_true_eq] at h; exact h.2

/-! the area of a state, and what an area holds -/
theorem sum_same (l : List Int) : ∀ i s, spec_jrCheck.sum i l s = impl_areaOf.sum i l s := by
  induction l with
  | nil => intro i s; rfl
  | cons x l ih => intro i s; simp only [spec_jrCheck.sum, impl_areaOf.sum, ih]
def mk (g : Int) (l : List Int) : List Int := impl_areaOf.body g l ++ [Int.tmod (impl_areaOf.sum 0 (impl_areaOf.body g l) 0) 9973]
theorem body_len (g : Int) (l : List Int) (h : l.length ≤ 12) : (impl_areaOf.body g l).length = 14 := by
  simp [impl_areaOf.body]; omega
theorem mk_len (g : Int) (l : List Int) (h : l.length ≤ 12) : (mk g l).length = 15 := by
  simp [mk, body_len g l h]
theorem areaOf_ok (g : Int) (l : List Int) (h : l.length ≤ 12) : impl_areaOf.f g l = some (mk g l) := by
  rw [impl_areaOf.f, if_pos h]; rfl

theorem jrMake_l0 (g : Int) (suf : List Int) : ∀ pre : List Int, (pre ++ suf).length ≤ 12 →
    Ev (fun k => spec_jrMake.l0 k (g :: ((pre ++ suf).length : Int) :: (pre ++ List.replicate (13 - pre.length) 0)) (pre ++ suf) ((pre ++ suf).length : Int) (pre.length : Int)) (mk g (pre ++ suf)) := by
  induction suf with
  | nil =>
    intro pre hl
    refine ev_step (f := fun _ => some _) (Ev.now _) (fun k => ?_)
    simp only [List.append_nil] at hl ⊢
    have e : g :: (pre.length : Int) :: (pre ++ List.replicate (13 - pre.length) 0) = impl_areaOf.body g pre ++ [0] := by
      rw [show 13 - pre.length = (12 - pre.length) + 1 by omega, List.replicate_succ']
      simp [impl_areaOf.body]
    have hb := body_len g pre hl
    rw [spec_jrMake.l0, if_neg (by omega), e, spec_jrCheck.f, if_pos (by simp [hb])]
    simp only [Option.bind_some]
    rw [if_pos (by simp [hb]), sum_same]
    have e1 : (impl_areaOf.body g pre ++ [0]).take 14 = impl_areaOf.body g pre := by
      rw [List.take_append_of_le_length (by omega), List.take_of_length_le (by omega)]
    rw [e1]
    congr 1
    rw [mk]
    exact set_mid _ [] _ _ _ hb.symm
  | cons x suf ih =>
    intro pre hl
    have hl2 : pre.length + suf.length + 1 ≤ 12 := by simp at hl; omega
    have h := ih (pre ++ [x]) (by simp; omega)
    rw [snoc_app, snoc_app, snoc_leni] at h
    have hl' : (pre.length : Int) < ((pre ++ x :: suf).length : Int) := by simp; omega
    have hw : wrap64 ((pre.length : Int) + 1) = (pre.length : Int) + 1 := wrapS (by omega) (by omega)
    have hw2 : wrap64 (2 + (pre.length : Int)) = 2 + (pre.length : Int) := wrapS (by omega) (by omega)
    refine ev_step h (fun k => ?_)
    rw [spec_jrMake.l0, if_pos hl', if_pos (by omega), if_pos hl', hw2, hw, if_pos (by omega), if_pos (by simp; omega), rd_mid]
    have e : (2 + (pre.length : Int)).toNat = pre.length + 1 + 1 := by omega
    rw [e, List.set_cons_succ, List.set_cons_succ, show 13 - pre.length = (13 - (pre ++ [x]).length) + 1 by simp; omega, List.replicate_succ, set_mid _ _ _ _ _ rfl]

theorem jrMake_ok (g : Int) (l : List Int) (h : l.length ≤ 12) : Ev (fun k => spec_jrMake.f k g l) (mk g l) := by
  have := jrMake_l0 g l [] (by simpa using h)
  refine Ev.congr (fun k => ?_) this
  rw [spec_jrMake.f, if_pos (by omega)]
  rfl

theorem l1Same_l0 (sa : List Int) : ∀ (sb pre : List Int), sa.length = sb.length → (pre ++ sa).length ≤ 1048576000 →
    Ev (fun k => spec_l1Same.l0 k (pre ++ sa) (pre ++ sb) ((pre ++ sa).length : Int) (pre.length : Int)) (decide (sa = sb)) := by
  induction sa with
  | nil =>
    intro sb pre hs hl
    cases sb with
    | cons y sb => simp at hs
    | nil =>
      refine ev_step (f := fun _ => some _) (Ev.now _) (fun k => ?_)
      rw [spec_l1Same.l0, if_neg (by simp)]
      simp
  | cons x sa ih =>
    intro sb pre hs hl
    cases sb with
    | nil => simp at hs
    | cons y sb =>
      have hl' : (pre.length : Int) < ((pre ++ x :: sa).length : Int) := by simp; omega
      have hl2 : (pre.length : Int) < ((pre ++ y :: sb).length : Int) := by simp; omega
      have hw : wrap64 ((pre.length : Int) + 1) = (pre.length : Int) + 1 := wrapS (by omega) (by simp at hl; omega)
      by_cases h : x = y
      · subst h
        have h1 := ih sb (pre ++ [x]) (by simpa using hs) (by simp at hl ⊢; omega)
        rw [snoc_app, snoc_app, snoc_leni] at h1
        refine ev_step (ev_eq h1 (by simp)) (fun k => ?_)
        rw [spec_l1Same.l0, if_pos hl', if_pos (by omega), if_pos hl', if_pos hl2, rd_mid, rd_mid, if_pos rfl, hw]
      · refine ev_step (f := fun _ => some _) (Ev.now _) (fun k => ?_)
        rw [spec_l1Same.l0, if_pos hl', if_pos (by omega), if_pos hl', if_pos hl2, rd_mid, rd_mid, if_neg h]
        simp [h]
theorem l1Same_ok (a b : List Int) (h : a.length ≤ 1048576000) : Ev (fun k => spec_l1Same.f k a b) (decide (a = b)) := by
  by_cases hs : a.length = b.length
  · refine Ev.congr (fun k => ?_) (l1Same_l0 a b [] hs (by simpa using h))
    rw [spec_l1Same.f, if_pos (by omega)]
    rfl
  · refine Ev.congr (f := fun _ => some _) (fun k => ?_) (Ev.now _)
    rw [spec_l1Same.f, if_neg (by omega)]
    have : a ≠ b := fun e => hs (by rw [e])
    simp [this]
theorem equal_l0 (sa : List Int) : ∀ (sb pre : List Int), sa.length = sb.length → (pre ++ sa).length ≤ 1048576000 →
    Ev (fun k => slices_Equal_int_int.l0 k (pre ++ sa) (pre ++ sb) ((pre ++ sa).length : Int) (pre.length : Int)) (decide (sa = sb)) := by
  induction sa with
  | nil =>
    intro sb pre hs hl
    cases sb with
    | cons y sb => simp at hs
    | nil =>
      refine ev_step (f := fun _ => some _) (Ev.now _) (fun k => ?_)
      rw [slices_Equal_int_int.l0, if_neg (by simp)]
      simp
  | cons x sa ih =>
    intro sb pre hs hl
    cases sb with
    | nil => simp at hs
    | cons y sb =>
      have hl' : (pre.length : Int) < ((pre ++ x :: sa).length : Int) := by simp; omega
      have hl2 : (pre.length : Int) < ((pre ++ y :: sb).length : Int) := by simp; omega
      have hw : wrap64 ((pre.length : Int) + 1) = (pre.length : Int) + 1 := wrapS (by omega) (by simp at hl; omega)
      by_cases h : x = y
      · subst h
        have h1 := ih sb (pre ++ [x]) (by simpa using hs) (by simp at hl ⊢; omega)
        rw [snoc_app, snoc_app, snoc_leni] at h1
        refine ev_step (ev_eq h1 (by simp)) (fun k => ?_)
        rw [slices_Equal_int_int.l0, if_pos hl', if_pos (by omega), if_pos hl', if_pos hl2, rd_mid, rd_mid, if_pos rfl, hw]
      · refine ev_step (f := fun _ => some _) (Ev.now _) (fun k => ?_)
        rw [slices_Equal_int_int.l0, if_pos hl', if_pos (by omega), if_pos hl', if_pos hl2, rd_mid, rd_mid, if_neg h]
        simp [h]
theorem equal_ok (a b : List Int) (h : a.length ≤ 1048576000) : Ev (fun k => slices_Equal_int_int.f k a b) (decide (a = b)) := by
  by_cases hs : a.length = b.length
  · refine Ev.congr (fun k => ?_) (equal_l0 a b [] hs (by simpa using h))
    rw [slices_Equal_int_int.f, if_pos (by omega)]
    rfl
  · refine Ev.congr (f := fun _ => some _) (fun k => ?_) (Ev.now _)
    rw [slices_Equal_int_int.f, if_neg (by omega)]
    have : a ≠ b := fun e => hs (by rw [e])
    simp [this]

/-- The numbers behind the head of an area. -/
def held (a : List Int) : List Int := (a.take (2 + rd a 1).toNat).drop 2
/-- The generation (0: not whole) and the state of an area. -/
def readA (a : List Int) : Int × List Int :=
  if 1 ≤ rd a 0 ∧ rd a 0 ≤ 999 ∧ rd a 1 ≤ 12 ∧ stateOk (held a) = true ∧ mk (rd a 0) (held a) = a then (rd a 0, held a) else (0, [])
theorem readA_yes {a : List Int} (h : 1 ≤ rd a 0 ∧ rd a 0 ≤ 999 ∧ rd a 1 ≤ 12 ∧ stateOk (held a) = true ∧ mk (rd a 0) (held a) = a) : readA a = (rd a 0, held a) := if_pos h
theorem readA_no {a : List Int} (h : (1 ≤ rd a 0 ∧ rd a 0 ≤ 999 ∧ rd a 1 ≤ 12 ∧ stateOk (held a) = true ∧ mk (rd a 0) (held a) = a) → False) : readA a = (0, []) := if_neg h
theorem area_rd {a : List Int} (h : areaOk a = true) (i : Nat) (hi : i < 15) : 0 ≤ rd a (i : Int) ∧ rd a (i : Int) ≤ 9999 := by
  have hl := area_len h
  rw [rd_nat a i (by omega)]
  simp only [areaOk, Bool.and_eq_true, List.all_eq_true, decide_eq_true_eq] at h
  exact h.1 _ (List.getElem_mem _)
theorem state_len {l : List Int} (h : stateOk l = true) : l.length ≤ 12 := by
  simp only [stateOk, Bool.and_eq_true, decide_eq_true_eq] at h; exact h.2
theorem held_len (a : List Int) : (held a).length ≤ a.length := by
  unfold held; simp; omega

theorem jrRead_ok (a : List Int) (h : areaOk a = true) : Ev (fun k => spec_jrRead.f k a) ((readA a).1, (readA a).2, decide ((readA a).1 > 0)) := by
  have hl := area_len h
  have h0 := area_rd h 0 (by omega)
  have h1 := area_rd h 1 (by omega)
  simp only [Int.ofNat_zero, Int.natCast_one, Int.natCast_zero, Int.ofNat_one] at h0 h1
  have hw : wrap64 (2 + rd a 1) = 2 + rd a 1 := wrapS (by omega) (by omega)
  have J1 : ∀ b, b = true → Ev (fun k => spec_jrRead.j0 k a b) (0, [], false) := by
    intro b hb
    refine ev_step (f := fun _ => some _) (Ev.now _) (fun k => ?_)
    rw [spec_jrRead.j0, if_pos hb]
  by_cases g : 1 ≤ rd a 0 ∧ rd a 0 ≤ 999
  · have eg : spec_jrGeneration.f (rd a 0) = some true := by simp [spec_jrGeneration.f, spec_l1In.f, g.1, g.2]
    by_cases n : rd a 1 ≤ 12
    · have J0 : Ev (fun k => spec_jrRead.j0 k a false) ((readA a).1, (readA a).2, decide ((readA a).1 > 0)) := by
        have hh := held_len a
        obtain ⟨K1, e1⟩ := jrState_ok (held a) (by omega)
        dsimp only at e1
        by_cases s : stateOk (held a) = true
        · have hs := state_len s
          obtain ⟨K2, e2⟩ := jrMake_ok (rd a 0) (held a) hs
          obtain ⟨K3, e3⟩ := l1Same_ok (mk (rd a 0) (held a)) a (by rw [mk_len _ _ hs]; omega)
          dsimp only at e2 e3
          refine ⟨K1 + K2 + K3 + 2, fun k hk => ?_⟩
          obtain ⟨m, rfl⟩ : ∃ m, k = m + 1 := ⟨k - 1, by omega⟩
          dsimp only
          rw [spec_jrRead.j0, if_neg (by decide), if_pos (by omega), hw, if_pos (by omega), if_pos (by omega), show (a.take (2 + rd a 1).toNat).drop 2 = held a from rfl, l1Own_ok _ (by omega)]
          simp only [Option.bind_some]
          rw [e1 m (by omega), s]
          simp only [Option.bind_some, if_true]
          rw [if_pos (by omega), e2 m (by omega)]
          simp only [Option.bind_some]
          rw [e3 m (by omega)]
          simp only [Option.bind_some]
          by_cases q : mk (rd a 0) (held a) = a
          · rw [readA_yes ⟨g.1, g.2, n, s, q⟩]
            simp [q, show rd a 0 > 0 by omega]
          · rw [readA_no (fun x => q x.2.2.2.2)]
            simp [q]
        · refine ⟨K1 + 2, fun k hk => ?_⟩
          obtain ⟨m, rfl⟩ : ∃ m, k = m + 1 := ⟨k - 1, by omega⟩
          dsimp only
          rw [spec_jrRead.j0, if_neg (by decide), if_pos (by omega), hw, if_pos (by omega), if_pos (by omega), show (a.take (2 + rd a 1).toNat).drop 2 = held a from rfl, l1Own_ok _ (by omega)]
          simp only [Option.bind_some]
          rw [e1 m (by omega), readA_no (fun x => s x.2.2.2.1)]
          simp [s]
      refine Ev.congr (fun k => ?_) J0
      rw [spec_jrRead.f, if_pos (by omega), eg]
      simp only [Option.bind_some, if_true]
      rw [if_pos (by omega)]
      simp [show ¬ rd a 1 > 12 by omega]
    · refine Ev.congr (fun k => ?_) (ev_eq (J1 true rfl) ?_)
      · rw [spec_jrRead.f, if_pos (by omega), eg]
        simp only [Option.bind_some, if_true]
        rw [if_pos (by omega)]
        simp [show rd a 1 > 12 by omega]
      · rw [readA_no (fun x => n x.2.2.1)]; simp
  · have eg : spec_jrGeneration.f (rd a 0) = some false := by
      by_cases g1 : 1 ≤ rd a 0
      · have g2 : ¬ rd a 0 ≤ 999 := fun g2 => g ⟨g1, g2⟩
        simp [spec_jrGeneration.f, spec_l1In.f, g1, g2]
      · simp [spec_jrGeneration.f, spec_l1In.f, g1]
    refine Ev.congr (fun k => ?_) (ev_eq (J1 true rfl) ?_)
    · rw [spec_jrRead.f, if_pos (by omega), eg]
      simp
    · rw [readA_no (fun x => g ⟨x.1, x.2.1⟩)]; simp

theorem readArea_ok (a : List Int) (h : areaOk a = true) : Ev (fun k => impl_readArea.f k a) (readA a) := by
  have hl := area_len h
  have h0 := area_rd h 0 (by omega)
  have h1 := area_rd h 1 (by omega)
  simp only [Int.ofNat_zero, Int.natCast_one, Int.natCast_zero, Int.ofNat_one] at h0 h1
  have hw : wrap64 (2 + rd a 1) = 2 + rd a 1 := wrapS (by omega) (by omega)
  have J1 : ∀ b, b = true → Ev (fun k => impl_readArea.j0 k a b) (0, []) := by
    intro b hb
    refine ev_step (f := fun _ => some _) (Ev.now _) (fun k => ?_)
    rw [impl_readArea.j0, if_pos hb]
  by_cases g1 : rd a 0 < 1
  · refine Ev.congr (fun k => ?_) (ev_eq (J1 true rfl) ?_)
    · rw [impl_readArea.f, if_pos (by omega), if_pos g1]
    · rw [readA_no (fun x => by omega)]
  by_cases g2 : rd a 0 > 999
  · refine Ev.congr (fun k => ?_) (ev_eq (J1 true rfl) ?_)
    · rw [impl_readArea.f, if_pos (by omega), if_neg g1, if_pos g2]
    · rw [readA_no (fun x => by omega)]
  by_cases n : rd a 1 ≤ 12
  · have J0 : Ev (fun k => impl_readArea.j0 k a false) (readA a) := by
      have hh := held_len a
      obtain ⟨K1, e1⟩ := isState_ok (held a) (by omega)
      dsimp only at e1
      have ec : slices_Clone_int_int.f (held a) = some (held a) := by rw [slices_Clone_int_int.f, if_pos (by omega)]
      by_cases s : stateOk (held a) = true
      · have hs := state_len s
        obtain ⟨K3, e3⟩ := equal_ok (mk (rd a 0) (held a)) a (by rw [mk_len _ _ hs]; omega)
        dsimp only at e3
        refine ⟨K1 + K3 + 2, fun k hk => ?_⟩
        obtain ⟨m, rfl⟩ : ∃ m, k = m + 1 := ⟨k - 1, by omega⟩
        dsimp only
        rw [impl_readArea.j0, if_neg (by decide), if_pos (by omega), hw, if_pos (by omega), if_pos (by omega), show (a.take (2 + rd a 1).toNat).drop 2 = held a from rfl, ec]
        simp only [Option.bind_some]
        rw [e1 m (by omega), s]
        simp only [Option.bind_some, if_true]
        rw [if_pos (by omega), areaOf_ok _ _ hs]
        simp only [Option.bind_some]
        rw [e3 m (by omega)]
        simp only [Option.bind_some]
        by_cases q : mk (rd a 0) (held a) = a
        · rw [readA_yes ⟨by omega, by omega, n, s, q⟩]
          simp [q]
        · rw [readA_no (fun x => q x.2.2.2.2)]
          simp [q]
      · refine ⟨K1 + 2, fun k hk => ?_⟩
        obtain ⟨m, rfl⟩ : ∃ m, k = m + 1 := ⟨k - 1, by omega⟩
        dsimp only
        rw [impl_readArea.j0, if_neg (by decide), if_pos (by omega), hw, if_pos (by omega), if_pos (by omega), show (a.take (2 + rd a 1).toNat).drop 2 = held a from rfl, ec]
        simp only [Option.bind_some]
        rw [e1 m (by omega), readA_no (fun x => s x.2.2.2.1)]
        simp [s]
    refine Ev.congr (fun k => ?_) J0
    rw [impl_readArea.f, if_pos (by omega), if_neg g1, if_neg g2, if_pos (by omega)]
    simp [show ¬ rd a 1 > 12 by omega]
  · refine Ev.congr (fun k => ?_) (ev_eq (J1 true rfl) ?_)
    · rw [impl_readArea.f, if_pos (by omega), if_neg g1, if_neg g2, if_pos (by omega)]
      simp [show rd a 1 > 12 by omega]
    · rw [readA_no (fun x => n x.2.2.1)]
theorem readA_len (a : List Int) : (readA a).2.length ≤ a.length := by
  have := held_len a
  unfold readA; split
  · exact this
  · simp

/-- Which of two areas holds the state (-1: none), its generation and its state. -/
def newA (a b : List Int) : Int × Int × List Int :=
  if (readA a).1 = 0 ∧ (readA b).1 = 0 then (-1, 0, []) else if (readA a).1 ≥ (readA b).1 then (0, (readA a).1, (readA a).2) else (1, (readA b).1, (readA b).2)
theorem newA_none {a b : List Int} (h1 : (readA a).1 = 0) (h2 : (readA b).1 = 0) : newA a b = (-1, 0, []) := if_pos ⟨h1, h2⟩
theorem newA_fst {a b : List Int} (h : ¬ ((readA a).1 = 0 ∧ (readA b).1 = 0)) (h3 : (readA a).1 ≥ (readA b).1) : newA a b = (0, (readA a).1, (readA a).2) := by
  unfold newA; rw [if_neg h, if_pos h3]
theorem newA_snd {a b : List Int} (h : ¬ ((readA a).1 = 0 ∧ (readA b).1 = 0)) (h3 : ¬ (readA a).1 ≥ (readA b).1) : newA a b = (1, (readA b).1, (readA b).2) := by
  unfold newA; rw [if_neg h, if_neg h3]
theorem readA_gen (a : List Int) : 0 ≤ (readA a).1 ∧ ((readA a).1 = 0 → (readA a).2 = []) := by
  unfold readA; split
  · rename_i h; exact ⟨by omega, fun e => by omega⟩
  · exact ⟨by simp, fun _ => rfl⟩
theorem jrTwo_ok (a b : List Int) (ha : a.length ≤ 1048576) (hb : b.length ≤ 1048576) : Ev (fun k => spec_jrTwo.f k a b) (areaOk a && areaOk b) := by
  refine Ev.bind (jrArea_ok a (by omega)) ?_
  cases s : areaOk a with
  | false => exact ev_of_eq (fun _ => by simp)
  | true =>
    simp only [if_true]
    exact Ev.bind (jrArea_ok b (by omega)) (ev_of_eq (fun _ => by simp))
theorem jrHeld_ok (a b : List Int) (ha : areaOk a = true) (hb : areaOk b = true) : Ev (fun k => spec_jrHeld.f k a b) ((newA a b).2.1, (newA a b).2.2, (newA a b).1) := by
  refine Ev.bind (jrRead_ok a ha) (Ev.bind (jrRead_ok b hb) ?_)
  have ga := readA_gen a
  have gb := readA_gen b
  dsimp only
  by_cases h1 : (readA a).1 > 0
  · by_cases h2 : (readA b).1 > 0
    · by_cases h3 : (readA a).1 ≥ (readA b).1
      · simp only [h1, h2, decide_true, if_true]
        refine ev_step (f := fun _ => some _) (Ev.now _) (fun k => ?_)
        rw [spec_jrHeld.j0, if_pos (by simpa using h3), newA, if_neg (by omega), if_pos h3]
      · simp only [h1, h2, decide_true, if_true]
        refine ev_step (f := fun _ => some _) (Ev.now _) (fun k => ?_)
        rw [spec_jrHeld.j0, if_neg (by simpa using h3), if_pos rfl, newA, if_neg (by omega), if_neg h3]
    · have h2' : decide ((readA b).1 > 0) = false := by simpa using h2
      simp only [h1, h2', decide_true, if_true, Bool.false_eq_true, if_false]
      refine ev_step (f := fun _ => some _) (Ev.now _) (fun k => ?_)
      rw [spec_jrHeld.j0, if_pos rfl, newA, if_neg (by omega), if_pos (by omega)]
  · have h1' : decide ((readA a).1 > 0) = false := by simpa using h1
    simp only [h1', Bool.false_eq_true, if_false]
    by_cases h2 : (readA b).1 > 0
    · refine ev_step (f := fun _ => some _) (Ev.now _) (fun k => ?_)
      rw [spec_jrHeld.j0, if_neg (by decide), if_pos (by simpa using h2), newA, if_neg (by omega), if_neg (by omega)]
    · refine ev_step (f := fun _ => some _) (Ev.now _) (fun k => ?_)
      rw [spec_jrHeld.j0, if_neg (by decide), if_neg (by simpa using h2), newA, if_pos ⟨by omega, by omega⟩]
theorem newest_ok (a b : List Int) (ha : areaOk a = true) (hb : areaOk b = true) : Ev (fun k => impl_newest.f k a b) (newA a b) := by
  refine Ev.bind (readArea_ok a ha) (Ev.bind (readArea_ok b hb) ?_)
  have gb := readA_gen b
  by_cases h1 : (readA a).1 = 0
  · by_cases h2 : (readA b).1 = 0
    · simp only [h1, if_true]
      refine ev_step (f := fun _ => some _) (Ev.now _) (fun k => ?_)
      rw [impl_newest.j0, if_pos (by simp [h2]), newA_none h1 h2]
    · simp only [h1, if_true]
      refine ev_step (f := fun _ => some _) (Ev.now _) (fun k => ?_)
      have h4 : ¬ (0 : Int) ≥ (readA b).1 := by omega
      rw [impl_newest.j0, if_neg (by simpa using h2), if_neg h4, newA_snd (fun x => h2 x.2) (by rw [h1]; exact h4)]
  · simp only [h1, if_false]
    refine ev_step (f := fun _ => some _) (Ev.now _) (fun k => ?_)
    rw [impl_newest.j0, if_neg (by decide)]
    by_cases h3 : (readA a).1 ≥ (readA b).1
    · rw [if_pos h3, newA_fst (fun x => h1 x.1) h3]
    · rw [if_neg h3, newA_snd (fun x => h1 x.1) h3]
theorem newA_len (a b : List Int) : (newA a b).2.2.length ≤ a.length + b.length := by
  have h1 := readA_len a
  have h2 := readA_len b
  unfold newA; split
  · simp
  · split
    · simp only; omega
    · simp only; omega
theorem newA_pos (a b : List Int) : decide ((newA a b).1 ≥ 0) = decide ((newA a b).2.1 > 0) := by
  have ga := readA_gen a
  have gb := readA_gen b
  unfold newA; split
  · simp
  · split
    · simp; omega
    · simp; omega

/-! the steps of a write -/
def put1 (nx : List Int) (i : Int) (x : List Int) : List Int := if i = 0 then x.set 0 0 else if i < 15 then x.set i.toNat (rd nx i) else x.set 0 (rd nx 0)
theorem put1_len (nx : List Int) (i : Int) (x : List Int) : (put1 nx i x).length = x.length := by
  unfold put1
  by_cases c : i = 0
  · rw [if_pos c]; simp
  · rw [if_neg c]
    by_cases d : i < 15
    · rw [if_pos d]; simp
    · rw [if_neg d]; simp
def goSt (nx : List Int) : Nat → Int → List Int → List Int
  | 0, _, x => x
  | d + 1, i, x => goSt nx d (i + 1) (put1 nx i x)
theorem goSt_len (nx : List Int) (d : Nat) : ∀ i x, (goSt nx d i x).length = x.length := by
  induction d with
  | zero => intro i x; rfl
  | succ d ih => intro i x; rw [goSt, ih, put1_len]
theorem steps_ok (nx : List Int) (n : Int) (hn : n ≤ 16) (d : Nat) : ∀ (i : Int) (x : List Int), i + d = n → 0 ≤ i →
    Ev (fun k => impl_writeSteps.steps k x nx n i) (goSt nx d i x) := by
  induction d with
  | zero =>
    intro i x hi h0
    refine ev_step (f := fun _ => some _) (Ev.now _) (fun k => ?_)
    rw [impl_writeSteps.steps, if_neg (by omega)]; rfl
  | succ d ih =>
    intro i x hi h0
    have hw : wrap64 (i + 1) = i + 1 := wrapS (by omega) (by omega)
    have h := ih (i + 1) (put1 nx i x) (by omega) (by omega)
    refine ev_step (ev_eq h (by rw [goSt])) (fun k => ?_)
    rw [impl_writeSteps.steps, if_pos (by omega), if_pos h0, hw]
    unfold put1
    by_cases c : i = 0
    · rw [if_pos c, if_pos c]
    · rw [if_neg c, if_neg c]
      by_cases e : i < 15
      · rw [if_pos e, if_pos e]
      · rw [if_neg e, if_neg e]
theorem jrWrite_l0 (nx : List Int) (hx : nx.length = 15) (n : Int) (hn : n ≤ 16) (w : Int) (d : Nat) : ∀ (i : Int) (f s : List Int), i + d = n → 0 ≤ i → f.length = 15 → s.length = 15 →
    Ev (fun k => spec_jrWrite.l0 k n w f s nx i) (if w = 0 then (f, goSt nx d i s, true) else (goSt nx d i f, s, true)) := by
  induction d with
  | zero =>
    intro i f s hi h0 hf hs
    refine ev_step (f := fun _ => some _) (Ev.now _) (fun k => ?_)
    rw [spec_jrWrite.l0, if_neg (by omega)]
    by_cases c : w = 0
    · rw [if_pos c]; rfl
    · rw [if_neg c]; rfl
  | succ d ih =>
    intro i f s hi h0 hf hs
    have hw : wrap64 (i + 1) = i + 1 := wrapS (by omega) (by omega)
    have ht : Int.tmod i 15 = if i < 15 then i else 0 := by
      rw [Int.tmod_eq_emod_of_nonneg h0]
      by_cases e : i < 15
      · rw [if_pos e]; omega
      · rw [if_neg e]; omega
    have t0 : 0 ≤ Int.tmod i 15 := by rw [ht]; by_cases e : i < 15 <;> simp only [e, if_true, if_false] <;> omega
    have t1 : Int.tmod i 15 < 15 := by rw [ht]; by_cases e : i < 15 <;> simp only [e, if_true, if_false] <;> omega
    have hp : ∀ x : List Int, put1 nx i x = if i = 0 then x.set (Int.tmod i 15).toNat 0 else x.set (Int.tmod i 15).toNat (rd nx (Int.tmod i 15)) := fun x => by
      unfold put1
      rw [ht]
      by_cases c : i = 0
      · subst c; rfl
      · rw [if_neg c, if_neg c]
        by_cases e : i < 15
        · simp only [e, if_true]
        · simp only [e, if_false]; rfl
    by_cases c : w = 0
    · have h := ih (i + 1) f (put1 nx i s) (by omega) (by omega) hf (by rw [put1_len]; exact hs)
      rw [if_pos c] at h ⊢
      refine ev_step (ev_eq h (by rw [goSt])) (fun k => ?_)
      rw [spec_jrWrite.l0, if_pos (by omega), if_pos t0, if_pos (by omega), hw, hp]
      by_cases e : i = 0
      · rw [if_pos e, if_pos e, if_pos c, if_pos (by omega)]
      · rw [if_neg e, if_neg e, if_pos c, if_pos (by omega)]
    · have h := ih (i + 1) (put1 nx i f) s (by omega) (by omega) (by rw [put1_len]; exact hf) hs
      rw [if_neg c] at h ⊢
      refine ev_step (ev_eq h (by rw [goSt])) (fun k => ?_)
      rw [spec_jrWrite.l0, if_pos (by omega), if_pos t0, if_pos (by omega), hw, hp]
      by_cases e : i = 0
      · rw [if_pos e, if_pos e, if_neg c, if_pos (by omega)]
      · rw [if_neg e, if_neg e, if_neg c, if_pos (by omega)]
def core (a b st : List Int) (n : Int) : List Int × List Int × Bool :=
  if (newA a b).2.1 = 999 then ([], [], false) else if (newA a b).1 = 0 then (a, goSt (mk (wrap64 ((newA a b).2.1 + 1)) st) n.toNat 0 b, true) else (goSt (mk (wrap64 ((newA a b).2.1 + 1)) st) n.toNat 0 a, b, true)
theorem core_len (a b st : List Int) (n : Int) (ha : a.length = 15) (hb : b.length = 15) : (core a b st n).1.length ≤ 15 ∧ (core a b st n).2.1.length ≤ 15 := by
  unfold core
  by_cases c : (newA a b).2.1 = 999
  · rw [if_pos c]; simp
  · rw [if_neg c]
    by_cases d : (newA a b).1 = 0
    · rw [if_pos d]; simp only [goSt_len]; omega
    · rw [if_neg d]; simp only [goSt_len]; omega
theorem jrWrite_ok (a b st : List Int) (n : Int) (ha : areaOk a = true) (hb : areaOk b = true) (hs : stateOk st = true) (h0 : 0 ≤ n) (hn : n ≤ 16) : Ev (fun k => spec_jrWrite.f k a b st n) (core a b st n) := by
  have la := area_len ha
  have lb := area_len hb
  have ls := state_len hs
  refine Ev.bind (jrHeld_ok a b ha hb) ?_
  unfold core
  dsimp only
  by_cases c : (newA a b).2.1 = 999
  · simp only [c, if_true]; exact ev_const
  · simp only [c, if_false, l1Own_ok a (by omega), l1Own_ok b (by omega), Option.bind_some]
    refine Ev.bind (jrMake_ok (wrap64 ((newA a b).2.1 + 1)) st ls) ?_
    exact jrWrite_l0 _ (mk_len _ _ ls) n hn (newA a b).1 n.toNat 0 a b (by omega) (by omega) la lb
theorem writeSteps_ok (a b st : List Int) (n : Int) (ha : areaOk a = true) (hb : areaOk b = true) (hs : stateOk st = true) (h0 : 0 ≤ n) (hn : n ≤ 16) : Ev (fun k => impl_writeSteps.f k a b st n) (core a b st n) := by
  have la := area_len ha
  have lb := area_len hb
  have ls := state_len hs
  refine Ev.bind (newest_ok a b ha hb) ?_
  unfold core
  by_cases c : (newA a b).2.1 = 999
  · simp only [c, if_true]; exact ev_const
  · simp only [c, if_false, la, lb, if_true, areaOf_ok _ st ls, Option.bind_some]
    by_cases d : (newA a b).1 = 0
    · simp only [d, if_true]
      exact Ev.bind (steps_ok _ n hn n.toNat 0 b (by omega) (by omega)) ev_const
    · simp only [d, if_false]
      exact Ev.bind (steps_ok _ n hn n.toNat 0 a (by omega) (by omega)) ev_const

def crashR (a b st : List Int) (n : Int) : List Int × List Int × Bool := if (areaOk a && areaOk b) = true then (if stateOk st = true then (if 0 ≤ n ∧ n ≤ 16 then core a b st n else ([], [], false)) else ([], [], false)) else ([], [], false)
theorem crashR_len (a b st : List Int) (n : Int) : (crashR a b st n).1.length ≤ 15 ∧ (crashR a b st n).2.1.length ≤ 15 := by
  unfold crashR
  by_cases c : (areaOk a && areaOk b) = true
  · rw [if_pos c]
    by_cases d : stateOk st = true
    · rw [if_pos d]
      by_cases e : 0 ≤ n ∧ n ≤ 16
      · rw [if_pos e]; exact core_len a b st n (area_len (Bool.and_eq_true_iff.1 c).1) (area_len (Bool.and_eq_true_iff.1 c).2)
      · rw [if_neg e]; simp
    · rw [if_neg d]; simp
  · rw [if_neg c]; simp
theorem implCrash_ok (a b st : List Int) (n : Int) (ha : a.length ≤ 1048576) (hb : b.length ≤ 1048576) (hs : st.length ≤ 1048576) : Ev (fun k => impl_CrashAt.f k a b st n) (crashR a b st n) := by
  refine Ev.bind (isArea_ok a (by omega)) ?_
  unfold crashR
  cases ca : areaOk a with
  | false => simp only [Bool.false_and, Bool.false_eq_true, if_false]; exact ev_const
  | true =>
    simp only [Bool.true_and, if_true]
    refine Ev.bind (isArea_ok b (by omega)) ?_
    cases cb : areaOk b with
    | false => simp only [Bool.false_eq_true, if_false]; exact ev_const
    | true =>
      simp only [if_true]
      refine Ev.bind (isState_ok st (by omega)) ?_
      by_cases d : stateOk st = true
      · simp only [d, if_true]
        by_cases e1 : n < 0
        · rw [if_neg (show ¬ (0 ≤ n ∧ n ≤ 16) by omega)]
          simp only [e1, if_true]; exact ev_const
        · by_cases e2 : n > 16
          · rw [if_neg (show ¬ (0 ≤ n ∧ n ≤ 16) by omega)]
            simp only [e1, e2, if_true, if_false]; exact ev_const
          · rw [if_pos (show (0 ≤ n ∧ n ≤ 16) by omega)]
            simp only [e1, e2, if_false]
            exact Ev.bind (writeSteps_ok a b st n ca cb d (by omega) (by omega)) ev_const
      · simp only [d, Bool.false_eq_true, if_false]; exact ev_const
def writeR (a b st : List Int) : List Int × List Int × Bool := crashR a b st 16
theorem writeR_len (a b st : List Int) : (writeR a b st).1.length ≤ 15 ∧ (writeR a b st).2.1.length ≤ 15 := crashR_len a b st 16
theorem specWrite_ok (a b st : List Int) (ha : a.length ≤ 1048576) (hb : b.length ≤ 1048576) (hs : st.length ≤ 1048576) : Ev (fun k => spec_WriteState.f k a b st) (writeR a b st) := by
  refine Ev.bind (jrTwo_ok a b ha hb) ?_
  unfold writeR crashR
  by_cases c : (areaOk a && areaOk b) = true
  · simp only [c, if_true]
    refine Ev.bind (jrState_ok st (by omega)) ?_
    by_cases d : stateOk st = true
    · simp only [d, if_true]
      rw [if_pos (show (0 : Int) ≤ 16 ∧ (16 : Int) ≤ 16 by omega)]
      exact Ev.bind (jrWrite_ok a b st 16 (Bool.and_eq_true_iff.1 c).1 (Bool.and_eq_true_iff.1 c).2 d (by omega) (by omega)) ev_const
    · simp only [d, Bool.false_eq_true, if_false]; exact ev_const
  · simp only [c, Bool.false_eq_true, if_false]; exact ev_const
theorem implWrite_ok (a b st : List Int) (ha : a.length ≤ 1048576) (hb : b.length ≤ 1048576) (hs : st.length ≤ 1048576) : Ev (fun k => impl_WriteState.f k a b st) (writeR a b st) :=
  Ev.bind (implCrash_ok a b st 16 ha hb hs) ev_const
theorem FnExactWriteState (a : List Int) (b : List Int) (s : List Int) (_ha : a.length * 8 ≤ 140737488351232) (_ga : ∀ y ∈ a, (Lit.int .i64 y).wf = true) (_hb : b.length * 8 ≤ 140737488351232) (_gb : ∀ y ∈ b, (Lit.int .i64 y).wf = true) (_hs : s.length * 8 ≤ 140737488351232) (_gs : ∀ y ∈ s, (Lit.int .i64 y).wf = true) : ∃ k, laws_FnExactWriteState.f k a b s = some true := by
  by_cases ca : (a.length : Int) > 1048576
  · exact ⟨0, by rw [laws_FnExactWriteState.f, if_pos ca]⟩
  by_cases cb : (b.length : Int) > 1048576
  · exact ⟨0, by rw [laws_FnExactWriteState.f, if_neg ca, if_pos cb]⟩
  by_cases cs : (s.length : Int) > 1048576
  · exact ⟨0, by rw [laws_FnExactWriteState.f, if_neg ca, if_neg cb, if_pos cs]⟩
  obtain ⟨hr1, hr2⟩ := writeR_len a b s
  obtain ⟨K1, e1⟩ := toIntS_copy a (by omega)
  obtain ⟨K2, e2⟩ := eqIntS_same a (by omega)
  obtain ⟨K3, e3⟩ := toIntS_copy b (by omega)
  obtain ⟨K4, e4⟩ := eqIntS_same b (by omega)
  obtain ⟨K5, e5⟩ := toIntS_copy s (by omega)
  obtain ⟨K6, e6⟩ := eqIntS_same s (by omega)
  obtain ⟨K7, e7⟩ := specWrite_ok a b s (by omega) (by omega) (by omega)
  obtain ⟨K8, e8⟩ := implWrite_ok a b s (by omega) (by omega) (by omega)
  obtain ⟨K9, e9⟩ := markIntS_marks a 1 (by omega) (by omega) (by omega)
  obtain ⟨K10, e10⟩ := markIntS_marks b (1 + (a.length : Int)) (by omega) (by omega) (by omega)
  obtain ⟨K11, e11⟩ := markIntS_marks s (1 + (a.length : Int) + (b.length : Int)) (by omega) (by omega) (by omega)
  obtain ⟨K12, e12⟩ := eqIntS_same (writeR a b s).1 (by omega)
  obtain ⟨K13, e13⟩ := eqIntS_same (writeR a b s).2.1 (by omega)
  obtain ⟨K14, e14⟩ := markIntS_marks (writeR a b s).1 1 (by omega) (by omega) (by omega)
  obtain ⟨K15, e15⟩ := markIntS_marks (writeR a b s).2.1 (1 + ((writeR a b s).1.length : Int)) (by omega) (by omega) (by omega)
  obtain ⟨K16, e16⟩ := heldIntS_marked (writeR a b s).1.length 1 (by omega) (by omega) (by omega)
  obtain ⟨K17, e17⟩ := heldIntS_marked (writeR a b s).2.1.length (1 + ((writeR a b s).1.length : Int)) (by omega) (by omega) (by omega)
  have n0 : ¬ (1 + (a.length : Int) + (b.length : Int) + (s.length : Int)) < 0 := by omega
  have n1 : ¬ (1 + ((writeR a b s).1.length : Int)) < 0 := by omega
  have n2 : ¬ (1 + ((writeR a b s).1.length : Int) + ((writeR a b s).2.1.length : Int)) < 0 := by omega
  dsimp only at e1 e2 e3 e4 e5 e6 e7 e8 e9 e10 e11 e12 e13 e14 e15 e16 e17
  refine ⟨K1 + K2 + K3 + K4 + K5 + K6 + K7 + K8 + K9 + K10 + K11 + K12 + K13 + K14 + K15 + K16 + K17 + 6, ?_⟩
  simp (disch := omega) only [laws_FnExactWriteState.f, e1, e2, e3, e4, e5, e6, e7, e8, e9, e10, e11, e12, e13, e14, e15, e16, e17, ca, cb, cs, n0, n1, n2, if_false, if_true, Option.bind_some, bnot_ne, Bool.false_eq_true]
  simp (disch := omega) only [laws_FnExactWriteState.j0, e1, e2, e3, e4, e5, e6, e7, e8, e9, e10, e11, e12, e13, e14, e15, e16, e17, ca, cb, cs, n0, n1, n2, if_false, if_true, Option.bind_some, bnot_ne, Bool.false_eq_true]
  simp (disch := omega) only [laws_FnExactWriteState.j1, e1, e2, e3, e4, e5, e6, e7, e8, e9, e10, e11, e12, e13, e14, e15, e16, e17, ca, cb, cs, n0, n1, n2, if_false, if_true, Option.bind_some, bnot_ne, Bool.false_eq_true]
  simp (disch := omega) only [laws_FnExactWriteState.j2, e1, e2, e3, e4, e5, e6, e7, e8, e9, e10, e11, e12, e13, e14, e15, e16, e17, ca, cb, cs, n0, n1, n2, if_false, if_true, Option.bind_some, bnot_ne, Bool.false_eq_true]

end Go.Proofs.Ytockbgeloiekdaa.LWriteState
