/- For every input the law FnExactNearestSheet answers true, after some number of rounds; the conditions are the input's own bounds. -/
import Derived.Test.YtnneeecgmdilfaaQFnExactNearestSheetx9
import Derived.Test.YtnneeecgmdilfaaBase
namespace Go.Proofs.Ytnneeecgmdilfaa.LNearestSheet
open Go Go.RowKit Go.Proofs.Ytnneeecgmdilfaa.QFnExactNearestSheet Go.Proofs.YtnneeecgmdilfaaW.PrintWords Go.Proofs.YtnneeecgmdilfaaW.PrintLast Go.Proofs.YtnneeecgmdilfaaW.PrintMore Go.Proofs.Ytnneeecgmdilfaa.Base
set_option linter.unusedVariables false
set_option linter.unusedSimpArgs false

/-! one hole: whether it is valid, its number -/
/-- A valid hole. -/
def holeOk (t a b : Int) : Bool := decide (0 ≤ t ∧ t ≤ 19 ∧ 0 ≤ a ∧ a ≤ 1999 ∧ a < b ∧ b ≤ 2000)

theorem shHole_ok (t a b : Int) : spec_shHole.f t a b = some (holeOk t a b) := by
  unfold spec_shHole.f spec_l1In.f holeOk
  by_cases h1 : 0 ≤ t
  · by_cases h2 : t ≤ 19
    · by_cases h3 : 0 ≤ a
      · by_cases h4 : a ≤ 1999
        · have hw : wrap64 (a + 1) = a + 1 := wrapS (by omega) (by omega)
          by_cases h5 : a + 1 ≤ b
          · simp [h1, h2, h3, h4, hw, h5, show a < b by omega]
          · simp [h1, h2, h3, h4, hw, h5, show ¬ a < b by omega]
        · simp [h1, h2, h3, h4]
      · simp [h1, h2, h3]
    · simp [h1, h2]
  · simp [h1]

theorem isHole_ok (t a b : Int) : impl_IsHole.f t a b = some (holeOk t a b) := by
  unfold impl_IsHole.f impl_isTrack.f holeOk
  by_cases h1 : 0 ≤ t
  · by_cases h2 : t < 20
    · by_cases h3 : 0 ≤ a
      · by_cases h4 : a < b
        · by_cases h5 : b ≤ 2000
          · simp [h1, h2, h3, h4, h5, show t ≤ 19 by omega, show a ≤ 1999 by omega]
          · simp [h1, h2, h3, h4, h5]
        · simp [h1, h2, h3, h4]
      · simp [h1, h2, h3]
    · simp [h1, h2, show ¬ t ≤ 19 by omega]
  · simp [h1]

theorem holeOk_bounds {t a b : Int} (h : holeOk t a b = true) : 0 ≤ t ∧ t ≤ 19 ∧ 0 ≤ a ∧ a ≤ 1999 ∧ a < b ∧ b ≤ 2000 := by
  simpa [holeOk] using h

/-! slices of holes: copied, held against each other; valid sheets -/
def toH (x : S64) : S60 := ⟨x.f0, x.f1, x.f2⟩
theorem rdL_mid (pre suf : List S64) (x : S64) : rd_T64 (pre ++ x :: suf) (pre.length : Int) = x := getD_mid _ _ _ _ _ (by simp)
theorem rdH_mid (pre suf : List S60) (x : S60) : rd_T60 (pre ++ x :: suf) (pre.length : Int) = x := getD_mid _ _ _ _ _ (by simp)

theorem toHoleS_l0 (suf : List S64) : ∀ pre : List S64, (pre ++ suf).length ≤ 9223372036854775806 →
    Ev (fun k => laws_toHoleS.l0 k (pre ++ suf) (pre.map toH ++ List.replicate suf.length z60) (pre.length : Int)) ((pre ++ suf).map toH) := by
  induction suf with
  | nil =>
    intro pre _
    refine ev_step ev_const (fun k => ?_)
    rw [laws_toHoleS.l0, if_neg (by simp)]
    simp
  | cons x suf ih =>
    intro pre hl
    have h := ih (pre ++ [x]) (by simp at hl ⊢; omega)
    rw [snoc_app, snoc_leni, List.map_append, List.map_cons, List.map_nil, snoc_app] at h
    have hl' : (pre.length : Int) < ((pre ++ x :: suf).length : Int) := by simp; omega
    refine ev_step h (fun k => ?_)
    rw [laws_toHoleS.l0, if_pos hl', if_pos (by omega), rdL_mid]
    simp only [laws_toHole.f, Option.bind_some]
    rw [if_pos (by simp; omega), wrapS (by omega) (by simp at hl; omega), List.length_cons, List.replicate_succ, set_mid _ _ _ _ _ (by simp)]
    rfl

theorem toHoleS_copy (l : List S64) (h : l.length ≤ 1048576) : Ev (fun k => laws_toHoleS.f k l) (l.map toH) := by
  have := toHoleS_l0 l [] (by simp; omega)
  refine Ev.congr (fun k => ?_) this
  rw [laws_toHoleS.f, if_pos (by omega), if_pos (by omega)]
  simp

theorem eqHoleS_l0 (suf : List S60) : ∀ pre : List S60, (pre ++ suf).length ≤ 9223372036854775806 → Ev (fun k => laws_eqHoleS.l0 k (pre ++ suf) (pre ++ suf) (pre.length : Int)) true := by
  induction suf with
  | nil =>
    intro pre _
    refine ev_step ev_const (fun k => ?_)
    rw [laws_eqHoleS.l0, if_neg (by simp)]
  | cons x suf ih =>
    intro pre hl
    have h := ih (pre ++ [x]) (by simp at hl ⊢; omega)
    rw [snoc_app, snoc_leni] at h
    have hl' : (pre.length : Int) < ((pre ++ x :: suf).length : Int) := by simp; omega
    refine ev_step h (fun k => ?_)
    rw [laws_eqHoleS.l0, if_pos hl', if_pos (by omega), if_pos hl']
    simp only [laws_eqHole.f, if_true, Option.bind_some]
    rw [wrapS (by omega) (by simp at hl; omega)]

theorem eqHoleS_same (l : List S60) (h : l.length ≤ 9223372036854775806) : Ev (fun k => laws_eqHoleS.f k l l) true := by
  have := eqHoleS_l0 l [] (by simpa using h)
  refine Ev.congr (fun k => ?_) this
  simp [laws_eqHoleS.f]

theorem szHoleS_in (l : List S64) (n : Int) (hn : n ≤ 9223372036854775807) (h : (l.length : Int) ≤ n) : laws_szHoleS.f l n = some (n - l.length) := by
  have hw : wrap64 (n - l.length) = n - l.length := wrapS (by omega) (by omega)
  rw [laws_szHoleS.f, hw, if_neg (by omega)]
theorem szHoleS_out (l : List S64) (n : Int) (hn : 0 ≤ n) (hl : l.length ≤ 9223372036854775807) (h : n < (l.length : Int)) : laws_szHoleS.f l n = some (-1) := by
  have hw : wrap64 (n - l.length) = n - l.length := wrapS (by omega) (by omega)
  rw [laws_szHoleS.f, hw, if_pos (by omega)]

/-- The hole x meets the earlier hole y. -/
def meets (x y : S60) : Bool := decide (x.f0 = y.f0 ∧ x.f1 ≤ y.f2)
def before (a b : S60) : Bool := decide (a.f1 < b.f1 ∨ (a.f1 = b.f1 ∧ a.f0 < b.f0))
def lastBefore (pre : List S60) (x : S60) : Bool := match pre.getLast? with | none => true | some p => before p x
def goodAt (pre : List S60) (x : S60) : Bool := holeOk x.f0 x.f1 x.f2 && (lastBefore pre x && !(pre.any (meets x)))
def goodFrom : List S60 → List S60 → Bool
  | _, [] => true
  | pre, x :: suf => goodAt pre x && goodFrom (pre ++ [x]) suf
/-- A valid sheet. -/
def good (l : List S60) : Bool := goodFrom [] l && decide (l.length ≤ 60)

theorem shBefore_ok (a b : S60) : spec_shBefore.f a.f0 a.f1 a.f2 b.f0 b.f1 b.f2 = some (before a b) := by
  unfold spec_shBefore.f before
  by_cases h : a.f1 < b.f1
  · simp [h]
  · by_cases h1 : a.f1 = b.f1
    · simp [h1]
    · simp [h, h1]
theorem holeLess_ok (a b : S60) : impl_holeLess.f a.f0 a.f1 a.f2 b.f0 b.f1 b.f2 = some (before a b) := by
  unfold impl_holeLess.f before
  by_cases h1 : a.f1 = b.f1
  · simp [h1]
  · simp [h1]

theorem shGood_l1 (x : S60) (l : List S60) (n i : Int) (r : Bool) (suf : List S60) : ∀ pre : List S60, (pre ++ suf).length ≤ 9223372036854775806 →
    (suf.any (meets x) = true → r = false) → (suf.any (meets x) = false → Ev (fun k => spec_shGood.l0 k l l n (wrap64 (i + 1))) r) →
    Ev (fun k => spec_shGood.l1 k l l n i (pre ++ suf) ((pre ++ suf).length : Int) (pre.length : Int) x.f0 x.f1 x.f2) r := by
  induction suf with
  | nil =>
    intro pre _ _ h
    refine ev_step (h rfl) (fun k => ?_)
    rw [spec_shGood.l1, if_neg (by simp)]
  | cons y suf ih =>
    intro pre hl h1 h2
    have hl' : (pre.length : Int) < ((pre ++ y :: suf).length : Int) := by simp; omega
    have hw : wrap64 ((pre.length : Int) + 1) = (pre.length : Int) + 1 := wrapS (by omega) (by simp at hl; omega)
    by_cases hm : meets x y = true
    · have e : r = false := h1 (by simp [hm])
      subst e
      simp only [meets, decide_eq_true_eq] at hm
      refine ev_step ev_const (fun k => ?_)
      rw [spec_shGood.l1, if_pos hl', if_pos (by omega), if_pos hl', rdH_mid, if_pos hm.1, if_pos hm.2]
    · replace hm : meets x y = false := by simpa using hm
      have h := ih (pre ++ [y]) (by simp at hl ⊢; omega) (fun e => h1 (by simp [e])) (fun e => h2 (by simp [hm, e]))
      rw [snoc_app, snoc_leni] at h
      simp only [meets, decide_eq_false_iff_not] at hm
      refine ev_step h (fun k => ?_)
      rw [spec_shGood.l1, if_pos hl', if_pos (by omega), if_pos hl', rdH_mid, hw]
      by_cases e : x.f0 = y.f0
      · rw [if_pos e, if_neg (fun e2 => hm ⟨e, e2⟩)]
      · rw [if_neg e]

theorem shGood_j1 (x : S60) (pre suf : List S60) (n : Int) (b r : Bool) (hl : (pre ++ suf).length ≤ 9223372036854775806) (hb : b = true → r = false) (h1 : b = false → pre.any (meets x) = true → r = false)
    (h2 : b = false → pre.any (meets x) = false → Ev (fun k => spec_shGood.l0 k (pre ++ suf) (pre ++ suf) n (wrap64 ((pre.length : Int) + 1))) r) :
    Ev (fun k => spec_shGood.j1 k (pre ++ suf) (pre.length : Int) (pre ++ suf) n (pre.length : Int) b x.f0 x.f1 x.f2) r := by
  cases b with
  | true =>
    obtain rfl := hb rfl
    refine ev_step ev_const (fun k => ?_)
    rw [spec_shGood.j1, if_pos rfl]
  | false =>
    have h := shGood_l1 x (pre ++ suf) n (pre.length : Int) r pre [] (by simp at hl ⊢; omega) (h1 rfl) (h2 rfl)
    refine ev_step h (fun k => ?_)
    rw [spec_shGood.j1, if_neg (by decide), if_pos (by omega), if_pos (by simp; omega)]
    simp

theorem shGood_l0 (suf : List S60) : ∀ pre : List S60, (pre ++ suf).length ≤ 9223372036854775806 →
    Ev (fun k => spec_shGood.l0 k (pre ++ suf) (pre ++ suf) ((pre ++ suf).length : Int) (pre.length : Int)) (goodFrom pre suf && decide ((pre ++ suf).length ≤ 60)) := by
  induction suf with
  | nil =>
    intro pre _
    refine ev_step (Ev.now _) (fun k => ?_)
    rw [spec_shGood.l0, if_neg (by simp)]
    simp [goodFrom]
    omega
  | cons x suf ih =>
    intro pre hl
    have h := ih (pre ++ [x]) (by simp at hl ⊢; omega)
    rw [snoc_app, snoc_leni] at h
    have hl' : (pre.length : Int) < ((pre ++ x :: suf).length : Int) := by simp; omega
    have hw : wrap64 ((pre.length : Int) + 1) = (pre.length : Int) + 1 := wrapS (by omega) (by simp at hl; omega)
    have J : ∀ b, (b = !(holeOk x.f0 x.f1 x.f2 && lastBefore pre x)) → Ev (fun k => spec_shGood.j1 k (pre ++ x :: suf) (pre.length : Int) (pre ++ x :: suf) ((pre ++ x :: suf).length : Int) (pre.length : Int) b x.f0 x.f1 x.f2) (goodFrom pre (x :: suf) && decide ((pre ++ x :: suf).length ≤ 60)) := by
      intro b hb
      refine shGood_j1 x pre (x :: suf) _ b _ hl (fun e => ?_) (fun e e2 => ?_) (fun e e2 => ?_)
      · simp only [goodFrom, goodAt]
        cases h1 : holeOk x.f0 x.f1 x.f2 <;> cases h2 : lastBefore pre x <;> simp_all
      · simp [goodFrom, goodAt, e2]
      · rw [hw]
        have e3 : goodFrom pre (x :: suf) = goodFrom (pre ++ [x]) suf := by
          simp only [goodFrom, goodAt, e2]
          cases h1 : holeOk x.f0 x.f1 x.f2 <;> cases h2 : lastBefore pre x <;> simp_all
        rw [e3]
        exact h
    cases ho : holeOk x.f0 x.f1 x.f2 with
    | false =>
      refine ev_step (J true (by simp [ho])) (fun k => ?_)
      rw [spec_shGood.l0, if_pos hl', if_pos (by omega), if_pos hl', rdH_mid, shHole_ok, ho]
      simp
    | true =>
      rcases List.eq_nil_or_concat pre with rfl | ⟨pre', p, rfl⟩
      · refine ev_step (J false (by simp [ho, lastBefore])) (fun k => ?_)
        rw [spec_shGood.l0, if_pos hl', if_pos (by omega), if_pos hl', rdH_mid, shHole_ok, ho]
        simp
      · refine ev_step (J (!(before p x)) (by simp [ho, lastBefore])) (fun k => ?_)
        have e1 : ((pre' ++ [p]).length : Int) = (pre'.length : Int) + 1 := by simp
        have hw2 : wrap64 (((pre' ++ [p]).length : Int) - 1) = (pre'.length : Int) := by
          rw [e1, wrapS (by omega) (by simp at hl; omega)]; omega
        have e2 : rd_T60 (pre' ++ [p] ++ x :: suf) (pre'.length : Int) = p := by
          rw [snoc_app]; exact rdH_mid _ _ _
        rw [spec_shGood.l0, if_pos hl', if_pos (by omega), if_pos hl', rdH_mid, shHole_ok, ho]
        simp only [List.concat_eq_append] at *
        simp only [Option.bind_some, if_true]
        rw [if_pos (by omega), hw2, if_pos (by omega), if_pos (by simp; omega), e2, shBefore_ok]
        simp only [Option.bind_some]

theorem shGood_ok (l : List S60) (h : l.length ≤ 9223372036854775806) : Ev (fun k => spec_shGood.f k l) (good l) :=
  Ev.congr (fun _ => rfl) (shGood_l0 l [] (by simpa using h))

theorem isSheet_l1 (x : S60) (l : List S60) (n i : Int) (r : Bool) (suf : List S60) : ∀ pre : List S60, (pre ++ suf).length ≤ 9223372036854775806 →
    (suf.any (meets x) = true → r = false) → (suf.any (meets x) = false → Ev (fun k => impl_IsSheet.l0 k l l n (wrap64 (i + 1))) r) →
    Ev (fun k => impl_IsSheet.l1 k l l n i (pre ++ suf) ((pre ++ suf).length : Int) (pre.length : Int) x.f0 x.f1 x.f2) r := by
  induction suf with
  | nil =>
    intro pre _ _ h
    refine ev_step (h rfl) (fun k => ?_)
    rw [impl_IsSheet.l1, if_neg (by simp)]
  | cons y suf ih =>
    intro pre hl h1 h2
    have hl' : (pre.length : Int) < ((pre ++ y :: suf).length : Int) := by simp; omega
    have hw : wrap64 ((pre.length : Int) + 1) = (pre.length : Int) + 1 := wrapS (by omega) (by simp at hl; omega)
    by_cases hm : meets x y = true
    · have e : r = false := h1 (by simp [hm])
      subst e
      simp only [meets, decide_eq_true_eq] at hm
      refine ev_step ev_const (fun k => ?_)
      rw [impl_IsSheet.l1, if_pos hl', if_pos (by omega), if_pos hl', rdH_mid, if_pos hm.1.symm, if_pos hm.2]
    · replace hm : meets x y = false := by simpa using hm
      have h := ih (pre ++ [y]) (by simp at hl ⊢; omega) (fun e => h1 (by simp [e])) (fun e => h2 (by simp [hm, e]))
      rw [snoc_app, snoc_leni] at h
      simp only [meets, decide_eq_false_iff_not] at hm
      refine ev_step h (fun k => ?_)
      rw [impl_IsSheet.l1, if_pos hl', if_pos (by omega), if_pos hl', rdH_mid, hw]
      by_cases e : x.f0 = y.f0
      · rw [if_pos e.symm, if_neg (fun e2 => hm ⟨e, e2⟩)]
      · rw [if_neg (fun e2 => e e2.symm)]

theorem isSheet_j1 (x : S60) (pre suf : List S60) (n : Int) (b r : Bool) (hl : (pre ++ suf).length ≤ 9223372036854775806) (hb : b = true → r = false) (h1 : b = false → pre.any (meets x) = true → r = false)
    (h2 : b = false → pre.any (meets x) = false → Ev (fun k => impl_IsSheet.l0 k (pre ++ suf) (pre ++ suf) n (wrap64 ((pre.length : Int) + 1))) r) :
    Ev (fun k => impl_IsSheet.j1 k (pre ++ suf) (pre.length : Int) (pre ++ suf) n (pre.length : Int) b x.f0 x.f1 x.f2) r := by
  cases b with
  | true =>
    obtain rfl := hb rfl
    refine ev_step ev_const (fun k => ?_)
    rw [impl_IsSheet.j1, if_pos rfl]
  | false =>
    have h := isSheet_l1 x (pre ++ suf) n (pre.length : Int) r pre [] (by simp at hl ⊢; omega) (h1 rfl) (h2 rfl)
    refine ev_step h (fun k => ?_)
    rw [impl_IsSheet.j1, if_neg (by decide), if_pos (by omega), if_pos (by simp; omega)]
    simp

theorem isSheet_l0 (suf : List S60) : ∀ pre : List S60, (pre ++ suf).length ≤ 9223372036854775806 →
    Ev (fun k => impl_IsSheet.l0 k (pre ++ suf) (pre ++ suf) ((pre ++ suf).length : Int) (pre.length : Int)) (goodFrom pre suf) := by
  induction suf with
  | nil =>
    intro pre _
    refine ev_step (Ev.now _) (fun k => ?_)
    rw [impl_IsSheet.l0, if_neg (by simp)]
    simp [goodFrom]
  | cons x suf ih =>
    intro pre hl
    have h := ih (pre ++ [x]) (by simp at hl ⊢; omega)
    rw [snoc_app, snoc_leni] at h
    have hl' : (pre.length : Int) < ((pre ++ x :: suf).length : Int) := by simp; omega
    have hw : wrap64 ((pre.length : Int) + 1) = (pre.length : Int) + 1 := wrapS (by omega) (by simp at hl; omega)
    have J : ∀ b, (b = !(holeOk x.f0 x.f1 x.f2 && lastBefore pre x)) → Ev (fun k => impl_IsSheet.j1 k (pre ++ x :: suf) (pre.length : Int) (pre ++ x :: suf) ((pre ++ x :: suf).length : Int) (pre.length : Int) b x.f0 x.f1 x.f2) (goodFrom pre (x :: suf)) := by
      intro b hb
      refine isSheet_j1 x pre (x :: suf) _ b _ hl (fun e => ?_) (fun e e2 => ?_) (fun e e2 => ?_)
      · simp only [goodFrom, goodAt]
        cases h1 : holeOk x.f0 x.f1 x.f2 <;> cases h2 : lastBefore pre x <;> simp_all
      · simp [goodFrom, goodAt, e2]
      · rw [hw]
        have e3 : goodFrom pre (x :: suf) = goodFrom (pre ++ [x]) suf := by
          simp only [goodFrom, goodAt, e2]
          cases h1 : holeOk x.f0 x.f1 x.f2 <;> cases h2 : lastBefore pre x <;> simp_all
        rw [e3]
        exact h
    cases ho : holeOk x.f0 x.f1 x.f2 with
    | false =>
      refine ev_step (J true (by simp [ho])) (fun k => ?_)
      rw [impl_IsSheet.l0, if_pos hl', if_pos (by omega), if_pos hl', rdH_mid, isHole_ok, ho]
      simp
    | true =>
      rcases List.eq_nil_or_concat pre with rfl | ⟨pre', p, rfl⟩
      · refine ev_step (J false (by simp [ho, lastBefore])) (fun k => ?_)
        rw [impl_IsSheet.l0, if_pos hl', if_pos (by omega), if_pos hl', rdH_mid, isHole_ok, ho]
        simp
      · refine ev_step (J (!(before p x)) (by simp [ho, lastBefore])) (fun k => ?_)
        have e1 : ((pre' ++ [p]).length : Int) = (pre'.length : Int) + 1 := by simp
        have hw2 : wrap64 (((pre' ++ [p]).length : Int) - 1) = (pre'.length : Int) := by
          rw [e1, wrapS (by omega) (by simp at hl; omega)]; omega
        have e2 : rd_T60 (pre' ++ [p] ++ x :: suf) (pre'.length : Int) = p := by
          rw [snoc_app]; exact rdH_mid _ _ _
        rw [impl_IsSheet.l0, if_pos hl', if_pos (by omega), if_pos hl', rdH_mid, isHole_ok, ho]
        simp only [List.concat_eq_append] at *
        simp only [Option.bind_some, if_true]
        rw [if_pos (by omega), hw2, if_pos (by omega), if_pos (by simp; omega), e2, holeLess_ok]
        simp only [Option.bind_some]

theorem isSheet_ok (l : List S60) (h : l.length ≤ 9223372036854775806) : Ev (fun k => impl_IsSheet.f k l) (good l) := by
  by_cases h6 : (l.length : Int) > 60
  · refine Ev.congr (f := fun _ => some (good l)) (fun k => ?_) ev_const
    rw [impl_IsSheet.f, if_pos h6]
    have : ¬ l.length ≤ 60 := by omega
    simp [good, this]
  · refine Ev.congr (fun k => ?_) (ev_eq (isSheet_l0 l [] (by simpa using h)) ?_)
    · rw [impl_IsSheet.f, if_neg h6]
      rfl
    · have : l.length ≤ 60 := by omega
      simp [good, this]

/-! holes that are in one slice and not in the other -/
def sameH (x y : S60) : Bool := x.f0 == y.f0 && (x.f1 == y.f1 && (x.f2 == y.f2))
def hasH (l : List S60) (x : S60) : Bool := l.any (sameH x)
def less (l b : List S60) : List S60 := l.filter fun x => !hasH b x
theorem sameH_eq (x y : S60) : sameH x y = true ↔ x = y := by
  obtain ⟨a, b, c⟩ := x
  obtain ⟨d, e, f⟩ := y
  simp [sameH]
theorem hasH_mem (l : List S60) (x : S60) : hasH l x = true ↔ x ∈ l := by
  simp only [hasH, List.any_eq_true]
  constructor
  · rintro ⟨y, hy, h⟩; rw [(sameH_eq x y).1 h]; exact hy
  · intro h; exact ⟨x, h, (sameH_eq x x).2 rfl⟩
theorem less_len (l b : List S60) : (less l b).length ≤ l.length := List.length_filter_le _ _
theorem mgHas_l0 (x : S60) (suf : List S60) : ∀ pre : List S60, (pre ++ suf).length ≤ 1048576 →
    Ev (fun k => spec_mgHas.l0 k (pre ++ suf) ((pre ++ suf).length : Int) (pre.length : Int) x.f0 x.f1 x.f2) (hasH suf x) := by
  induction suf with
  | nil =>
    intro pre _
    refine ev_step (f := fun _ => some _) (Ev.now _) (fun k => ?_)
    rw [spec_mgHas.l0, if_neg (by simp)]; rfl
  | cons y suf ih =>
    intro pre hl
    have hlp : pre.length ≤ 1048576 := by simp at hl; omega
    have h := ih (pre ++ [y]) (by simp at hl ⊢; omega)
    rw [snoc_app, snoc_leni] at h
    have hl' : (pre.length : Int) < ((pre ++ y :: suf).length : Int) := by simp; omega
    have hw : wrap64 ((pre.length : Int) + 1) = (pre.length : Int) + 1 := wrapS (by omega) (by omega)
    cases c : sameH x y with
    | true =>
      refine ev_step (f := fun _ => some _) (Ev.now _) (fun k => ?_)
      rw [spec_mgHas.l0, if_pos hl', if_pos (by omega), if_pos hl', rdH_mid, if_pos (show (x.f0 == y.f0 && (x.f1 == y.f1 && (x.f2 == y.f2))) = true from c)]
      simp [hasH, c]
    | false =>
      refine ev_step (ev_eq h (by simp [hasH, c])) (fun k => ?_)
      rw [spec_mgHas.l0, if_pos hl', if_pos (by omega), if_pos hl', rdH_mid, if_neg (by rw [show (x.f0 == y.f0 && (x.f1 == y.f1 && (x.f2 == y.f2))) = false from c]; decide), hw]
theorem mgHas_ok (l : List S60) (x : S60) (h : l.length ≤ 1048576) : Ev (fun k => spec_mgHas.f k l x.f0 x.f1 x.f2) (hasH l x) :=
  Ev.congr (f := fun k => spec_mgHas.l0 k l (l.length : Int) 0 x.f0 x.f1 x.f2) (fun _ => rfl) (mgHas_l0 x l [] (by simpa using h))
theorem mgLess_l0 (b : List S60) (hb : b.length ≤ 1048576) (suf : List S60) : ∀ (pre out : List S60), (pre ++ suf).length ≤ 1048576 → out.length ≤ pre.length →
    Ev (fun k => spec_mgLess.l0 k b out (pre ++ suf) ((pre ++ suf).length : Int) (pre.length : Int)) (out ++ less suf b) := by
  induction suf with
  | nil =>
    intro pre out _ _
    refine ev_step (f := fun _ => some _) (Ev.now _) (fun k => ?_)
    rw [spec_mgLess.l0, if_neg (by simp)]; simp [less]
  | cons x suf ih =>
    intro pre out hl ho
    have hlp : pre.length ≤ 1048576 := by simp at hl; omega
    have hl' : (pre.length : Int) < ((pre ++ x :: suf).length : Int) := by simp; omega
    have hw : wrap64 ((pre.length : Int) + 1) = (pre.length : Int) + 1 := wrapS (by omega) (by omega)
    obtain ⟨K1, e1⟩ := mgHas_ok b x hb
    have h := ih (pre ++ [x]) (if hasH b x = true then out else out ++ [x]) (by simp at hl ⊢; omega) (by split <;> simp <;> omega)
    rw [snoc_app, snoc_leni] at h
    obtain ⟨K2, e2⟩ := h
    dsimp only at e1 e2
    refine ⟨K1 + K2 + 1, fun k hk => ?_⟩
    obtain ⟨m, rfl⟩ : ∃ m, k = m + 1 := ⟨k - 1, by omega⟩
    dsimp only
    rw [spec_mgLess.l0, if_pos hl', if_pos (by omega), if_pos hl', rdH_mid, e1 m (by omega)]
    simp only [Option.bind_some]
    rw [if_pos (show out.length < 5864062014805 by omega), hw]
    have e3 := e2 m (by omega)
    cases c : hasH b x with
    | true => rw [c] at e3; simp only [if_true] at e3 ⊢; rw [e3]; simp [less, c]
    | false => rw [c] at e3; simp only [Bool.false_eq_true, if_false] at e3 ⊢; rw [e3]; simp [less, c]
theorem mgLess_ok (l b : List S60) (h : l.length ≤ 1048576) (hb : b.length ≤ 1048576) : Ev (fun k => spec_mgLess.f k l b) (less l b) :=
  Ev.congr (f := fun k => spec_mgLess.l0 k b [] l (l.length : Int) 0) (fun _ => rfl) (ev_eq (mgLess_l0 b hb l [] [] (by simpa using h) (by simp)) (by simp))

theorem lessHoles_ok (l b : List S60) (h : l.length ≤ 1048576) : impl_lessHoles.f l b = some (less l b) := by
  rw [impl_lessHoles.f, if_pos (by omega)]; rfl

def dist (a b : List S60) : Int := wrap64 (((less a b).length : Int) + ((less b a).length : Int))
theorem mgDistance_ok (a b : List S60) (ha : a.length ≤ 1048576) (hb : b.length ≤ 1048576) : Ev (fun k => spec_mgDistance.f k a b) (dist a b) :=
  Ev.bind (mgLess_ok a b ha hb) (Ev.bind (mgLess_ok b a hb ha) (ev_of_eq (fun _ => rfl)))
theorem distanceOf_ok (a b : List S60) (ha : a.length ≤ 1048576) (hb : b.length ≤ 1048576) : impl_distanceOf.f a b = some (dist a b) := by
  rw [impl_distanceOf.f, lessHoles_ok a b ha, lessHoles_ok b a hb]; rfl

/-! slices of slices of holes: copied, held against each other, measured -/
theorem rdLL_mid (pre suf : List (List S64)) (x : List S64) : rd_L3 (pre ++ x :: suf) (pre.length : Int) = x := getD_mid _ _ _ _ _ (by simp)
theorem rdHH_mid (pre suf : List (List S60)) (x : List S60) : rd_L4 (pre ++ x :: suf) (pre.length : Int) = x := getD_mid _ _ _ _ _ (by simp)
theorem toHoleSS_l0 (suf : List (List S64)) : ∀ pre : List (List S64), (pre ++ suf).length ≤ 1048576 → (∀ x ∈ suf, x.length ≤ 1048576) →
    Ev (fun k => laws_toHoleSS.l0 k (pre ++ suf) (pre.map (List.map toH) ++ List.replicate suf.length []) (pre.length : Int)) ((pre ++ suf).map (List.map toH)) := by
  induction suf with
  | nil =>
    intro pre _ _
    refine ev_step ev_const (fun k => ?_)
    rw [laws_toHoleSS.l0, if_neg (by simp)]
    simp
  | cons x suf ih =>
    intro pre hl hx
    have h := ih (pre ++ [x]) (by simp at hl ⊢; omega) (fun y hy => hx y (List.mem_cons_of_mem _ hy))
    rw [snoc_app, snoc_leni, List.map_append, List.map_cons, List.map_nil, snoc_app] at h
    have hl' : (pre.length : Int) < ((pre ++ x :: suf).length : Int) := by simp; omega
    have hlp : pre.length ≤ 1048576 := by simp at hl; omega
    have hw : wrap64 ((pre.length : Int) + 1) = (pre.length : Int) + 1 := wrapS (by omega) (by omega)
    obtain ⟨K1, e1⟩ := toHoleS_copy x (hx x List.mem_cons_self)
    obtain ⟨K2, e2⟩ := h
    dsimp only at e1 e2
    refine ⟨K1 + K2 + 1, fun k hk => ?_⟩
    obtain ⟨m, rfl⟩ : ∃ m, k = m + 1 := ⟨k - 1, by omega⟩
    dsimp only
    rw [laws_toHoleSS.l0, if_pos hl', if_pos (by omega), rdLL_mid, e1 m (by omega)]
    simp only [Option.bind_some]
    rw [if_pos (by simp; omega), hw, List.length_cons, List.replicate_succ, set_mid _ _ _ _ _ (by simp)]
    exact e2 m (by omega)
theorem toHoleSS_copy (l : List (List S64)) (h : l.length ≤ 1048576) (hx : ∀ x ∈ l, x.length ≤ 1048576) : Ev (fun k => laws_toHoleSS.f k l) (l.map (List.map toH)) := by
  have := toHoleSS_l0 l [] (by simpa using h) hx
  refine Ev.congr (fun k => ?_) this
  rw [laws_toHoleSS.f, if_pos (by omega), if_pos (by omega)]
  simp
theorem eqHoleSS_l0 (suf : List (List S60)) : ∀ pre : List (List S60), (pre ++ suf).length ≤ 1048576 → (∀ x ∈ suf, x.length ≤ 1048576) →
    Ev (fun k => laws_eqHoleSS.l0 k (pre ++ suf) (pre ++ suf) (pre.length : Int)) true := by
  induction suf with
  | nil =>
    intro pre _ _
    refine ev_step ev_const (fun k => ?_)
    rw [laws_eqHoleSS.l0, if_neg (by simp)]
  | cons x suf ih =>
    intro pre hl hx
    have h := ih (pre ++ [x]) (by simp at hl ⊢; omega) (fun y hy => hx y (List.mem_cons_of_mem _ hy))
    rw [snoc_app, snoc_leni] at h
    have hl' : (pre.length : Int) < ((pre ++ x :: suf).length : Int) := by simp; omega
    have hlp : pre.length ≤ 1048576 := by simp at hl; omega
    have hw : wrap64 ((pre.length : Int) + 1) = (pre.length : Int) + 1 := wrapS (by omega) (by omega)
    obtain ⟨K1, e1⟩ := eqHoleS_same x (by have := hx x List.mem_cons_self; omega)
    obtain ⟨K2, e2⟩ := h
    dsimp only at e1 e2
    refine ⟨K1 + K2 + 1, fun k hk => ?_⟩
    obtain ⟨m, rfl⟩ : ∃ m, k = m + 1 := ⟨k - 1, by omega⟩
    dsimp only
    rw [laws_eqHoleSS.l0, if_pos hl', if_pos (by omega), if_pos hl', rdHH_mid, e1 m (by omega)]
    simp only [Option.bind_some, if_true]
    rw [hw]
    exact e2 m (by omega)
theorem eqHoleSS_same (l : List (List S60)) (h : l.length ≤ 1048576) (hx : ∀ x ∈ l, x.length ≤ 1048576) : Ev (fun k => laws_eqHoleSS.f k l l) true := by
  have := eqHoleSS_l0 l [] (by simpa using h) hx
  refine Ev.congr (fun k => ?_) this
  simp [laws_eqHoleSS.f]
theorem szHoleSS_l0 (suf : List (List S64)) : ∀ (pre : List (List S64)) (n : Int), (pre ++ suf).length ≤ 9223372036854775806 → 0 ≤ n → n ≤ 1048576 → (∀ x ∈ suf, x.length ≤ 140737488351232) →
    ∃ v, Ev (fun k => laws_szHoleSS.l0 k (pre ++ suf) n (pre.length : Int)) v ∧ v ≤ n ∧ (¬ v < 0 → ∀ x ∈ suf, x.length ≤ 1048576) := by
  induction suf with
  | nil =>
    intro pre n _ _ _ _
    refine ⟨n, ev_step (f := fun _ => some _) (Ev.now _) (fun k => ?_), Int.le_refl _, fun _ x hx => absurd hx List.not_mem_nil⟩
    rw [laws_szHoleSS.l0, if_neg (by simp)]
  | cons x suf ih =>
    intro pre n hl h0 h1 hx
    have hl' : (pre.length : Int) < ((pre ++ x :: suf).length : Int) := by simp; omega
    have hw : wrap64 ((pre.length : Int) + 1) = (pre.length : Int) + 1 := wrapS (by omega) (by simp at hl; omega)
    have hxx := hx x List.mem_cons_self
    by_cases c : n < (x.length : Int)
    · refine ⟨-1, ev_step (f := fun _ => some _) (Ev.now _) (fun k => ?_), by omega, fun h => absurd (by decide) h⟩
      rw [laws_szHoleSS.l0, if_pos hl', if_pos (by omega), rdLL_mid, szHoleS_out x n h0 (by omega) c]
      simp only [Option.bind_some]
      rw [if_pos (by decide)]
    · obtain ⟨v, hv, hvn, hb⟩ := ih (pre ++ [x]) (n - x.length) (by simp at hl ⊢; omega) (by omega) (by omega) (fun y hy => hx y (List.mem_cons_of_mem _ hy))
      rw [snoc_app, snoc_leni] at hv
      refine ⟨v, ev_step hv (fun k => ?_), by omega, fun h y hy => ?_⟩
      · rw [laws_szHoleSS.l0, if_pos hl', if_pos (by omega), rdLL_mid, szHoleS_in x n (by omega) (by omega)]
        simp only [Option.bind_some]
        rw [if_neg (by omega), hw]
      · rcases List.mem_cons.1 hy with rfl | hy
        · omega
        · exact hb h y hy
theorem szHoleSS_ok (l : List (List S64)) (n : Int) (h0 : 0 ≤ n) (h1 : n ≤ 1048576) (hl : l.length ≤ 140737488351232) (hw : ∀ x ∈ l, x.length ≤ 140737488351232) :
    ∃ v, Ev (fun k => laws_szHoleSS.f k l n) v ∧ v ≤ n ∧ (¬ v < 0 → l.length ≤ 1048576 ∧ ∀ x ∈ l, x.length ≤ 1048576) := by
  have hwr : wrap64 (n - (l.length : Int)) = n - (l.length : Int) := wrapS (by omega) (by omega)
  by_cases c : n - (l.length : Int) < 0
  · refine ⟨-1, Ev.congr (f := fun _ => some _) (fun k => ?_) (Ev.now _), by omega, fun h => absurd (by decide) h⟩
    rw [laws_szHoleSS.f, hwr, if_pos c]
  · obtain ⟨v, hv, hvn, hb⟩ := szHoleSS_l0 l [] (n - l.length) (by simp; omega) (by omega) (by omega) hw
    refine ⟨v, Ev.congr (fun k => ?_) hv, by omega, fun h => ⟨by omega, hb h⟩⟩
    rw [laws_szHoleSS.f, hwr, if_neg c]
    rfl

theorem areSheets_l0 (l : List (List S60)) (n : Int) (suf : List (List S60)) : ∀ pre : List (List S60), (pre ++ suf).length ≤ 1048576 → (∀ x ∈ suf, x.length ≤ 1048576) →
    Ev (fun k => impl_areSheets.l0 k l n (pre ++ suf) ((pre ++ suf).length : Int) (pre.length : Int)) (suf.all good && decide (1 ≤ (l.length : Int) ∧ (l.length : Int) ≤ n)) := by
  induction suf with
  | nil =>
    intro pre _ _
    refine ev_step (f := fun _ => some _) (Ev.now _) (fun k => ?_)
    rw [impl_areSheets.l0, if_neg (by simp)]
    by_cases c : (l.length : Int) ≥ 1
    · rw [if_pos c]; congr 1; simp only [List.all_nil, Bool.true_and]; exact decide_eq_decide.2 ⟨fun q => ⟨c, q⟩, fun q => q.2⟩
    · rw [if_neg c]; congr 1; simp only [List.all_nil, Bool.true_and]; exact (decide_eq_false (fun q => c q.1)).symm
  | cons x suf ih =>
    intro pre hl hx
    have hlp : pre.length ≤ 1048576 := by simp at hl; omega
    have h := ih (pre ++ [x]) (by simp at hl ⊢; omega) (fun y hy => hx y (List.mem_cons_of_mem _ hy))
    rw [snoc_app, snoc_leni] at h
    have hl' : (pre.length : Int) < ((pre ++ x :: suf).length : Int) := by simp; omega
    have hw : wrap64 ((pre.length : Int) + 1) = (pre.length : Int) + 1 := wrapS (by omega) (by omega)
    obtain ⟨K1, e1⟩ := isSheet_ok x (by have := hx x List.mem_cons_self; omega)
    obtain ⟨K2, e2⟩ := h
    dsimp only at e1 e2
    refine ⟨K1 + K2 + 1, fun k hk => ?_⟩
    obtain ⟨m, rfl⟩ : ∃ m, k = m + 1 := ⟨k - 1, by omega⟩
    dsimp only
    rw [impl_areSheets.l0, if_pos hl', if_pos (by omega), if_pos hl', rdHH_mid, e1 m (by omega)]
    simp only [Option.bind_some]
    rw [hw, e2 m (by omega)]
    cases g : good x <;> simp [g]
theorem areSheets_ok (l : List (List S60)) (n : Int) (hl : l.length ≤ 1048576) (hx : ∀ x ∈ l, x.length ≤ 1048576) : Ev (fun k => impl_areSheets.f k l n) (l.all good && decide (1 ≤ (l.length : Int) ∧ (l.length : Int) ≤ n)) :=
  Ev.congr (f := fun k => impl_areSheets.l0 k l n l (l.length : Int) 0) (fun _ => rfl) (areSheets_l0 l n l [] (by simpa using hl) hx)

/-! the sheet at the least distance -/
theorem l1In_dec (a b c : Int) : spec_l1In.f a b c = some (decide (b ≤ a ∧ a ≤ c)) := by
  unfold spec_l1In.f
  by_cases h : a ≥ b
  · rw [if_pos h]; congr 1; exact decide_eq_decide.2 ⟨fun q => ⟨h, q⟩, fun q => q.2⟩
  · rw [if_neg h]; congr 1; exact (decide_eq_false (fun q => h q.1)).symm
/-- The place of the nearest of the sheets seen so far, and what stands ahead. -/
def nearestBy (D : Int → Int) : Nat → Int → Int → Int
  | 0, _, b => b
  | d + 1, i, b => nearestBy D d (i + 1) (if D i < D b then i else b)
theorem nearestBy_succ (D : Int → Int) (d : Nat) (i b : Int) : nearestBy D (d + 1) i b = nearestBy D d (i + 1) (if D i < D b then i else b) := rfl
theorem nearestBy_zero (D : Int → Int) (i b : Int) : nearestBy D 0 i b = b := rfl
theorem row_len (s : List (List S60)) (hx : ∀ x ∈ s, x.length ≤ 1048576) (i : Int) : (rd_L4 s i).length ≤ 1048576 := by
  by_cases c : i.toNat < s.length
  · refine hx _ ?_
    have e : rd_L4 s i = s[i.toNat] := by simp [rd_L4, List.getD_eq_getElem?_getD, List.getElem?_eq_getElem c]
    rw [e]; exact List.getElem_mem c
  · have e : rd_L4 s i = [] := by simp only [rd_L4, List.getD_eq_getElem?_getD]; rw [List.getElem?_eq_none (by omega)]; rfl
    rw [e]; simp
theorem specNear_l1 (l : List S60) (s : List (List S60)) (D : Int → Int) (hs : s.length ≤ 8) (hD : ∀ i : Int, Ev (fun k => spec_mgDistance.f k l (rd_L4 s i)) (D i)) (d : Nat) : ∀ (i : Nat) (b : Int), i + d = s.length → 0 ≤ b → b < s.length →
    Ev (fun k => spec_NearestSheet.l1 k l s b s (s.length : Int) (i : Int)) (nearestBy D d (i : Int) b, D (nearestBy D d (i : Int) b), true) := by
  induction d with
  | zero =>
    intro i b hi h0 h1
    obtain ⟨K, e⟩ := hD b
    refine ⟨K + 1, fun k hk => ?_⟩
    obtain ⟨m, rfl⟩ : ∃ m, k = m + 1 := ⟨k - 1, by omega⟩
    have e1 := e m (by omega)
    dsimp only at e1
    dsimp only
    rw [spec_NearestSheet.l1, if_neg (by omega), if_pos h0, if_pos h1, e1, nearestBy_zero]
    simp only [Option.bind_some]
  | succ d ih =>
    intro i b hi h0 h1
    obtain ⟨K1, e1⟩ := hD (i : Int)
    obtain ⟨K2, e2⟩ := hD b
    have hw : wrap64 ((i : Int) + 1) = ((i + 1 : Nat) : Int) := by rw [wrapS (by omega) (by omega)]; simp
    have g0 : 0 ≤ (if D (i : Int) < D b then (i : Int) else b) := by by_cases c : D (i : Int) < D b <;> simp only [c, if_true, if_false] <;> omega
    have g1 : (if D (i : Int) < D b then (i : Int) else b) < s.length := by by_cases c : D (i : Int) < D b <;> simp only [c, if_true, if_false] <;> omega
    obtain ⟨K3, e3⟩ := ih (i + 1) (if D (i : Int) < D b then (i : Int) else b) (by omega) g0 g1
    refine ⟨K1 + K2 + K3 + 1, fun k hk => ?_⟩
    obtain ⟨m, rfl⟩ : ∃ m, k = m + 1 := ⟨k - 1, by omega⟩
    have q1 := e1 m (by omega)
    have q2 := e2 m (by omega)
    have q3 := e3 m (by omega)
    dsimp only at q1 q2 q3
    have e : ((i + 1 : Nat) : Int) = (i : Int) + 1 := by simp
    dsimp only
    rw [spec_NearestSheet.l1, if_pos (by omega), if_pos (by omega), if_pos (by omega), q1]
    simp only [Option.bind_some]
    rw [if_pos h0, if_pos h1, q2, hw]
    simp only [Option.bind_some]
    rw [nearestBy_succ, ← e, ← q3]
    by_cases c : D (i : Int) < D b
    · rw [if_pos c, if_pos c]
    · rw [if_neg c, if_neg c]
theorem implNear_l0 (l : List S60) (s : List (List S60)) (D : Int → Int) (hs : s.length ≤ 8) (hD : ∀ i : Int, impl_distanceOf.f l (rd_L4 s i) = some (D i)) (d : Nat) : ∀ (i : Nat) (b : Int), i + d = s.length →
    Ev (fun k => impl_NearestSheet.l0 k l b (D b) s (s.length : Int) (i : Int)) (nearestBy D d (i : Int) b, D (nearestBy D d (i : Int) b), true) := by
  induction d with
  | zero =>
    intro i b hi
    refine ev_step (f := fun _ => some _) (Ev.now _) (fun k => ?_)
    rw [impl_NearestSheet.l0, if_neg (by omega), nearestBy_zero]
  | succ d ih =>
    intro i b hi
    have hw : wrap64 ((i : Int) + 1) = ((i + 1 : Nat) : Int) := by rw [wrapS (by omega) (by omega)]; simp
    have h := ih (i + 1) (if D (i : Int) < D b then (i : Int) else b) (by omega)
    have e : ((i + 1 : Nat) : Int) = (i : Int) + 1 := by simp
    rw [nearestBy_succ, ← e]
    refine ev_step h (fun k => ?_)
    rw [impl_NearestSheet.l0, if_pos (by omega), if_pos (by omega), if_pos (by omega), hD (i : Int), hw]
    simp only [Option.bind_some]
    by_cases c : D (i : Int) < D b
    · rw [if_pos c, if_pos c]
    · rw [if_neg c, if_neg c]
theorem specNear_l0 (l : List S60) (s : List (List S60)) (R : Int × Int × Bool) (suf : List (List S60)) : ∀ pre : List (List S60), (pre ++ suf).length ≤ 1048576 → (∀ x ∈ suf, x.length ≤ 1048576) →
    Ev (fun k => spec_NearestSheet.l1 k l s 0 s (s.length : Int) 0) R →
    Ev (fun k => spec_NearestSheet.l0 k l s (pre ++ suf) ((pre ++ suf).length : Int) (pre.length : Int)) (if suf.all good = true then R else (0, 0, false)) := by
  induction suf with
  | nil =>
    intro pre _ _ h
    refine ev_step (ev_eq h (by simp)) (fun k => ?_)
    rw [spec_NearestSheet.l0, if_neg (by simp)]
  | cons x suf ih =>
    intro pre hl hx h
    have hlp : pre.length ≤ 1048576 := by simp at hl; omega
    have h2 := ih (pre ++ [x]) (by simp at hl ⊢; omega) (fun y hy => hx y (List.mem_cons_of_mem _ hy)) h
    rw [snoc_app, snoc_leni] at h2
    have hl' : (pre.length : Int) < ((pre ++ x :: suf).length : Int) := by simp; omega
    have hw : wrap64 ((pre.length : Int) + 1) = (pre.length : Int) + 1 := wrapS (by omega) (by omega)
    obtain ⟨K1, e1⟩ := shGood_ok x (by have := hx x List.mem_cons_self; omega)
    obtain ⟨K2, e2⟩ := h2
    dsimp only at e1 e2
    refine ⟨K1 + K2 + 1, fun k hk => ?_⟩
    obtain ⟨m, rfl⟩ : ∃ m, k = m + 1 := ⟨k - 1, by omega⟩
    dsimp only
    rw [spec_NearestSheet.l0, if_pos hl', if_pos (by omega), if_pos hl', rdHH_mid, e1 m (by omega)]
    simp only [Option.bind_some]
    rw [hw, e2 m (by omega)]
    cases g : good x <;> simp [g]
def nearD (D : Int → Int) (n : Nat) (ok : Bool) : Int × Int × Bool := if ok = true then (nearestBy D n 0 0, D (nearestBy D n 0 0), true) else (0, 0, false)
theorem nearD_false (D : Int → Int) (n : Nat) : nearD D n false = (0, 0, false) := rfl
theorem nearD_true (D : Int → Int) (n : Nat) : nearD D n true = (nearestBy D n 0 0, D (nearestBy D n 0 0), true) := rfl
def nearOk (l : List S60) (s : List (List S60)) : Bool := good l && (s.all good && decide (1 ≤ (s.length : Int) ∧ (s.length : Int) ≤ 8))
theorem specNear_D (l : List S60) (s : List (List S60)) (hl : l.length ≤ 1048576) (hs : s.length ≤ 1048576) (hx : ∀ x ∈ s, x.length ≤ 1048576) (D : Int → Int) (hD : ∀ i : Int, Ev (fun k => spec_mgDistance.f k l (rd_L4 s i)) (D i)) : Ev (fun k => spec_NearestSheet.f k l s) (nearD D s.length (nearOk l s)) := by
  have no : ∀ b : Bool, b = true → nearOk l s = false → Ev (fun k => spec_NearestSheet.j0 k l s b) (nearD D s.length (nearOk l s)) := fun b hb g => by
    rw [hb, g, nearD_false]
    refine ev_step (f := fun _ => some _) (Ev.now _) (fun k => ?_)
    rw [spec_NearestSheet.j0, if_pos rfl]
  refine Ev.bind (shGood_ok l (by omega)) ?_
  cases g : good l with
  | false =>
    simp only [Bool.false_eq_true, if_false]
    exact no true rfl (by simp [nearOk, g])
  | true =>
    simp only [if_true, l1In_dec, Option.bind_some]
    by_cases c : 1 ≤ (s.length : Int) ∧ (s.length : Int) ≤ 8
    · have h1 := specNear_l1 l s D (by omega) hD s.length 0 0 (by omega) (by omega) (by omega)
      have h0 := specNear_l0 l s _ s [] (by simpa using hs) hx h1
      refine ev_step (ev_eq h0 ?_) (fun k => ?_)
      · simp only [nearOk, g, Bool.true_and, decide_eq_true c, Bool.and_true]
        cases ga : s.all good
        · rw [nearD_false, if_neg (by decide)]
        · rw [nearD_true, if_pos rfl]; rfl
      · rw [spec_NearestSheet.j0, if_neg (by rw [decide_eq_true c]; decide)]; rfl
    · exact no _ (by rw [decide_eq_false c]; rfl) (by simp only [nearOk, decide_eq_false c, Bool.and_false])
theorem implNear_D (l : List S60) (s : List (List S60)) (hl : l.length ≤ 1048576) (hs : s.length ≤ 1048576) (hx : ∀ x ∈ s, x.length ≤ 1048576) (D : Int → Int) (hD : ∀ i : Int, impl_distanceOf.f l (rd_L4 s i) = some (D i)) : Ev (fun k => impl_NearestSheet.f k l s) (nearD D s.length (nearOk l s)) := by
  have no : ∀ b : Bool, b = true → nearOk l s = false → Ev (fun k => impl_NearestSheet.j0 k l s b) (nearD D s.length (nearOk l s)) := fun b hb g => by
    rw [hb, g, nearD_false]
    refine ev_step (f := fun _ => some _) (Ev.now _) (fun k => ?_)
    rw [impl_NearestSheet.j0, if_pos rfl]
  refine Ev.bind (isSheet_ok l (by omega)) ?_
  cases g : good l with
  | false =>
    simp only [Bool.false_eq_true, if_false]
    exact no true rfl (by simp [nearOk, g])
  | true =>
    simp only [if_true]
    refine Ev.bind (areSheets_ok s 8 hs hx) ?_
    cases ga : (s.all good && decide (1 ≤ (s.length : Int) ∧ (s.length : Int) ≤ 8)) with
    | false => exact no _ rfl (by simp only [nearOk, g, ga, Bool.and_false])
    | true =>
      have hc := of_decide_eq_true (Bool.and_eq_true_iff.1 ga).2
      have h0 := implNear_l0 l s D (by omega) hD s.length 0 0 (by omega)
      have go : nearOk l s = true := by simp only [nearOk, g, ga, Bool.and_self]
      rw [go, nearD_true]
      refine ev_step h0 (fun k => ?_)
      rw [impl_NearestSheet.j0, if_neg (by decide), if_pos (by omega), hD 0]
      simp only [Option.bind_some]
      simp
def nearR (l : List S60) (s : List (List S60)) : Int × Int × Bool := nearD (fun j => dist l (rd_L4 s j)) s.length (nearOk l s)
theorem specNear_ok (l : List S60) (s : List (List S60)) (hl : l.length ≤ 1048576) (hs : s.length ≤ 1048576) (hx : ∀ x ∈ s, x.length ≤ 1048576) : Ev (fun k => spec_NearestSheet.f k l s) (nearR l s) :=
  specNear_D l s hl hs hx (fun j => dist l (rd_L4 s j)) (fun i => mgDistance_ok l (rd_L4 s i) hl (row_len s hx i))
theorem implNear_ok (l : List S60) (s : List (List S60)) (hl : l.length ≤ 1048576) (hs : s.length ≤ 1048576) (hx : ∀ x ∈ s, x.length ≤ 1048576) : Ev (fun k => impl_NearestSheet.f k l s) (nearR l s) :=
  implNear_D l s hl hs hx (fun j => dist l (rd_L4 s j)) (fun i => distanceOf_ok l (rd_L4 s i) hl (row_len s hx i))
theorem FnExactNearestSheet (l : List S64) (s : List (List S64)) (hb : l.length * 24 ≤ 140737488351232) (hw : ∀ y ∈ l, ((Lit.int .i64 y.f0).wf = true) ∧ ((Lit.int .i64 y.f1).wf = true) ∧ ((Lit.int .i64 y.f2).wf = true)) (hsb : s.length * 24 ≤ 140737488351232) (hsw : ∀ y ∈ s, (y.length * 24 ≤ 140737488351232) ∧ ∀ z ∈ y, ((Lit.int .i64 z.f0).wf = true) ∧ ((Lit.int .i64 z.f1).wf = true) ∧ ((Lit.int .i64 z.f2).wf = true)) : ∃ k, laws_FnExactNearestSheet.f k l s = some true := by
  have m1 : (-1 : Int) < 0 := by omega
  by_cases c : 1048576 < (l.length : Int)
  · exact ⟨0, by simp only [laws_FnExactNearestSheet.f, szHoleS_out l 1048576 (by omega) (by omega) c, Option.bind_some, m1, if_true]⟩
  have z0 := szHoleS_in l 1048576 (by omega) (by omega)
  have n0 : ¬ (1048576 - (l.length : Int)) < 0 := by omega
  obtain ⟨v, ⟨K0, e0⟩, hvn, hv⟩ := szHoleSS_ok s (1048576 - (l.length : Int)) (by omega) (by omega) (by omega) (fun x hx => by have := (hsw x hx).1; omega)
  dsimp only at e0
  by_cases d : v < 0
  · exact ⟨K0, by simp (disch := omega) only [laws_FnExactNearestSheet.f, z0, n0, e0, Option.bind_some, d, if_true, if_false]⟩
  obtain ⟨hs, hx⟩ := hv d
  have hl : l.length ≤ 1048576 := by omega
  have hl2 : (l.map toH).length ≤ 1048576 := by simpa using hl
  have hs2 : (s.map (List.map toH)).length ≤ 1048576 := by simpa using hs
  have hx2 : ∀ x ∈ s.map (List.map toH), x.length ≤ 1048576 := fun x h => by
    obtain ⟨y, hy, rfl⟩ := List.mem_map.1 h
    simpa using hx y hy
  obtain ⟨K1, e1⟩ := toHoleS_copy l hl
  obtain ⟨K2, e2⟩ := toHoleSS_copy s hs hx
  obtain ⟨K3, e3⟩ := specNear_ok (l.map toH) (s.map (List.map toH)) hl2 hs2 hx2
  obtain ⟨K4, e4⟩ := implNear_ok (l.map toH) (s.map (List.map toH)) hl2 hs2 hx2
  obtain ⟨K5, e5⟩ := eqHoleS_same (l.map toH) (by omega)
  obtain ⟨K6, e6⟩ := eqHoleSS_same (s.map (List.map toH)) hs2 hx2
  dsimp only at e1 e2 e3 e4 e5 e6
  refine ⟨K0 + K1 + K2 + K3 + K4 + K5 + K6 + 6, ?_⟩
  simp (disch := omega) only [laws_FnExactNearestSheet.f, z0, n0, d, e0, e1, e2, e3, e4, e5, e6, if_false, if_true, Option.bind_some, bnot_ne, Bool.false_eq_true]
  simp (disch := omega) only [laws_FnExactNearestSheet.j0, z0, n0, d, e0, e1, e2, e3, e4, e5, e6, if_false, if_true, Option.bind_some, bnot_ne, Bool.false_eq_true]

end Go.Proofs.Ytnneeecgmdilfaa.LNearestSheet
