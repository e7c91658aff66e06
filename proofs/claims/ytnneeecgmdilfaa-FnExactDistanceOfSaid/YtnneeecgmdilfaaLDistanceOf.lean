/- For every input the law FnExactDistanceOf answers true, after some number of rounds; the conditions are the input's own bounds. -/
import Derived.Test.YtnneeecgmdilfaaQFnExactDistanceOfx7
import Derived.Test.YtnneeecgmdilfaaBase
namespace Go.Proofs.Ytnneeecgmdilfaa.LDistanceOf
open Go Go.RowKit Go.Proofs.Ytnneeecgmdilfaa.QFnExactDistanceOf Go.Proofs.YtnneeecgmdilfaaW.PrintWords Go.Proofs.YtnneeecgmdilfaaW.PrintLast Go.Proofs.YtnneeecgmdilfaaW.PrintMore Go.Proofs.Ytnneeecgmdilfaa.Base
set_option linter.unusedVariables false
set_option linter.unusedSimpArgs false

/-! one hole: whether it is valid, its number -/
/-- A valid hole. -/
def holeOk (t a b : Int) : Bool := decide (0 ≤ t ∧ t ≤ 19 ∧ 0 ≤ a ∧ a ≤ 1999 ∧ a < b ∧ b ≤ 2000)

theorem shHole_ok (t a b : Int) : spec_shHole.f t a b = some (holeOk t a b) := by
  unfold spec_shHole.f spec_l1In.f holeOk
  by_cases h1 : 0 ≤ t
  · by_cases h2 : t ≤ 19
    · by_cases h3 : 0 ≤ a
      · by_cases h4 : a ≤ 1999
        · have hw : wrap64 (a + 1) = a + 1 := wrapS (by omega) (by omega)
          by_cases h5 : a + 1 ≤ b
          · simp [h1, h2, h3, h4, hw, h5, show a < b by omega]
          · simp [h1, h2, h3, h4, hw, h5, show ¬ a < b by omega]
        · simp [h1, h2, h3, h4]
      · simp [h1, h2, h3]
    · simp [h1, h2]
  · simp [h1]

theorem isHole_ok (t a b : Int) : impl_IsHole.f t a b = some (holeOk t a b) := by
  unfold impl_IsHole.f impl_isTrack.f holeOk
  by_cases h1 : 0 ≤ t
  · by_cases h2 : t < 20
    · by_cases h3 : 0 ≤ a
      · by_cases h4 : a < b
        · by_cases h5 : b ≤ 2000
          · simp [h1, h2, h3, h4, h5, show t ≤ 19 by omega, show a ≤ 1999 by omega]
          · simp [h1, h2, h3, h4, h5]
        · simp [h1, h2, h3, h4]
      · simp [h1, h2, h3]
    · simp [h1, h2, show ¬ t ≤ 19 by omega]
  · simp [h1]

theorem holeOk_bounds {t a b : Int} (h : holeOk t a b = true) : 0 ≤ t ∧ t ≤ 19 ∧ 0 ≤ a ∧ a ≤ 1999 ∧ a < b ∧ b ≤ 2000 := by
  simpa [holeOk] using h

/-! slices of holes: copied, held against each other; valid sheets -/
def toH (x : S64) : S60 := ⟨x.f0, x.f1, x.f2⟩
theorem rdL_mid (pre suf : List S64) (x : S64) : rd_T64 (pre ++ x :: suf) (pre.length : Int) = x := getD_mid _ _ _ _ _ (by simp)
theorem rdH_mid (pre suf : List S60) (x : S60) : rd_T60 (pre ++ x :: suf) (pre.length : Int) = x := getD_mid _ _ _ _ _ (by simp)

theorem toHoleS_l0 (suf : List S64) : ∀ pre : List S64, (pre ++ suf).length ≤ 9223372036854775806 →
    Ev (fun k => laws_toHoleS.l0 k (pre ++ suf) (pre.map toH ++ List.replicate suf.length z60) (pre.length : Int)) ((pre ++ suf).map toH) := by
  induction suf with
  | nil =>
    intro pre _
    refine ev_step ev_const (fun k => ?_)
    rw [laws_toHoleS.l0, if_neg (by simp)]
    simp
  | cons x suf ih =>
    intro pre hl
    have h := ih (pre ++ [x]) (by simp at hl ⊢; omega)
    rw [snoc_app, snoc_leni, List.map_append, List.map_cons, List.map_nil, snoc_app] at h
    have hl' : (pre.length : Int) < ((pre ++ x :: suf).length : Int) := by simp; omega
    refine ev_step h (fun k => ?_)
    rw [laws_toHoleS.l0, if_pos hl', if_pos (by omega), rdL_mid]
    simp only [laws_toHole.f, Option.bind_some]
    rw [if_pos (by simp; omega), wrapS (by omega) (by simp at hl; omega), List.length_cons, List.replicate_succ, set_mid _ _ _ _ _ (by simp)]
    rfl

theorem toHoleS_copy (l : List S64) (h : l.length ≤ 1048576) : Ev (fun k => laws_toHoleS.f k l) (l.map toH) := by
  have := toHoleS_l0 l [] (by simp; omega)
  refine Ev.congr (fun k => ?_) this
  rw [laws_toHoleS.f, if_pos (by omega), if_pos (by omega)]
  simp

theorem eqHoleS_l0 (suf : List S60) : ∀ pre : List S60, (pre ++ suf).length ≤ 9223372036854775806 → Ev (fun k => laws_eqHoleS.l0 k (pre ++ suf) (pre ++ suf) (pre.length : Int)) true := by
  induction suf with
  | nil =>
    intro pre _
    refine ev_step ev_const (fun k => ?_)
    rw [laws_eqHoleS.l0, if_neg (by simp)]
  | cons x suf ih =>
    intro pre hl
    have h := ih (pre ++ [x]) (by simp at hl ⊢; omega)
    rw [snoc_app, snoc_leni] at h
    have hl' : (pre.length : Int) < ((pre ++ x :: suf).length : Int) := by simp; omega
    refine ev_step h (fun k => ?_)
    rw [laws_eqHoleS.l0, if_pos hl', if_pos (by omega), if_pos hl']
    simp only [laws_eqHole.f, if_true, Option.bind_some]
    rw [wrapS (by omega) (by simp at hl; omega)]

theorem eqHoleS_same (l : List S60) (h : l.length ≤ 9223372036854775806) : Ev (fun k => laws_eqHoleS.f k l l) true := by
  have := eqHoleS_l0 l [] (by simpa using h)
  refine Ev.congr (fun k => ?_) this
  simp [laws_eqHoleS.f]

theorem szHoleS_in (l : List S64) (n : Int) (hn : n ≤ 9223372036854775807) (h : (l.length : Int) ≤ n) : laws_szHoleS.f l n = some (n - l.length) := by
  have hw : wrap64 (n - l.length) = n - l.length := wrapS (by omega) (by omega)
  rw [laws_szHoleS.f, hw, if_neg (by omega)]
theorem szHoleS_out (l : List S64) (n : Int) (hn : 0 ≤ n) (hl : l.length ≤ 9223372036854775807) (h : n < (l.length : Int)) : laws_szHoleS.f l n = some (-1) := by
  have hw : wrap64 (n - l.length) = n - l.length := wrapS (by omega) (by omega)
  rw [laws_szHoleS.f, hw, if_pos (by omega)]

/-- The hole x meets the earlier hole y. -/
def meets (x y : S60) : Bool := decide (x.f0 = y.f0 ∧ x.f1 ≤ y.f2)
def before (a b : S60) : Bool := decide (a.f1 < b.f1 ∨ (a.f1 = b.f1 ∧ a.f0 < b.f0))
def lastBefore (pre : List S60) (x : S60) : Bool := match pre.getLast? with | none => true | some p => before p x
def goodAt (pre : List S60) (x : S60) : Bool := holeOk x.f0 x.f1 x.f2 && (lastBefore pre x && !(pre.any (meets x)))
def goodFrom : List S60 → List S60 → Bool
  | _, [] => true
  | pre, x :: suf => goodAt pre x && goodFrom (pre ++ [x]) suf
/-- A valid sheet. -/
def good (l : List S60) : Bool := goodFrom [] l && decide (l.length ≤ 60)

theorem shBefore_ok (a b : S60) : spec_shBefore.f a.f0 a.f1 a.f2 b.f0 b.f1 b.f2 = some (before a b) := by
  unfold spec_shBefore.f before
  by_cases h : a.f1 < b.f1
  · simp [h]
  · by_cases h1 : a.f1 = b.f1
    · simp [h1]
    · simp [h, h1]
theorem holeLess_ok (a b : S60) : impl_holeLess.f a.f0 a.f1 a.f2 b.f0 b.f1 b.f2 = some (before a b) := by
  unfold impl_holeLess.f before
  by_cases h1 : a.f1 = b.f1
  · simp [h1]
  · simp [h1]

theorem shGood_l1 (x : S60) (l : List S60) (n i : Int) (r : Bool) (suf : List S60) : ∀ pre : List S60, (pre ++ suf).length ≤ 9223372036854775806 →
    (suf.any (meets x) = true → r = false) → (suf.any (meets x) = false → Ev (fun k => spec_shGood.l0 k l l n (wrap64 (i + 1))) r) →
    Ev (fun k => spec_shGood.l1 k l l n i (pre ++ suf) ((pre ++ suf).length : Int) (pre.length : Int) x.f0 x.f1 x.f2) r := by
  induction suf with
  | nil =>
    intro pre _ _ h
    refine ev_step (h rfl) (fun k => ?_)
    rw [spec_shGood.l1, if_neg (by simp)]
  | cons y suf ih =>
    intro pre hl h1 h2
    have hl' : (pre.length : Int) < ((pre ++ y :: suf).length : Int) := by simp; omega
    have hw : wrap64 ((pre.length : Int) + 1) = (pre.length : Int) + 1 := wrapS (by omega) (by simp at hl; omega)
    by_cases hm : meets x y = true
    · have e : r = false := h1 (by simp [hm])
      subst e
      simp only [meets, decide_eq_true_eq] at hm
      refine ev_step ev_const (fun k => ?_)
      rw [spec_shGood.l1, if_pos hl', if_pos (by omega), if_pos hl', rdH_mid, if_pos hm.1, if_pos hm.2]
    · replace hm : meets x y = false := by simpa using hm
      have h := ih (pre ++ [y]) (by simp at hl ⊢; omega) (fun e => h1 (by simp [e])) (fun e => h2 (by simp [hm, e]))
      rw [snoc_app, snoc_leni] at h
      simp only [meets, decide_eq_false_iff_not] at hm
      refine ev_step h (fun k => ?_)
      rw [spec_shGood.l1, if_pos hl', if_pos (by omega), if_pos hl', rdH_mid, hw]
      by_cases e : x.f0 = y.f0
      · rw [if_pos e, if_neg (fun e2 => hm ⟨e, e2⟩)]
      · rw [if_neg e]

theorem shGood_j1 (x : S60) (pre suf : List S60) (n : Int) (b r : Bool) (hl : (pre ++ suf).length ≤ 9223372036854775806) (hb : b = true → r = false) (h1 : b = false → pre.any (meets x) = true → r = false)
    (h2 : b = false → pre.any (meets x) = false → Ev (fun k => spec_shGood.l0 k (pre ++ suf) (pre ++ suf) n (wrap64 ((pre.length : Int) + 1))) r) :
    Ev (fun k => spec_shGood.j1 k (pre ++ suf) (pre.length : Int) (pre ++ suf) n (pre.length : Int) b x.f0 x.f1 x.f2) r := by
  cases b with
  | true =>
    obtain rfl := hb rfl
    refine ev_step ev_const (fun k => ?_)
    rw [spec_shGood.j1, if_pos rfl]
  | false =>
    have h := shGood_l1 x (pre ++ suf) n (pre.length : Int) r pre [] (by simp at hl ⊢; omega) (h1 rfl) (h2 rfl)
    refine ev_step h (fun k => ?_)
    rw [spec_shGood.j1, if_neg (by decide), if_pos (by omega), if_pos (by simp; omega)]
    simp

theorem shGood_l0 (suf : List S60) : ∀ pre : List S60, (pre ++ suf).length ≤ 9223372036854775806 →
    Ev (fun k => spec_shGood.l0 k (pre ++ suf) (pre ++ suf) ((pre ++ suf).length : Int) (pre.length : Int)) (goodFrom pre suf && decide ((pre ++ suf).length ≤ 60)) := by
  induction suf with
  | nil =>
    intro pre _
    refine ev_step (Ev.now _) (fun k => ?_)
    rw [spec_shGood.l0, if_neg (by simp)]
    simp [goodFrom]
    omega
  | cons x suf ih =>
    intro pre hl
    have h := ih (pre ++ [x]) (by simp at hl ⊢; omega)
    rw [snoc_app, snoc_leni] at h
    have hl' : (pre.length : Int) < ((pre ++ x :: suf).length : Int) := by simp; omega
    have hw : wrap64 ((pre.length : Int) + 1) = (pre.length : Int) + 1 := wrapS (by omega) (by simp at hl; omega)
    have J : ∀ b, (b = !(holeOk x.f0 x.f1 x.f2 && lastBefore pre x)) → Ev (fun k => spec_shGood.j1 k (pre ++ x :: suf) (pre.length : Int) (pre ++ x :: suf) ((pre ++ x :: suf).length : Int) (pre.length : Int) b x.f0 x.f1 x.f2) (goodFrom pre (x :: suf) && decide ((pre ++ x :: suf).length ≤ 60)) := by
      intro b hb
      refine shGood_j1 x pre (x :: suf) _ b _ hl (fun e => ?_) (fun e e2 => ?_) (fun e e2 => ?_)
      · simp only [goodFrom, goodAt]
        cases h1 : holeOk x.f0 x.f1 x.f2 <;> cases h2 : lastBefore pre x <;> simp_all
      · simp [goodFrom, goodAt, e2]
      · rw [hw]
        have e3 : goodFrom pre (x :: suf) = goodFrom (pre ++ [x]) suf := by
          simp only [goodFrom, goodAt, e2]
          cases h1 : holeOk x.f0 x.f1 x.f2 <;> cases h2 : lastBefore pre x <;> simp_all
        rw [e3]
        exact h
    cases ho : holeOk x.f0 x.f1 x.f2 with
    | false =>
      refine ev_step (J true (by simp [ho])) (fun k => ?_)
      rw [spec_shGood.l0, if_pos hl', if_pos (by omega), if_pos hl', rdH_mid, shHole_ok, ho]
      simp
    | true =>
      rcases List.eq_nil_or_concat pre with rfl | ⟨pre', p, rfl⟩
      · refine ev_step (J false (by simp [ho, lastBefore])) (fun k => ?_)
        rw [spec_shGood.l0, if_pos hl', if_pos (by omega), if_pos hl', rdH_mid, shHole_ok, ho]
        simp
      · refine ev_step (J (!(before p x)) (by simp [ho, lastBefore])) (fun k => ?_)
        have e1 : ((pre' ++ [p]).length : Int) = (pre'.length : Int) + 1 := by simp
        have hw2 : wrap64 (((pre' ++ [p]).length : Int) - 1) = (pre'.length : Int) := by
          rw [e1, wrapS (by omega) (by simp at hl; omega)]; omega
        have e2 : rd_T60 (pre' ++ [p] ++ x :: suf) (pre'.length : Int) = p := by
          rw [snoc_app]; exact rdH_mid _ _ _
        rw [spec_shGood.l0, if_pos hl', if_pos (by omega), if_pos hl', rdH_mid, shHole_ok, ho]
        simp only [List.concat_eq_append] at *
        simp only [Option.bind_some, if_true]
        rw [if_pos (by omega), hw2, if_pos (by omega), if_pos (by simp; omega), e2, shBefore_ok]
        simp only [Option.bind_some]

theorem shGood_ok (l : List S60) (h : l.length ≤ 9223372036854775806) : Ev (fun k => spec_shGood.f k l) (good l) :=
  Ev.congr (fun _ => rfl) (shGood_l0 l [] (by simpa using h))

theorem isSheet_l1 (x : S60) (l : List S60) (n i : Int) (r : Bool) (suf : List S60) : ∀ pre : List S60, (pre ++ suf).length ≤ 9223372036854775806 →
    (suf.any (meets x) = true → r = false) → (suf.any (meets x) = false → Ev (fun k => impl_IsSheet.l0 k l l n (wrap64 (i + 1))) r) →
    Ev (fun k => impl_IsSheet.l1 k l l n i (pre ++ suf) ((pre ++ suf).length : Int) (pre.length : Int) x.f0 x.f1 x.f2) r := by
  induction suf with
  | nil =>
    intro pre _ _ h
    refine ev_step (h rfl) (fun k => ?_)
    rw [impl_IsSheet.l1, if_neg (by simp)]
  | cons y suf ih =>
    intro pre hl h1 h2
    have hl' : (pre.length : Int) < ((pre ++ y :: suf).length : Int) := by simp; omega
    have hw : wrap64 ((pre.length : Int) + 1) = (pre.length : Int) + 1 := wrapS (by omega) (by simp at hl; omega)
    by_cases hm : meets x y = true
    · have e : r = false := h1 (by simp [hm])
      subst e
      simp only [meets, decide_eq_true_eq] at hm
      refine ev_step ev_const (fun k => ?_)
      rw [impl_IsSheet.l1, if_pos hl', if_pos (by omega), if_pos hl', rdH_mid, if_pos hm.1.symm, if_pos hm.2]
    · replace hm : meets x y = false := by simpa using hm
      have h := ih (pre ++ [y]) (by simp at hl ⊢; omega) (fun e => h1 (by simp [e])) (fun e => h2 (by simp [hm, e]))
      rw [snoc_app, snoc_leni] at h
      simp only [meets, decide_eq_false_iff_not] at hm
      refine ev_step h (fun k => ?_)
      rw [impl_IsSheet.l1, if_pos hl', if_pos (by omega), if_pos hl', rdH_mid, hw]
      by_cases e : x.f0 = y.f0
      · rw [if_pos e.symm, if_neg (fun e2 => hm ⟨e, e2⟩)]
      · rw [if_neg (fun e2 => e e2.symm)]

theorem isSheet_j1 (x : S60) (pre suf : List S60) (n : Int) (b r : Bool) (hl : (pre ++ suf).length ≤ 9223372036854775806) (hb : b = true → r = false) (h1 : b = false → pre.any (meets x) = true → r = false)
    (h2 : b = false → pre.any (meets x) = false → Ev (fun k => impl_IsSheet.l0 k (pre ++ suf) (pre ++ suf) n (wrap64 ((pre.length : Int) + 1))) r) :
    Ev (fun k => impl_IsSheet.j1 k (pre ++ suf) (pre.length : Int) (pre ++ suf) n (pre.length : Int) b x.f0 x.f1 x.f2) r := by
  cases b with
  | true =>
    obtain rfl := hb rfl
    refine ev_step ev_const (fun k => ?_)
    rw [impl_IsSheet.j1, if_pos rfl]
  | false =>
    have h := isSheet_l1 x (pre ++ suf) n (pre.length : Int) r pre [] (by simp at hl ⊢; omega) (h1 rfl) (h2 rfl)
    refine ev_step h (fun k => ?_)
    rw [impl_IsSheet.j1, if_neg (by decide), if_pos (by omega), if_pos (by simp; omega)]
    simp

theorem isSheet_l0 (suf : List S60) : ∀ pre : List S60, (pre ++ suf).length ≤ 9223372036854775806 →
    Ev (fun k => impl_IsSheet.l0 k (pre ++ suf) (pre ++ suf) ((pre ++ suf).length : Int) (pre.length : Int)) (goodFrom pre suf) := by
  induction suf with
  | nil =>
    intro pre _
    refine ev_step (Ev.now _) (fun k => ?_)
    rw [impl_IsSheet.l0, if_neg (by simp)]
    simp [goodFrom]
  | cons x suf ih =>
    intro pre hl
    have h := ih (pre ++ [x]) (by simp at hl ⊢; omega)
    rw [snoc_app, snoc_leni] at h
    have hl' : (pre.length : Int) < ((pre ++ x :: suf).length : Int) := by simp; omega
    have hw : wrap64 ((pre.length : Int) + 1) = (pre.length : Int) + 1 := wrapS (by omega) (by simp at hl; omega)
    have J : ∀ b, (b = !(holeOk x.f0 x.f1 x.f2 && lastBefore pre x)) → Ev (fun k => impl_IsSheet.j1 k (pre ++ x :: suf) (pre.length : Int) (pre ++ x :: suf) ((pre ++ x :: suf).length : Int) (pre.length : Int) b x.f0 x.f1 x.f2) (goodFrom pre (x :: suf)) := by
      intro b hb
      refine isSheet_j1 x pre (x :: suf) _ b _ hl (fun e => ?_) (fun e e2 => ?_) (fun e e2 => ?_)
      · simp only [goodFrom, goodAt]
        cases h1 : holeOk x.f0 x.f1 x.f2 <;> cases h2 : lastBefore pre x <;> simp_all
      · simp [goodFrom, goodAt, e2]
      · rw [hw]
        have e3 : goodFrom pre (x :: suf) = goodFrom (pre ++ [x]) suf := by
          simp only [goodFrom, goodAt, e2]
          cases h1 : holeOk x.f0 x.f1 x.f2 <;> cases h2 : lastBefore pre x <;> simp_all
        rw [e3]
        exact h
    cases ho : holeOk x.f0 x.f1 x.f2 with
    | false =>
      refine ev_step (J true (by simp [ho])) (fun k => ?_)
      rw [impl_IsSheet.l0, if_pos hl', if_pos (by omega), if_pos hl', rdH_mid, isHole_ok, ho]
      simp
    | true =>
      rcases List.eq_nil_or_concat pre with rfl | ⟨pre', p, rfl⟩
      · refine ev_step (J false (by simp [ho, lastBefore])) (fun k => ?_)
        rw [impl_IsSheet.l0, if_pos hl', if_pos (by omega), if_pos hl', rdH_mid, isHole_ok, ho]
        simp
      · refine ev_step (J (!(before p x)) (by simp [ho, lastBefore])) (fun k => ?_)
        have e1 : ((pre' ++ [p]).length : Int) = (pre'.length : Int) + 1 := by simp
        have hw2 : wrap64 (((pre' ++ [p]).length : Int) - 1) = (pre'.length : Int) := by
          rw [e1, wrapS (by omega) (by simp at hl; omega)]; omega
        have e2 : rd_T60 (pre' ++ [p] ++ x :: suf) (pre'.length : Int) = p := by
          rw [snoc_app]; exact rdH_mid _ _ _
        rw [impl_IsSheet.l0, if_pos hl', if_pos (by omega), if_pos hl', rdH_mid, isHole_ok, ho]
        simp only [List.concat_eq_append] at *
        simp only [Option.bind_some, if_true]
        rw [if_pos (by omega), hw2, if_pos (by omega), if_pos (by simp; omega), e2, holeLess_ok]
        simp only [Option.bind_some]

theorem isSheet_ok (l : List S60) (h : l.length ≤ 9223372036854775806) : Ev (fun k => impl_IsSheet.f k l) (good l) := by
  by_cases h6 : (l.length : Int) > 60
  · refine Ev.congr (f := fun _ => some (good l)) (fun k => ?_) ev_const
    rw [impl_IsSheet.f, if_pos h6]
    have : ¬ l.length ≤ 60 := by omega
    simp [good, this]
  · refine Ev.congr (fun k => ?_) (ev_eq (isSheet_l0 l [] (by simpa using h)) ?_)
    · rw [impl_IsSheet.f, if_neg h6]
      rfl
    · have : l.length ≤ 60 := by omega
      simp [good, this]

/-! holes that are in one slice and not in the other -/
def sameH (x y : S60) : Bool := x.f0 == y.f0 && (x.f1 == y.f1 && (x.f2 == y.f2))
def hasH (l : List S60) (x : S60) : Bool := l.any (sameH x)
def less (l b : List S60) : List S60 := l.filter fun x => !hasH b x
theorem sameH_eq (x y : S60) : sameH x y = true ↔ x = y := by
  obtain ⟨a, b, c⟩ := x
  obtain ⟨d, e, f⟩ := y
  simp [sameH]
theorem hasH_mem (l : List S60) (x : S60) : hasH l x = true ↔ x ∈ l := by
  simp only [hasH, List.any_eq_true]
  constructor
  · rintro ⟨y, hy, h⟩; rw [(sameH_eq x y).1 h]; exact hy
  · intro h; exact ⟨x, h, (sameH_eq x x).2 rfl⟩
theorem less_len (l b : List S60) : (less l b).length ≤ l.length := List.length_filter_le _ _
theorem mgHas_l0 (x : S60) (suf : List S60) : ∀ pre : List S60, (pre ++ suf).length ≤ 1048576 →
    Ev (fun k => spec_mgHas.l0 k (pre ++ suf) ((pre ++ suf).length : Int) (pre.length : Int) x.f0 x.f1 x.f2) (hasH suf x) := by
  induction suf with
  | nil =>
    intro pre _
    refine ev_step (f := fun _ => some _) (Ev.now _) (fun k => ?_)
    rw [spec_mgHas.l0, if_neg (by simp)]; rfl
  | cons y suf ih =>
    intro pre hl
    have hlp : pre.length ≤ 1048576 := by simp at hl; omega
    have h := ih (pre ++ [y]) (by simp at hl ⊢; omega)
    rw [snoc_app, snoc_leni] at h
    have hl' : (pre.length : Int) < ((pre ++ y :: suf).length : Int) := by simp; omega
    have hw : wrap64 ((pre.length : Int) + 1) = (pre.length : Int) + 1 := wrapS (by omega) (by omega)
    cases c : sameH x y with
    | true =>
      refine ev_step (f := fun _ => some _) (Ev.now _) (fun k => ?_)
      rw [spec_mgHas.l0, if_pos hl', if_pos (by omega), if_pos hl', rdH_mid, if_pos (show (x.f0 == y.f0 && (x.f1 == y.f1 && (x.f2 == y.f2))) = true from c)]
      simp [hasH, c]
    | false =>
      refine ev_step (ev_eq h (by simp [hasH, c])) (fun k => ?_)
      rw [spec_mgHas.l0, if_pos hl', if_pos (by omega), if_pos hl', rdH_mid, if_neg (by rw [show (x.f0 == y.f0 && (x.f1 == y.f1 && (x.f2 == y.f2))) = false from c]; decide), hw]
theorem mgHas_ok (l : List S60) (x : S60) (h : l.length ≤ 1048576) : Ev (fun k => spec_mgHas.f k l x.f0 x.f1 x.f2) (hasH l x) :=
  Ev.congr (f := fun k => spec_mgHas.l0 k l (l.length : Int) 0 x.f0 x.f1 x.f2) (fun _ => rfl) (mgHas_l0 x l [] (by simpa using h))
theorem mgLess_l0 (b : List S60) (hb : b.length ≤ 1048576) (suf : List S60) : ∀ (pre out : List S60), (pre ++ suf).length ≤ 1048576 → out.length ≤ pre.length →
    Ev (fun k => spec_mgLess.l0 k b out (pre ++ suf) ((pre ++ suf).length : Int) (pre.length : Int)) (out ++ less suf b) := by
  induction suf with
  | nil =>
    intro pre out _ _
    refine ev_step (f := fun _ => some _) (Ev.now _) (fun k => ?_)
    rw [spec_mgLess.l0, if_neg (by simp)]; simp [less]
  | cons x suf ih =>
    intro pre out hl ho
    have hlp : pre.length ≤ 1048576 := by simp at hl; omega
    have hl' : (pre.length : Int) < ((pre ++ x :: suf).length : Int) := by simp; omega
    have hw : wrap64 ((pre.length : Int) + 1) = (pre.length : Int) + 1 := wrapS (by omega) (by omega)
    obtain ⟨K1, e1⟩ := mgHas_ok b x hb
    have h := ih (pre ++ [x]) (if hasH b x = true then out else out ++ [x]) (by simp at hl ⊢; omega) (by split <;> simp <;> omega)
    rw [snoc_app, snoc_leni] at h
    obtain ⟨K2, e2⟩ := h
    dsimp only at e1 e2
    refine ⟨K1 + K2 + 1, fun k hk => ?_⟩
    obtain ⟨m, rfl⟩ : ∃ m, k = m + 1 := ⟨k - 1, by omega⟩
    dsimp only
    rw [spec_mgLess.l0, if_pos hl', if_pos (by omega), if_pos hl', rdH_mid, e1 m (by omega)]
    simp only [Option.bind_some]
    rw [if_pos (show out.length < 5864062014805 by omega), hw]
    have e3 := e2 m (by omega)
    cases c : hasH b x with
    | true => rw [c] at e3; simp only [if_true] at e3 ⊢; rw [e3]; simp [less, c]
    | false => rw [c] at e3; simp only [Bool.false_eq_true, if_false] at e3 ⊢; rw [e3]; simp [less, c]
theorem mgLess_ok (l b : List S60) (h : l.length ≤ 1048576) (hb : b.length ≤ 1048576) : Ev (fun k => spec_mgLess.f k l b) (less l b) :=
  Ev.congr (f := fun k => spec_mgLess.l0 k b [] l (l.length : Int) 0) (fun _ => rfl) (ev_eq (mgLess_l0 b hb l [] [] (by simpa using h) (by simp)) (by simp))

theorem lessHoles_ok (l b : List S60) (h : l.length ≤ 1048576) : impl_lessHoles.f l b = some (less l b) := by
  rw [impl_lessHoles.f, if_pos (by omega)]; rfl

theorem mgTwo_ok (a b : List S60) (ha : a.length ≤ 1048576) (hb : b.length ≤ 1048576) : Ev (fun k => spec_mgTwo.f k a b) (good a && good b) := by
  obtain ⟨K1, e1⟩ := shGood_ok a (by omega)
  obtain ⟨K2, e2⟩ := shGood_ok b (by omega)
  dsimp only at e1 e2
  refine ⟨K1 + K2, fun k hk => ?_⟩
  dsimp only
  rw [spec_mgTwo.f, e1 k (by omega), e2 k (by omega)]
  cases good a <;> cases good b <;> rfl

def dist (a b : List S60) : Int := wrap64 (((less a b).length : Int) + ((less b a).length : Int))
theorem mgDistance_ok (a b : List S60) (ha : a.length ≤ 1048576) (hb : b.length ≤ 1048576) : Ev (fun k => spec_mgDistance.f k a b) (dist a b) :=
  Ev.bind (mgLess_ok a b ha hb) (Ev.bind (mgLess_ok b a hb ha) (ev_of_eq (fun _ => rfl)))
theorem distanceOf_ok (a b : List S60) (ha : a.length ≤ 1048576) (hb : b.length ≤ 1048576) : impl_distanceOf.f a b = some (dist a b) := by
  rw [impl_distanceOf.f, lessHoles_ok a b ha, lessHoles_ok b a hb]; rfl

def distR (a b : List S60) : Int × Bool := if (good a && good b) = true then (dist a b, true) else (0, false)
theorem specDist_ok (a b : List S60) (ha : a.length ≤ 1048576) (hb : b.length ≤ 1048576) : Ev (fun k => spec_DistanceOf.f k a b) (distR a b) := by
  refine Ev.bind (mgTwo_ok a b ha hb) ?_
  cases g : (good a && good b) with
  | false => exact ev_of_eq (fun _ => by simp only [distR, g, Bool.false_eq_true, if_false])
  | true =>
    simp only [if_true]
    exact Ev.bind (mgDistance_ok a b ha hb) (ev_of_eq (fun _ => by simp only [distR, g, if_true]))
theorem implDist_ok (a b : List S60) (ha : a.length ≤ 1048576) (hb : b.length ≤ 1048576) : Ev (fun k => impl_DistanceOf.f k a b) (distR a b) := by
  obtain ⟨K1, e1⟩ := isSheet_ok a (by omega)
  obtain ⟨K2, e2⟩ := isSheet_ok b (by omega)
  dsimp only at e1 e2
  refine ⟨K1 + K2, fun k hk => ?_⟩
  dsimp only
  rw [impl_DistanceOf.f, e1 k (by omega), e2 k (by omega), distanceOf_ok a b ha hb]
  unfold distR
  cases good a <;> cases good b <;> rfl
theorem FnExactDistanceOf (l p : List S64) (hb : l.length * 24 ≤ 140737488351232) (hw : ∀ y ∈ l, ((Lit.int .i64 y.f0).wf = true) ∧ ((Lit.int .i64 y.f1).wf = true) ∧ ((Lit.int .i64 y.f2).wf = true)) (hpb : p.length * 24 ≤ 140737488351232) (hpw : ∀ y ∈ p, ((Lit.int .i64 y.f0).wf = true) ∧ ((Lit.int .i64 y.f1).wf = true) ∧ ((Lit.int .i64 y.f2).wf = true)) : ∃ k, laws_FnExactDistanceOf.f k l p = some true := by
  have m1 : (-1 : Int) < 0 := by omega
  by_cases c : 1048576 < (l.length : Int)
  · exact ⟨0, by simp only [laws_FnExactDistanceOf.f, szHoleS_out l 1048576 (by omega) (by omega) c, Option.bind_some, m1, if_true]⟩
  have z0 := szHoleS_in l 1048576 (by omega) (by omega)
  have n0 : ¬ (1048576 - (l.length : Int)) < 0 := by omega
  by_cases d : 1048576 - (l.length : Int) < (p.length : Int)
  · exact ⟨0, by simp only [laws_FnExactDistanceOf.f, z0, n0, szHoleS_out p (1048576 - l.length) (by omega) (by omega) d, Option.bind_some, m1, if_true, if_false]⟩
  have z1 := szHoleS_in p (1048576 - l.length) (by omega) (by omega)
  have n1 : ¬ (1048576 - (l.length : Int) - (p.length : Int)) < 0 := by omega
  have hl : l.length ≤ 1048576 := by omega
  have hp : p.length ≤ 1048576 := by omega
  have hl2 : (l.map toH).length ≤ 1048576 := by simpa using hl
  have hp2 : (p.map toH).length ≤ 1048576 := by simpa using hp
  obtain ⟨K1, e1⟩ := toHoleS_copy l hl
  obtain ⟨K2, e2⟩ := toHoleS_copy p hp
  obtain ⟨K3, e3⟩ := specDist_ok (l.map toH) (p.map toH) hl2 hp2
  obtain ⟨K4, e4⟩ := implDist_ok (l.map toH) (p.map toH) hl2 hp2
  obtain ⟨K5, e5⟩ := eqHoleS_same (l.map toH) (by omega)
  obtain ⟨K6, e6⟩ := eqHoleS_same (p.map toH) (by omega)
  dsimp only at e1 e2 e3 e4 e5 e6
  refine ⟨K1 + K2 + K3 + K4 + K5 + K6 + 6, ?_⟩
  simp (disch := omega) only [laws_FnExactDistanceOf.f, z0, z1, n0, n1, e1, e2, e3, e4, e5, e6, if_false, if_true, Option.bind_some, bnot_ne, Bool.false_eq_true]
  simp (disch := omega) only [laws_FnExactDistanceOf.j0, z0, z1, n0, n1, e1, e2, e3, e4, e5, e6, if_false, if_true, Option.bind_some, bnot_ne, Bool.false_eq_true]

end Go.Proofs.Ytnneeecgmdilfaa.LDistanceOf
