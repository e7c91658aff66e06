/- For every input the law FnExactClashingHoles answers true, after some number of rounds; the conditions are the input's own bounds. -/
import Derived.Test.YtnneeecgmdilfaaQFnExactClashingHolesx9
import Derived.Test.YtnneeecgmdilfaaBase
namespace Go.Proofs.Ytnneeecgmdilfaa.LClashingHoles
open Go Go.RowKit Go.Proofs.Ytnneeecgmdilfaa.QFnExactClashingHoles Go.Proofs.YtnneeecgmdilfaaW.PrintWords Go.Proofs.YtnneeecgmdilfaaW.PrintLast Go.Proofs.YtnneeecgmdilfaaW.PrintMore Go.Proofs.Ytnneeecgmdilfaa.Base
set_option linter.unusedVariables false
set_option linter.unusedSimpArgs false

/-! one hole: whether it is valid, its number -/
/-- A valid hole. -/
def holeOk (t a b : Int) : Bool := decide (0 ≤ t ∧ t ≤ 19 ∧ 0 ≤ a ∧ a ≤ 1999 ∧ a < b ∧ b ≤ 2000)

theorem shHole_ok (t a b : Int) : spec_shHole.f t a b = some (holeOk t a b) := by
  unfold spec_shHole.f spec_l1In.f holeOk
  by_cases h1 : 0 ≤ t
  · by_cases h2 : t ≤ 19
    · by_cases h3 : 0 ≤ a
      · by_cases h4 : a ≤ 1999
        · have hw : wrap64 (a + 1) = a + 1 := wrapS (by omega) (by omega)
          by_cases h5 : a + 1 ≤ b
          · simp [h1, h2, h3, h4, hw, h5, show a < b by omega]
          · simp [h1, h2, h3, h4, hw, h5, show ¬ a < b by omega]
        · simp [h1, h2, h3, h4]
      · simp [h1, h2, h3]
    · simp [h1, h2]
  · simp [h1]

theorem isHole_ok (t a b : Int) : impl_IsHole.f t a b = some (holeOk t a b) := by
  unfold impl_IsHole.f impl_isTrack.f holeOk
  by_cases h1 : 0 ≤ t
  · by_cases h2 : t < 20
    · by_cases h3 : 0 ≤ a
      · by_cases h4 : a < b
        · by_cases h5 : b ≤ 2000
          · simp [h1, h2, h3, h4, h5, show t ≤ 19 by omega, show a ≤ 1999 by omega]
          · simp [h1, h2, h3, h4, h5]
        · simp [h1, h2, h3, h4]
      · simp [h1, h2, h3]
    · simp [h1, h2, show ¬ t ≤ 19 by omega]
  · simp [h1]

theorem holeOk_bounds {t a b : Int} (h : holeOk t a b = true) : 0 ≤ t ∧ t ≤ 19 ∧ 0 ≤ a ∧ a ≤ 1999 ∧ a < b ∧ b ≤ 2000 := by
  simpa [holeOk] using h

/-! slices of holes: copied, held against each other; valid sheets -/
def toH (x : S64) : S60 := ⟨x.f0, x.f1, x.f2⟩
theorem rdL_mid (pre suf : List S64) (x : S64) : rd_T64 (pre ++ x :: suf) (pre.length : Int) = x := getD_mid _ _ _ _ _ (by simp)
theorem rdH_mid (pre suf : List S60) (x : S60) : rd_T60 (pre ++ x :: suf) (pre.length : Int) = x := getD_mid _ _ _ _ _ (by simp)

theorem toHoleS_l0 (suf : List S64) : ∀ pre : List S64, (pre ++ suf).length ≤ 9223372036854775806 →
    Ev (fun k => laws_toHoleS.l0 k (pre ++ suf) (pre.map toH ++ List.replicate suf.length z60) (pre.length : Int)) ((pre ++ suf).map toH) := by
  induction suf with
  | nil =>
    intro pre _
    refine ev_step ev_const (fun k => ?_)
    rw [laws_toHoleS.l0, if_neg (by simp)]
    simp
  | cons x suf ih =>
    intro pre hl
    have h := ih (pre ++ [x]) (by simp at hl ⊢; omega)
    rw [snoc_app, snoc_leni, List.map_append, List.map_cons, List.map_nil, snoc_app] at h
    have hl' : (pre.length : Int) < ((pre ++ x :: suf).length : Int) := by simp; omega
    refine ev_step h (fun k => ?_)
    rw [laws_toHoleS.l0, if_pos hl', if_pos (by omega), rdL_mid]
    simp only [laws_toHole.f, Option.bind_some]
    rw [if_pos (by simp; omega), wrapS (by omega) (by simp at hl; omega), List.length_cons, List.replicate_succ, set_mid _ _ _ _ _ (by simp)]
    rfl

theorem toHoleS_copy (l : List S64) (h : l.length ≤ 1048576) : Ev (fun k => laws_toHoleS.f k l) (l.map toH) := by
  have := toHoleS_l0 l [] (by simp; omega)
  refine Ev.congr (fun k => ?_) this
  rw [laws_toHoleS.f, if_pos (by omega), if_pos (by omega)]
  simp

theorem eqHoleS_l0 (suf : List S60) : ∀ pre : List S60, (pre ++ suf).length ≤ 9223372036854775806 → Ev (fun k => laws_eqHoleS.l0 k (pre ++ suf) (pre ++ suf) (pre.length : Int)) true := by
  induction suf with
  | nil =>
    intro pre _
    refine ev_step ev_const (fun k => ?_)
    rw [laws_eqHoleS.l0, if_neg (by simp)]
  | cons x suf ih =>
    intro pre hl
    have h := ih (pre ++ [x]) (by simp at hl ⊢; omega)
    rw [snoc_app, snoc_leni] at h
    have hl' : (pre.length : Int) < ((pre ++ x :: suf).length : Int) := by simp; omega
    refine ev_step h (fun k => ?_)
    rw [laws_eqHoleS.l0, if_pos hl', if_pos (by omega), if_pos hl']
    simp only [laws_eqHole.f, if_true, Option.bind_some]
    rw [wrapS (by omega) (by simp at hl; omega)]

theorem eqHoleS_same (l : List S60) (h : l.length ≤ 9223372036854775806) : Ev (fun k => laws_eqHoleS.f k l l) true := by
  have := eqHoleS_l0 l [] (by simpa using h)
  refine Ev.congr (fun k => ?_) this
  simp [laws_eqHoleS.f]

theorem szHoleS_in (l : List S64) (n : Int) (hn : n ≤ 9223372036854775807) (h : (l.length : Int) ≤ n) : laws_szHoleS.f l n = some (n - l.length) := by
  have hw : wrap64 (n - l.length) = n - l.length := wrapS (by omega) (by omega)
  rw [laws_szHoleS.f, hw, if_neg (by omega)]
theorem szHoleS_out (l : List S64) (n : Int) (hn : 0 ≤ n) (hl : l.length ≤ 9223372036854775807) (h : n < (l.length : Int)) : laws_szHoleS.f l n = some (-1) := by
  have hw : wrap64 (n - l.length) = n - l.length := wrapS (by omega) (by omega)
  rw [laws_szHoleS.f, hw, if_pos (by omega)]

/-- The hole x meets the earlier hole y. -/
def meets (x y : S60) : Bool := decide (x.f0 = y.f0 ∧ x.f1 ≤ y.f2)
def before (a b : S60) : Bool := decide (a.f1 < b.f1 ∨ (a.f1 = b.f1 ∧ a.f0 < b.f0))
def lastBefore (pre : List S60) (x : S60) : Bool := match pre.getLast? with | none => true | some p => before p x
def goodAt (pre : List S60) (x : S60) : Bool := holeOk x.f0 x.f1 x.f2 && (lastBefore pre x && !(pre.any (meets x)))
def goodFrom : List S60 → List S60 → Bool
  | _, [] => true
  | pre, x :: suf => goodAt pre x && goodFrom (pre ++ [x]) suf
/-- A valid sheet. -/
def good (l : List S60) : Bool := goodFrom [] l && decide (l.length ≤ 60)

theorem shBefore_ok (a b : S60) : spec_shBefore.f a.f0 a.f1 a.f2 b.f0 b.f1 b.f2 = some (before a b) := by
  unfold spec_shBefore.f before
  by_cases h : a.f1 < b.f1
  · simp [h]
  · by_cases h1 : a.f1 = b.f1
    · simp [h1]
    · simp [h, h1]
theorem holeLess_ok (a b : S60) : impl_holeLess.f a.f0 a.f1 a.f2 b.f0 b.f1 b.f2 = some (before a b) := by
  unfold impl_holeLess.f before
  by_cases h1 : a.f1 = b.f1
  · simp [h1]
  · simp [h1]

theorem shGood_l1 (x : S60) (l : List S60) (n i : Int) (r : Bool) (suf : List S60) : ∀ pre : List S60, (pre ++ suf).length ≤ 9223372036854775806 →
    (suf.any (meets x) = true → r = false) → (suf.any (meets x) = false → Ev (fun k => spec_shGood.l0 k l l n (wrap64 (i + 1))) r) →
    Ev (fun k => spec_shGood.l1 k l l n i (pre ++ suf) ((pre ++ suf).length : Int) (pre.length : Int) x.f0 x.f1 x.f2) r := by
  induction suf with
  | nil =>
    intro pre _ _ h
    refine ev_step (h rfl) (fun k => ?_)
    rw [spec_shGood.l1, if_neg (by simp)]
  | cons y suf ih =>
    intro pre hl h1 h2
    have hl' : (pre.length : Int) < ((pre ++ y :: suf).length : Int) := by simp; omega
    have hw : wrap64 ((pre.length : Int) + 1) = (pre.length : Int) + 1 := wrapS (by omega) (by simp at hl; omega)
    by_cases hm : meets x y = true
    · have e : r = false := h1 (by simp [hm])
      subst e
      simp only [meets, decide_eq_true_eq] at hm
      refine ev_step ev_const (fun k => ?_)
      rw [spec_shGood.l1, if_pos hl', if_pos (by omega), if_pos hl', rdH_mid, if_pos hm.1, if_pos hm.2]
    · replace hm : meets x y = false := by simpa using hm
      have h := ih (pre ++ [y]) (by simp at hl ⊢; omega) (fun e => h1 (by simp [e])) (fun e => h2 (by simp [hm, e]))
      rw [snoc_app, snoc_leni] at h
      simp only [meets, decide_eq_false_iff_not] at hm
      refine ev_step h (fun k => ?_)
      rw [spec_shGood.l1, if_pos hl', if_pos (by omega), if_pos hl', rdH_mid, hw]
      by_cases e : x.f0 = y.f0
      · rw [if_pos e, if_neg (fun e2 => hm ⟨e, e2⟩)]
      · rw [if_neg e]

theorem shGood_j1 (x : S60) (pre suf : List S60) (n : Int) (b r : Bool) (hl : (pre ++ suf).length ≤ 9223372036854775806) (hb : b = true → r = false) (h1 : b = false → pre.any (meets x) = true → r = false)
    (h2 : b = false → pre.any (meets x) = false → Ev (fun k => spec_shGood.l0 k (pre ++ suf) (pre ++ suf) n (wrap64 ((pre.length : Int) + 1))) r) :
    Ev (fun k => spec_shGood.j1 k (pre ++ suf) (pre.length : Int) (pre ++ suf) n (pre.length : Int) b x.f0 x.f1 x.f2) r := by
  cases b with
  | true =>
    obtain rfl := hb rfl
    refine ev_step ev_const (fun k => ?_)
    rw [spec_shGood.j1, if_pos rfl]
  | false =>
    have h := shGood_l1 x (pre ++ suf) n (pre.length : Int) r pre [] (by simp at hl ⊢; omega) (h1 rfl) (h2 rfl)
    refine ev_step h (fun k => ?_)
    rw [spec_shGood.j1, if_neg (by decide), if_pos (by omega), if_pos (by simp; omega)]
    simp

theorem shGood_l0 (suf : List S60) : ∀ pre : List S60, (pre ++ suf).length ≤ 9223372036854775806 →
    Ev (fun k => spec_shGood.l0 k (pre ++ suf) (pre ++ suf) ((pre ++ suf).length : Int) (pre.length : Int)) (goodFrom pre suf && decide ((pre ++ suf).length ≤ 60)) := by
  induction suf with
  | nil =>
    intro pre _
    refine ev_step (Ev.now _) (fun k => ?_)
    rw [spec_shGood.l0, if_neg (by simp)]
    simp [goodFrom]
    omega
  | cons x suf ih =>
    intro pre hl
    have h := ih (pre ++ [x]) (by simp at hl ⊢; omega)
    rw [snoc_app, snoc_leni] at h
    have hl' : (pre.length : Int) < ((pre ++ x :: suf).length : Int) := by simp; omega
    have hw : wrap64 ((pre.length : Int) + 1) = (pre.length : Int) + 1 := wrapS (by omega) (by simp at hl; omega)
    have J : ∀ b, (b = !(holeOk x.f0 x.f1 x.f2 && lastBefore pre x)) → Ev (fun k => spec_shGood.j1 k (pre ++ x :: suf) (pre.length : Int) (pre ++ x :: suf) ((pre ++ x :: suf).length : Int) (pre.length : Int) b x.f0 x.f1 x.f2) (goodFrom pre (x :: suf) && decide ((pre ++ x :: suf).length ≤ 60)) := by
      intro b hb
      refine shGood_j1 x pre (x :: suf) _ b _ hl (fun e => ?_) (fun e e2 => ?_) (fun e e2 => ?_)
      · simp only [goodFrom, goodAt]
        cases h1 : holeOk x.f0 x.f1 x.f2 <;> cases h2 : lastBefore pre x <;> simp_all
      · simp [goodFrom, goodAt, e2]
      · rw [hw]
        have e3 : goodFrom pre (x :: suf) = goodFrom (pre ++ [x]) suf := by
          simp only [goodFrom, goodAt, e2]
          cases h1 : holeOk x.f0 x.f1 x.f2 <;> cases h2 : lastBefore pre x <;> simp_all
        rw [e3]
        exact h
    cases ho : holeOk x.f0 x.f1 x.f2 with
    | false =>
      refine ev_step (J true (by simp [ho])) (fun k => ?_)
      rw [spec_shGood.l0, if_pos hl', if_pos (by omega), if_pos hl', rdH_mid, shHole_ok, ho]
      simp
    | true =>
      rcases List.eq_nil_or_concat pre with rfl | ⟨pre', p, rfl⟩
      · refine ev_step (J false (by simp [ho, lastBefore])) (fun k => ?_)
        rw [spec_shGood.l0, if_pos hl', if_pos (by omega), if_pos hl', rdH_mid, shHole_ok, ho]
        simp
      · refine ev_step (J (!(before p x)) (by simp [ho, lastBefore])) (fun k => ?_)
        have e1 : ((pre' ++ [p]).length : Int) = (pre'.length : Int) + 1 := by simp
        have hw2 : wrap64 (((pre' ++ [p]).length : Int) - 1) = (pre'.length : Int) := by
          rw [e1, wrapS (by omega) (by simp at hl; omega)]; omega
        have e2 : rd_T60 (pre' ++ [p] ++ x :: suf) (pre'.length : Int) = p := by
          rw [snoc_app]; exact rdH_mid _ _ _
        rw [spec_shGood.l0, if_pos hl', if_pos (by omega), if_pos hl', rdH_mid, shHole_ok, ho]
        simp only [List.concat_eq_append] at *
        simp only [Option.bind_some, if_true]
        rw [if_pos (by omega), hw2, if_pos (by omega), if_pos (by simp; omega), e2, shBefore_ok]
        simp only [Option.bind_some]

theorem shGood_ok (l : List S60) (h : l.length ≤ 9223372036854775806) : Ev (fun k => spec_shGood.f k l) (good l) :=
  Ev.congr (fun _ => rfl) (shGood_l0 l [] (by simpa using h))

theorem isSheet_l1 (x : S60) (l : List S60) (n i : Int) (r : Bool) (suf : List S60) : ∀ pre : List S60, (pre ++ suf).length ≤ 9223372036854775806 →
    (suf.any (meets x) = true → r = false) → (suf.any (meets x) = false → Ev (fun k => impl_IsSheet.l0 k l l n (wrap64 (i + 1))) r) →
    Ev (fun k => impl_IsSheet.l1 k l l n i (pre ++ suf) ((pre ++ suf).length : Int) (pre.length : Int) x.f0 x.f1 x.f2) r := by
  induction suf with
  | nil =>
    intro pre _ _ h
    refine ev_step (h rfl) (fun k => ?_)
    rw [impl_IsSheet.l1, if_neg (by simp)]
  | cons y suf ih =>
    intro pre hl h1 h2
    have hl' : (pre.length : Int) < ((pre ++ y :: suf).length : Int) := by simp; omega
    have hw : wrap64 ((pre.length : Int) + 1) = (pre.length : Int) + 1 := wrapS (by omega) (by simp at hl; omega)
    by_cases hm : meets x y = true
    · have e : r = false := h1 (by simp [hm])
      subst e
      simp only [meets, decide_eq_true_eq] at hm
      refine ev_step ev_const (fun k => ?_)
      rw [impl_IsSheet.l1, if_pos hl', if_pos (by omega), if_pos hl', rdH_mid, if_pos hm.1.symm, if_pos hm.2]
    · replace hm : meets x y = false := by simpa using hm
      have h := ih (pre ++ [y]) (by simp at hl ⊢; omega) (fun e => h1 (by simp [e])) (fun e => h2 (by simp [hm, e]))
      rw [snoc_app, snoc_leni] at h
      simp only [meets, decide_eq_false_iff_not] at hm
      refine ev_step h (fun k => ?_)
      rw [impl_IsSheet.l1, if_pos hl', if_pos (by omega), if_pos hl', rdH_mid, hw]
      by_cases e : x.f0 = y.f0
      · rw [if_pos e.symm, if_neg (fun e2 => hm ⟨e, e2⟩)]
      · rw [if_neg (fun e2 => e e2.symm)]

theorem isSheet_j1 (x : S60) (pre suf : List S60) (n : Int) (b r : Bool) (hl : (pre ++ suf).length ≤ 9223372036854775806) (hb : b = true → r = false) (h1 : b = false → pre.any (meets x) = true → r = false)
    (h2 : b = false → pre.any (meets x) = false → Ev (fun k => impl_IsSheet.l0 k (pre ++ suf) (pre ++ suf) n (wrap64 ((pre.length : Int) + 1))) r) :
    Ev (fun k => impl_IsSheet.j1 k (pre ++ suf) (pre.length : Int) (pre ++ suf) n (pre.length : Int) b x.f0 x.f1 x.f2) r := by
  cases b with
  | true =>
    obtain rfl := hb rfl
    refine ev_step ev_const (fun k => ?_)
    rw [impl_IsSheet.j1, if_pos rfl]
  | false =>
    have h := isSheet_l1 x (pre ++ suf) n (pre.length : Int) r pre [] (by simp at hl ⊢; omega) (h1 rfl) (h2 rfl)
    refine ev_step h (fun k => ?_)
    rw [impl_IsSheet.j1, if_neg (by decide), if_pos (by omega), if_pos (by simp; omega)]
    simp

theorem isSheet_l0 (suf : List S60) : ∀ pre : List S60, (pre ++ suf).length ≤ 9223372036854775806 →
    Ev (fun k => impl_IsSheet.l0 k (pre ++ suf) (pre ++ suf) ((pre ++ suf).length : Int) (pre.length : Int)) (goodFrom pre suf) := by
  induction suf with
  | nil =>
    intro pre _
    refine ev_step (Ev.now _) (fun k => ?_)
    rw [impl_IsSheet.l0, if_neg (by simp)]
    simp [goodFrom]
  | cons x suf ih =>
    intro pre hl
    have h := ih (pre ++ [x]) (by simp at hl ⊢; omega)
    rw [snoc_app, snoc_leni] at h
    have hl' : (pre.length : Int) < ((pre ++ x :: suf).length : Int) := by simp; omega
    have hw : wrap64 ((pre.length : Int) + 1) = (pre.length : Int) + 1 := wrapS (by omega) (by simp at hl; omega)
    have J : ∀ b, (b = !(holeOk x.f0 x.f1 x.f2 && lastBefore pre x)) → Ev (fun k => impl_IsSheet.j1 k (pre ++ x :: suf) (pre.length : Int) (pre ++ x :: suf) ((pre ++ x :: suf).length : Int) (pre.length : Int) b x.f0 x.f1 x.f2) (goodFrom pre (x :: suf)) := by
      intro b hb
      refine isSheet_j1 x pre (x :: suf) _ b _ hl (fun e => ?_) (fun e e2 => ?_) (fun e e2 => ?_)
      · simp only [goodFrom, goodAt]
        cases h1 : holeOk x.f0 x.f1 x.f2 <;> cases h2 : lastBefore pre x <;> simp_all
      · simp [goodFrom, goodAt, e2]
      · rw [hw]
        have e3 : goodFrom pre (x :: suf) = goodFrom (pre ++ [x]) suf := by
          simp only [goodFrom, goodAt, e2]
          cases h1 : holeOk x.f0 x.f1 x.f2 <;> cases h2 : lastBefore pre x <;> simp_all
        rw [e3]
        exact h
    cases ho : holeOk x.f0 x.f1 x.f2 with
    | false =>
      refine ev_step (J true (by simp [ho])) (fun k => ?_)
      rw [impl_IsSheet.l0, if_pos hl', if_pos (by omega), if_pos hl', rdH_mid, isHole_ok, ho]
      simp
    | true =>
      rcases List.eq_nil_or_concat pre with rfl | ⟨pre', p, rfl⟩
      · refine ev_step (J false (by simp [ho, lastBefore])) (fun k => ?_)
        rw [impl_IsSheet.l0, if_pos hl', if_pos (by omega), if_pos hl', rdH_mid, isHole_ok, ho]
        simp
      · refine ev_step (J (!(before p x)) (by simp [ho, lastBefore])) (fun k => ?_)
        have e1 : ((pre' ++ [p]).length : Int) = (pre'.length : Int) + 1 := by simp
        have hw2 : wrap64 (((pre' ++ [p]).length : Int) - 1) = (pre'.length : Int) := by
          rw [e1, wrapS (by omega) (by simp at hl; omega)]; omega
        have e2 : rd_T60 (pre' ++ [p] ++ x :: suf) (pre'.length : Int) = p := by
          rw [snoc_app]; exact rdH_mid _ _ _
        rw [impl_IsSheet.l0, if_pos hl', if_pos (by omega), if_pos hl', rdH_mid, isHole_ok, ho]
        simp only [List.concat_eq_append] at *
        simp only [Option.bind_some, if_true]
        rw [if_pos (by omega), hw2, if_pos (by omega), if_pos (by simp; omega), e2, holeLess_ok]
        simp only [Option.bind_some]

theorem isSheet_ok (l : List S60) (h : l.length ≤ 9223372036854775806) : Ev (fun k => impl_IsSheet.f k l) (good l) := by
  by_cases h6 : (l.length : Int) > 60
  · refine Ev.congr (f := fun _ => some (good l)) (fun k => ?_) ev_const
    rw [impl_IsSheet.f, if_pos h6]
    have : ¬ l.length ≤ 60 := by omega
    simp [good, this]
  · refine Ev.congr (fun k => ?_) (ev_eq (isSheet_l0 l [] (by simpa using h)) ?_)
    · rw [impl_IsSheet.f, if_neg h6]
      rfl
    · have : l.length ≤ 60 := by omega
      simp [good, this]

/-! holes that are in one slice and not in the other -/
def sameH (x y : S60) : Bool := x.f0 == y.f0 && (x.f1 == y.f1 && (x.f2 == y.f2))
def hasH (l : List S60) (x : S60) : Bool := l.any (sameH x)
def less (l b : List S60) : List S60 := l.filter fun x => !hasH b x
theorem sameH_eq (x y : S60) : sameH x y = true ↔ x = y := by
  obtain ⟨a, b, c⟩ := x
  obtain ⟨d, e, f⟩ := y
  simp [sameH]
theorem hasH_mem (l : List S60) (x : S60) : hasH l x = true ↔ x ∈ l := by
  simp only [hasH, List.any_eq_true]
  constructor
  · rintro ⟨y, hy, h⟩; rw [(sameH_eq x y).1 h]; exact hy
  · intro h; exact ⟨x, h, (sameH_eq x x).2 rfl⟩
theorem less_len (l b : List S60) : (less l b).length ≤ l.length := List.length_filter_le _ _
theorem mgHas_l0 (x : S60) (suf : List S60) : ∀ pre : List S60, (pre ++ suf).length ≤ 1048576 →
    Ev (fun k => spec_mgHas.l0 k (pre ++ suf) ((pre ++ suf).length : Int) (pre.length : Int) x.f0 x.f1 x.f2) (hasH suf x) := by
  induction suf with
  | nil =>
    intro pre _
    refine ev_step (f := fun _ => some _) (Ev.now _) (fun k => ?_)
    rw [spec_mgHas.l0, if_neg (by simp)]; rfl
  | cons y suf ih =>
    intro pre hl
    have hlp : pre.length ≤ 1048576 := by simp at hl; omega
    have h := ih (pre ++ [y]) (by simp at hl ⊢; omega)
    rw [snoc_app, snoc_leni] at h
    have hl' : (pre.length : Int) < ((pre ++ y :: suf).length : Int) := by simp; omega
    have hw : wrap64 ((pre.length : Int) + 1) = (pre.length : Int) + 1 := wrapS (by omega) (by omega)
    cases c : sameH x y with
    | true =>
      refine ev_step (f := fun _ => some _) (Ev.now _) (fun k => ?_)
      rw [spec_mgHas.l0, if_pos hl', if_pos (by omega), if_pos hl', rdH_mid, if_pos (show (x.f0 == y.f0 && (x.f1 == y.f1 && (x.f2 == y.f2))) = true from c)]
      simp [hasH, c]
    | false =>
      refine ev_step (ev_eq h (by simp [hasH, c])) (fun k => ?_)
      rw [spec_mgHas.l0, if_pos hl', if_pos (by omega), if_pos hl', rdH_mid, if_neg (by rw [show (x.f0 == y.f0 && (x.f1 == y.f1 && (x.f2 == y.f2))) = false from c]; decide), hw]
theorem mgHas_ok (l : List S60) (x : S60) (h : l.length ≤ 1048576) : Ev (fun k => spec_mgHas.f k l x.f0 x.f1 x.f2) (hasH l x) :=
  Ev.congr (f := fun k => spec_mgHas.l0 k l (l.length : Int) 0 x.f0 x.f1 x.f2) (fun _ => rfl) (mgHas_l0 x l [] (by simpa using h))
theorem mgLess_l0 (b : List S60) (hb : b.length ≤ 1048576) (suf : List S60) : ∀ (pre out : List S60), (pre ++ suf).length ≤ 1048576 → out.length ≤ pre.length →
    Ev (fun k => spec_mgLess.l0 k b out (pre ++ suf) ((pre ++ suf).length : Int) (pre.length : Int)) (out ++ less suf b) := by
  induction suf with
  | nil =>
    intro pre out _ _
    refine ev_step (f := fun _ => some _) (Ev.now _) (fun k => ?_)
    rw [spec_mgLess.l0, if_neg (by simp)]; simp [less]
  | cons x suf ih =>
    intro pre out hl ho
    have hlp : pre.length ≤ 1048576 := by simp at hl; omega
    have hl' : (pre.length : Int) < ((pre ++ x :: suf).length : Int) := by simp; omega
    have hw : wrap64 ((pre.length : Int) + 1) = (pre.length : Int) + 1 := wrapS (by omega) (by omega)
    obtain ⟨K1, e1⟩ := mgHas_ok b x hb
    have h := ih (pre ++ [x]) (if hasH b x = true then out else out ++ [x]) (by simp at hl ⊢; omega) (by split <;> simp <;> omega)
    rw [snoc_app, snoc_leni] at h
    obtain ⟨K2, e2⟩ := h
    dsimp only at e1 e2
    refine ⟨K1 + K2 + 1, fun k hk => ?_⟩
    obtain ⟨m, rfl⟩ : ∃ m, k = m + 1 := ⟨k - 1, by omega⟩
    dsimp only
    rw [spec_mgLess.l0, if_pos hl', if_pos (by omega), if_pos hl', rdH_mid, e1 m (by omega)]
    simp only [Option.bind_some]
    rw [if_pos (show out.length < 5864062014805 by omega), hw]
    have e3 := e2 m (by omega)
    cases c : hasH b x with
    | true => rw [c] at e3; simp only [if_true] at e3 ⊢; rw [e3]; simp [less, c]
    | false => rw [c] at e3; simp only [Bool.false_eq_true, if_false] at e3 ⊢; rw [e3]; simp [less, c]
theorem mgLess_ok (l b : List S60) (h : l.length ≤ 1048576) (hb : b.length ≤ 1048576) : Ev (fun k => spec_mgLess.f k l b) (less l b) :=
  Ev.congr (f := fun k => spec_mgLess.l0 k b [] l (l.length : Int) 0) (fun _ => rfl) (ev_eq (mgLess_l0 b hb l [] [] (by simpa using h) (by simp)) (by simp))

theorem lessHoles_ok (l b : List S60) (h : l.length ≤ 1048576) : impl_lessHoles.f l b = some (less l b) := by
  rw [impl_lessHoles.f, if_pos (by omega)]; rfl

theorem mgTwo_ok (a b : List S60) (ha : a.length ≤ 1048576) (hb : b.length ≤ 1048576) : Ev (fun k => spec_mgTwo.f k a b) (good a && good b) := by
  obtain ⟨K1, e1⟩ := shGood_ok a (by omega)
  obtain ⟨K2, e2⟩ := shGood_ok b (by omega)
  dsimp only at e1 e2
  refine ⟨K1 + K2, fun k hk => ?_⟩
  dsimp only
  rw [spec_mgTwo.f, e1 k (by omega), e2 k (by omega)]
  cases good a <;> cases good b <;> rfl

/-! rows of rows of holes: held against each other -/
theorem rdHH_mid (pre suf : List (List S60)) (x : List S60) : rd_L3 (pre ++ x :: suf) (pre.length : Int) = x := getD_mid _ _ _ _ _ (by simp)
theorem eqHoleSS_l0 (suf : List (List S60)) : ∀ pre : List (List S60), (pre ++ suf).length ≤ 1048576 → (∀ x ∈ suf, x.length ≤ 1048576) →
    Ev (fun k => laws_eqHoleSS.l0 k (pre ++ suf) (pre ++ suf) (pre.length : Int)) true := by
  induction suf with
  | nil =>
    intro pre _ _
    refine ev_step ev_const (fun k => ?_)
    rw [laws_eqHoleSS.l0, if_neg (by simp)]
  | cons x suf ih =>
    intro pre hl hx
    have h := ih (pre ++ [x]) (by simp at hl ⊢; omega) (fun y hy => hx y (List.mem_cons_of_mem _ hy))
    rw [snoc_app, snoc_leni] at h
    have hl' : (pre.length : Int) < ((pre ++ x :: suf).length : Int) := by simp; omega
    have hlp : pre.length ≤ 1048576 := by simp at hl; omega
    have hw : wrap64 ((pre.length : Int) + 1) = (pre.length : Int) + 1 := wrapS (by omega) (by omega)
    obtain ⟨K1, e1⟩ := eqHoleS_same x (by have := hx x List.mem_cons_self; omega)
    obtain ⟨K2, e2⟩ := h
    dsimp only at e1 e2
    refine ⟨K1 + K2 + 1, fun k hk => ?_⟩
    obtain ⟨m, rfl⟩ : ∃ m, k = m + 1 := ⟨k - 1, by omega⟩
    dsimp only
    rw [laws_eqHoleSS.l0, if_pos hl', if_pos (by omega), if_pos hl', rdHH_mid, e1 m (by omega)]
    simp only [Option.bind_some, if_true]
    rw [hw]
    exact e2 m (by omega)
theorem eqHoleSS_same (l : List (List S60)) (h : l.length ≤ 1048576) (hx : ∀ x ∈ l, x.length ≤ 1048576) : Ev (fun k => laws_eqHoleSS.f k l l) true := by
  have := eqHoleSS_l0 l [] (by simpa using h) hx
  refine Ev.congr (fun k => ?_) this
  simp [laws_eqHoleSS.f]

/-! marks of holes -/
def mholes : Nat → Int → List S60
  | 0, _ => []
  | d + 1, a => (⟨a, a + 1, a + 1 + 1⟩ : S60) :: mholes d (a + 1 + 1 + 1)
theorem mholes_len (d : Nat) : ∀ a, (mholes d a).length = d := by
  induction d with
  | zero => intro a; rfl
  | succ d ih => intro a; simp [mholes, ih]
theorem markHoleS_l0 (suf : List S60) : ∀ (pre : List S60) (a : Int), (pre ++ suf).length ≤ 9000000 → 0 ≤ a → a ≤ 1000000000 + 3 * pre.length →
    Ev (fun k => laws_markHoleS.l0 k (pre ++ suf) a (pre.length : Int)) (a + 3 * suf.length, pre ++ mholes suf.length a) := by
  induction suf with
  | nil =>
    intro pre a _ _ _
    refine ev_step (f := fun _ => some _) (Ev.now _) (fun k => ?_)
    rw [laws_markHoleS.l0, if_neg (by simp)]; simp [mholes]
  | cons x suf ih =>
    intro pre a hl h0 h1
    have hlp : pre.length ≤ 9000000 := by simp at hl; omega
    have w1 : wrap64 (a + 1) = a + 1 := wrapS (by omega) (by omega)
    have w2 : wrap64 (a + 1 + 1) = a + 1 + 1 := wrapS (by omega) (by omega)
    have w3 : wrap64 (a + 1 + 1 + 1) = a + 1 + 1 + 1 := wrapS (by omega) (by omega)
    have w5 : wrap64 ((pre.length : Int) + 1) = (pre.length : Int) + 1 := wrapS (by omega) (by omega)
    have sR : ∀ y z : S60, (pre ++ y :: suf).set ((pre.length : Int)).toNat z = pre ++ z :: suf := fun y z => set_mid _ _ _ _ _ (by simp)
    have hl' : (pre.length : Int) < ((pre ++ x :: suf).length : Int) := by simp; omega
    have h := ih (pre ++ [(⟨a, a + 1, a + 1 + 1⟩ : S60)]) (a + 1 + 1 + 1) (by simp at hl ⊢; omega) (by omega) (by simp; omega)
    rw [snoc_app, snoc_app, snoc_leni] at h
    refine ev_step (ev_eq h ?_) (fun k => ?_)
    · simp only [mholes, List.length_cons]
      congr 1
      omega
    · rw [laws_markHoleS.l0, if_pos hl', if_pos (by omega)]
      simp only [rdH_mid, sR, w1, w2, w3, w5, Option.bind_some]
theorem markHoleS_all (l : List S60) (a : Int) (hl : l.length ≤ 9000000) (h0 : 0 ≤ a) (h1 : a ≤ 1000000000) : Ev (fun k => laws_markHoleS.f k l a) (a + 3 * l.length, mholes l.length a) :=
  Ev.congr (f := fun k => laws_markHoleS.l0 k l a 0) (fun _ => rfl) (by simpa using markHoleS_l0 l [] a (by simpa using hl) h0 (by simpa using h1))
theorem heldHoleS_l0 (d : Nat) : ∀ (pre : List S60) (a : Int), pre.length + d ≤ 9000000 → 0 ≤ a → a ≤ 1000000000 + 3 * pre.length →
    Ev (fun k => laws_heldHoleS.l0 k (pre ++ mholes d a) a (pre.length : Int)) (a + 3 * d) := by
  induction d with
  | zero =>
    intro pre a _ _ _
    refine ev_step (f := fun _ => some _) (Ev.now _) (fun k => ?_)
    rw [laws_heldHoleS.l0, if_neg (by simp [mholes])]; simp
  | succ d ih =>
    intro pre a hl h0 h1
    have w1 : wrap64 (a + 1) = a + 1 := wrapS (by omega) (by omega)
    have w2 : wrap64 (a + 1 + 1) = a + 1 + 1 := wrapS (by omega) (by omega)
    have w3 : wrap64 (a + 1 + 1 + 1) = a + 1 + 1 + 1 := wrapS (by omega) (by omega)
    have w5 : wrap64 ((pre.length : Int) + 1) = (pre.length : Int) + 1 := wrapS (by omega) (by omega)
    have h := ih (pre ++ [(⟨a, a + 1, a + 1 + 1⟩ : S60)]) (a + 1 + 1 + 1) (by simp; omega) (by omega) (by simp; omega)
    rw [snoc_app, snoc_leni] at h
    have hl' : (pre.length : Int) < ((pre ++ mholes (d + 1) a).length : Int) := by simp [mholes_len]; omega
    refine ev_step (ev_eq h (by omega)) (fun k => ?_)
    rw [laws_heldHoleS.l0, if_pos hl', if_pos (by omega)]
    simp only [mholes, rdH_mid, w1, w2, w3, w5, if_true]
theorem heldHoleS_all (d : Nat) (a : Int) (hl : d ≤ 9000000) (h0 : 0 ≤ a) (h1 : a ≤ 1000000000) : Ev (fun k => laws_heldHoleS.f k (mholes d a) a) (a + 3 * d) :=
  Ev.congr (f := fun k => laws_heldHoleS.l0 k (mholes d a) a 0) (fun _ => rfl) (by simpa using heldHoleS_l0 d [] a (by simpa using hl) h0 (by simpa using h1))

/-! marks of rows of rows of holes -/
def tot : List (List S60) → Int
  | [] => 0
  | x :: l => (x.length : Int) + tot l
theorem tot_nn (l : List (List S60)) : 0 ≤ tot l := by
  induction l with
  | nil => exact Int.le_refl _
  | cons x l ih => rw [tot]; omega
def marksSS : List (List S60) → Int → List (List S60)
  | [], _ => []
  | x :: l, a => mholes x.length a :: marksSS l (a + 3 * x.length)
theorem marksSS_len (l : List (List S60)) : ∀ a, (marksSS l a).length = l.length := by
  induction l with
  | nil => intro a; rfl
  | cons x l ih => intro a; simp [marksSS, ih]
theorem markHoleSS_l0 (suf : List (List S60)) : ∀ (pre : List (List S60)) (a : Int), (pre ++ suf).length ≤ 9000000 → 0 ≤ a → a + 3 * tot suf ≤ 20000000 → (∀ x ∈ suf, x.length ≤ 9000000) →
    Ev (fun k => laws_markHoleSS.l0 k (pre ++ suf) a (pre.length : Int)) (a + 3 * tot suf, pre ++ marksSS suf a) := by
  induction suf with
  | nil =>
    intro pre a _ _ _ _
    refine ev_step (f := fun _ => some _) (Ev.now _) (fun k => ?_)
    rw [laws_markHoleSS.l0, if_neg (by simp)]; simp [tot, marksSS]
  | cons x suf ih =>
    intro pre a hl h0 h1 hx
    rw [tot] at h1
    have ht := tot_nn suf
    have hlp : pre.length + 1 ≤ 9000000 := by simp at hl; omega
    have hl' : (pre.length : Int) < ((pre ++ x :: suf).length : Int) := by simp; omega
    have hw : wrap64 ((pre.length : Int) + 1) = (pre.length : Int) + 1 := wrapS (by omega) (by omega)
    have hg : (pre ++ x :: suf).getD ((pre.length : Int)).toNat [] = x := getD_mid _ _ _ _ _ (by simp)
    have hs : ∀ y, (pre ++ x :: suf).set ((pre.length : Int)).toNat y = pre ++ y :: suf := fun y => set_mid _ _ _ _ _ (by simp)
    obtain ⟨K1, e1⟩ := markHoleS_all x a (hx x List.mem_cons_self) h0 (by omega)
    have h := ih (pre ++ [mholes x.length a]) (a + 3 * x.length) (by simp at hl ⊢; omega) (by omega) (by omega) (fun y hy => hx y (List.mem_cons_of_mem _ hy))
    rw [snoc_app, snoc_app, snoc_leni] at h
    obtain ⟨K2, e2⟩ := h
    dsimp only at e1 e2
    have et : a + 3 * tot (x :: suf) = a + 3 * (x.length : Int) + 3 * tot suf := by rw [tot]; omega
    refine ⟨K1 + K2 + 1, fun k hk => ?_⟩
    obtain ⟨m, rfl⟩ : ∃ m, k = m + 1 := ⟨k - 1, by omega⟩
    dsimp only
    rw [laws_markHoleSS.l0, if_pos hl', if_pos (by omega), hg, e1 m (by omega)]
    simp only [Option.bind_some]
    rw [hs, hw, e2 m (by omega), et]; rfl
theorem markHoleSS_all (l : List (List S60)) (a : Int) (hl : l.length ≤ 9000000) (h0 : 0 ≤ a) (h1 : a + 3 * tot l ≤ 20000000) (hx : ∀ x ∈ l, x.length ≤ 9000000) : Ev (fun k => laws_markHoleSS.f k l a) (a + 3 * tot l, marksSS l a) :=
  Ev.congr (f := fun k => laws_markHoleSS.l0 k l a 0) (fun _ => rfl) (by simpa using markHoleSS_l0 l [] a (by simpa using hl) h0 h1 hx)
theorem heldHoleSS_l0 (suf : List (List S60)) : ∀ (pre : List (List S60)) (a : Int), (pre ++ suf).length ≤ 9000000 → 0 ≤ a → a + 3 * tot suf ≤ 20000000 → (∀ x ∈ suf, x.length ≤ 9000000) →
    Ev (fun k => laws_heldHoleSS.l0 k (pre ++ marksSS suf a) a (pre.length : Int)) (a + 3 * tot suf) := by
  induction suf with
  | nil =>
    intro pre a _ _ _ _
    refine ev_step (f := fun _ => some _) (Ev.now _) (fun k => ?_)
    rw [laws_heldHoleSS.l0, if_neg (by simp [marksSS])]; simp [tot]
  | cons x suf ih =>
    intro pre a hl h0 h1 hx
    rw [tot] at h1
    have ht := tot_nn suf
    have hlp : pre.length + 1 ≤ 9000000 := by simp at hl; omega
    have hl' : (pre.length : Int) < ((pre ++ marksSS (x :: suf) a).length : Int) := by simp [marksSS_len]; omega
    have hw : wrap64 ((pre.length : Int) + 1) = (pre.length : Int) + 1 := wrapS (by omega) (by omega)
    obtain ⟨K1, e1⟩ := heldHoleS_all x.length a (hx x List.mem_cons_self) h0 (by omega)
    have h := ih (pre ++ [mholes x.length a]) (a + 3 * x.length) (by simp at hl ⊢; omega) (by omega) (by omega) (fun y hy => hx y (List.mem_cons_of_mem _ hy))
    rw [snoc_app, snoc_leni] at h
    obtain ⟨K2, e2⟩ := h
    dsimp only at e1 e2
    have et : a + 3 * tot (x :: suf) = a + 3 * (x.length : Int) + 3 * tot suf := by rw [tot]; omega
    refine ⟨K1 + K2 + 1, fun k hk => ?_⟩
    obtain ⟨m, rfl⟩ : ∃ m, k = m + 1 := ⟨k - 1, by omega⟩
    dsimp only
    have q2 := e2 m (by omega)
    rw [laws_heldHoleSS.l0, if_pos hl', if_pos (by omega), marksSS, rdHH_mid, e1 m (by omega)]
    simp only [Option.bind_some]
    rw [if_neg (by omega), hw, q2, et]
theorem heldHoleSS_all (l : List (List S60)) (a : Int) (hl : l.length ≤ 9000000) (h0 : 0 ≤ a) (h1 : a + 3 * tot l ≤ 20000000) (hx : ∀ x ∈ l, x.length ≤ 9000000) : Ev (fun k => laws_heldHoleSS.f k (marksSS l a) a) (a + 3 * tot l) :=
  Ev.congr (f := fun k => laws_heldHoleSS.l0 k (marksSS l a) a 0) (fun _ => rfl) (by simpa using heldHoleSS_l0 l [] a (by simpa using hl) h0 h1 hx)

/-! the holes that clash -/
def clashB (x y : S60) : Bool := (spec_mgClash.f x.f0 x.f1 x.f2 y.f0 y.f1 y.f2).getD false
theorem specclash_ok (x y : S60) : spec_mgClash.f x.f0 x.f1 x.f2 y.f0 y.f1 y.f2 = some (clashB x y) := by
  unfold clashB spec_mgClash.f
  repeat' split
  all_goals rfl
theorem implclash_ok (x y : S60) : impl_clash.f x.f0 x.f1 x.f2 y.f0 y.f1 y.f2 = some (clashB x y) := (show impl_clash.f x.f0 x.f1 x.f2 y.f0 y.f1 y.f2 = spec_mgClash.f x.f0 x.f1 x.f2 y.f0 y.f1 y.f2 from rfl).trans (specclash_ok x y)
def rowOf (x : S60) : List S60 → List (List S60)
  | [] => []
  | y :: l => if clashB x y = true then [x, y] :: rowOf x l else rowOf x l
theorem rowOf_len (x : S60) (l : List S60) : (rowOf x l).length ≤ l.length := by
  induction l with
  | nil => simp [rowOf]
  | cons y l ih =>
    rw [rowOf]
    by_cases c : clashB x y = true
    · rw [if_pos c]; simp; omega
    · rw [if_neg c]; simp; omega
theorem rowOf_two (x : S60) (l : List S60) : ∀ z ∈ rowOf x l, z.length = 2 := by
  induction l with
  | nil => intro z hz; simp [rowOf] at hz
  | cons y l ih =>
    intro z hz
    rw [rowOf] at hz
    by_cases c : clashB x y = true
    · rw [if_pos c] at hz
      rcases List.mem_cons.1 hz with rfl | hz
      · rfl
      · exact ih z hz
    · rw [if_neg c] at hz; exact ih z hz
def pairsOf (ys : List S60) : List S60 → List (List S60)
  | [] => []
  | x :: l => rowOf x ys ++ pairsOf ys l
theorem pairsOf_len (ys l : List S60) (hy : ys.length ≤ 60) : (pairsOf ys l).length ≤ 60 * l.length := by
  induction l with
  | nil => simp [pairsOf]
  | cons x l ih =>
    have := rowOf_len x ys
    rw [pairsOf, List.length_append, List.length_cons]; omega
theorem pairsOf_two (ys l : List S60) : ∀ z ∈ pairsOf ys l, z.length = 2 := by
  induction l with
  | nil => intro z hz; simp [pairsOf] at hz
  | cons x l ih =>
    intro z hz
    rw [pairsOf] at hz
    rcases List.mem_append.1 hz with h | h
    · exact rowOf_two x ys z h
    · exact ih z h
theorem tot_two (l : List (List S60)) (h : ∀ z ∈ l, z.length = 2) : tot l = 2 * l.length := by
  induction l with
  | nil => rfl
  | cons x l ih =>
    rw [tot, ih (fun z hz => h z (List.mem_cons_of_mem _ hz)), h x List.mem_cons_self]
    simp; omega
theorem good60 {l : List S60} (h : good l = true) : l.length ≤ 60 := by
  unfold good at h
  exact of_decide_eq_true (Bool.and_eq_true_iff.1 h).2
def clashR (o a b : List S60) : List (List S60) × Bool := if (good o && (good a && good b)) = true then (pairsOf (less b o) (less a o), true) else ([], false)
theorem clashR_spec (o a b : List S60) : (clashR o a b).1.length ≤ 3600 ∧ ∀ z ∈ (clashR o a b).1, z.length = 2 := by
  unfold clashR
  by_cases c : (good o && (good a && good b)) = true
  · rw [if_pos c]
    obtain ⟨_, c2⟩ := Bool.and_eq_true_iff.1 c
    obtain ⟨ca, cb⟩ := Bool.and_eq_true_iff.1 c2
    have h1 := good60 ca
    have h2 := good60 cb
    have h3 := less_len a o
    have h4 := less_len b o
    have h5 := pairsOf_len (less b o) (less a o) (by omega)
    exact ⟨by simp only; omega, pairsOf_two _ _⟩
  · rw [if_neg c]; exact ⟨by simp, fun z hz => by simp at hz⟩
theorem specClash_l1 (x0 x2 : List S60) (xs : List S60) (i : Nat) (hi : i + 1 ≤ 1048576) (x : S60) (R : List (List S60) × Bool) (suf : List S60) : ∀ (pre : List S60) (out : List (List S60)), (pre ++ suf).length ≤ 1048576 → out.length + suf.length ≤ 1000000000 →
    Ev (fun k => spec_ClashingHoles.l0 k x0 x2 (out ++ rowOf x suf) xs (xs.length : Int) ((i : Int) + 1)) R →
    Ev (fun k => spec_ClashingHoles.l1 k x0 x2 out xs (xs.length : Int) (i : Int) (pre ++ suf) ((pre ++ suf).length : Int) (pre.length : Int) x.f0 x.f1 x.f2) R := by
  induction suf with
  | nil =>
    intro pre out hl ho h
    rw [rowOf, List.append_nil] at h
    have hw : wrap64 ((i : Int) + 1) = (i : Int) + 1 := wrapS (by omega) (by omega)
    refine ev_step h (fun k => ?_)
    rw [spec_ClashingHoles.l1, if_neg (by simp), hw]
  | cons y suf ih =>
    intro pre out hl ho h
    have hlp : pre.length + 1 ≤ 1048576 := by simp at hl; omega
    have hl' : (pre.length : Int) < ((pre ++ y :: suf).length : Int) := by simp; omega
    have hw : wrap64 ((pre.length : Int) + 1) = (pre.length : Int) + 1 := wrapS (by omega) (by omega)
    simp only [List.length_cons] at ho
    rw [rowOf] at h
    by_cases c : clashB x y = true
    · rw [if_pos c] at h
      have h2 := ih (pre ++ [y]) (out ++ [[x, y]]) (by simp at hl ⊢; omega) (by simp; omega) (by rw [List.append_assoc]; exact h)
      rw [snoc_app, snoc_leni] at h2
      refine ev_step h2 (fun k => ?_)
      rw [spec_ClashingHoles.l1, if_pos hl', if_pos (by omega), if_pos hl', rdH_mid, specclash_ok x y, c]
      simp only [Option.bind_some, if_true]
      rw [if_pos (by omega), hw]
    · rw [if_neg c] at h
      have h2 := ih (pre ++ [y]) out (by simp at hl ⊢; omega) (by omega) h
      rw [snoc_app, snoc_leni] at h2
      have c2 : clashB x y = false := by simpa using c
      refine ev_step h2 (fun k => ?_)
      rw [spec_ClashingHoles.l1, if_pos hl', if_pos (by omega), if_pos hl', rdH_mid, specclash_ok x y, c2]
      simp only [Option.bind_some, Bool.false_eq_true, if_false]
      rw [hw]
theorem specClash_l0 (x0 x2 : List S60) (h0 : x0.length ≤ 1048576) (h2 : x2.length ≤ 60) (suf : List S60) : ∀ (pre : List S60) (out : List (List S60)), (pre ++ suf).length ≤ 1048576 → out.length + 60 * suf.length ≤ 100000000 →
    Ev (fun k => spec_ClashingHoles.l0 k x0 x2 out (pre ++ suf) ((pre ++ suf).length : Int) (pre.length : Int)) (out ++ pairsOf (less x2 x0) suf, true) := by
  induction suf with
  | nil =>
    intro pre out hl ho
    refine ev_step (f := fun _ => some _) (Ev.now _) (fun k => ?_)
    rw [spec_ClashingHoles.l0, if_neg (by simp), pairsOf, List.append_nil]
  | cons x suf ih =>
    intro pre out hl ho
    simp only [List.length_cons] at ho
    have hlp : pre.length + 1 ≤ 1048576 := by simp at hl; omega
    have hl' : (pre.length : Int) < ((pre ++ x :: suf).length : Int) := by simp; omega
    have hys := less_len x2 x0
    have hr := rowOf_len x (less x2 x0)
    have h := ih (pre ++ [x]) (out ++ rowOf x (less x2 x0)) (by simp at hl ⊢; omega) (by simp; omega)
    rw [snoc_app, snoc_leni] at h
    have h1 := specClash_l1 x0 x2 (pre ++ x :: suf) pre.length hlp x _ (less x2 x0) [] out (by simp; omega) (by omega) h
    simp only [List.nil_append, List.length_nil, Int.natCast_zero] at h1
    obtain ⟨K2, e2⟩ := h1
    dsimp only at e2
    obtain ⟨K1, e1⟩ := mgLess_ok x2 x0 (by omega) h0
    dsimp only at e1
    refine ⟨K1 + K2 + 1, fun k hk => ?_⟩
    obtain ⟨m, rfl⟩ : ∃ m, k = m + 1 := ⟨k - 1, by omega⟩
    dsimp only
    rw [spec_ClashingHoles.l0, if_pos hl', if_pos (by omega), if_pos hl', rdH_mid, e1 m (by omega)]
    simp only [Option.bind_some]
    rw [e2 m (by omega), pairsOf, List.append_assoc]
theorem implClash_l1 (x0 x2 : List S60) (xs : List S60) (i : Nat) (hi : i + 1 ≤ 1048576) (x : S60) (R : List (List S60) × Bool) (suf : List S60) : ∀ (pre : List S60) (out : List (List S60)), (pre ++ suf).length ≤ 1048576 → out.length + suf.length ≤ 1000000000 →
    Ev (fun k => impl_ClashingHoles.l0 k x0 x2 (out ++ rowOf x suf) xs (xs.length : Int) ((i : Int) + 1)) R →
    Ev (fun k => impl_ClashingHoles.l1 k x0 x2 out xs (xs.length : Int) (i : Int) (pre ++ suf) ((pre ++ suf).length : Int) (pre.length : Int) x.f0 x.f1 x.f2) R := by
  induction suf with
  | nil =>
    intro pre out hl ho h
    rw [rowOf, List.append_nil] at h
    have hw : wrap64 ((i : Int) + 1) = (i : Int) + 1 := wrapS (by omega) (by omega)
    refine ev_step h (fun k => ?_)
    rw [impl_ClashingHoles.l1, if_neg (by simp), hw]
  | cons y suf ih =>
    intro pre out hl ho h
    have hlp : pre.length + 1 ≤ 1048576 := by simp at hl; omega
    have hl' : (pre.length : Int) < ((pre ++ y :: suf).length : Int) := by simp; omega
    have hw : wrap64 ((pre.length : Int) + 1) = (pre.length : Int) + 1 := wrapS (by omega) (by omega)
    simp only [List.length_cons] at ho
    rw [rowOf] at h
    by_cases c : clashB x y = true
    · rw [if_pos c] at h
      have h2 := ih (pre ++ [y]) (out ++ [[x, y]]) (by simp at hl ⊢; omega) (by simp; omega) (by rw [List.append_assoc]; exact h)
      rw [snoc_app, snoc_leni] at h2
      refine ev_step h2 (fun k => ?_)
      rw [impl_ClashingHoles.l1, if_pos hl', if_pos (by omega), if_pos hl', rdH_mid, implclash_ok x y, c]
      simp only [Option.bind_some, if_true]
      rw [if_pos (by omega), hw]
    · rw [if_neg c] at h
      have h2 := ih (pre ++ [y]) out (by simp at hl ⊢; omega) (by omega) h
      rw [snoc_app, snoc_leni] at h2
      have c2 : clashB x y = false := by simpa using c
      refine ev_step h2 (fun k => ?_)
      rw [impl_ClashingHoles.l1, if_pos hl', if_pos (by omega), if_pos hl', rdH_mid, implclash_ok x y, c2]
      simp only [Option.bind_some, Bool.false_eq_true, if_false]
      rw [hw]
theorem implClash_l0 (x0 x2 : List S60) (h0 : x0.length ≤ 1048576) (h2 : x2.length ≤ 60) (suf : List S60) : ∀ (pre : List S60) (out : List (List S60)), (pre ++ suf).length ≤ 1048576 → out.length + 60 * suf.length ≤ 100000000 →
    Ev (fun k => impl_ClashingHoles.l0 k x0 x2 out (pre ++ suf) ((pre ++ suf).length : Int) (pre.length : Int)) (out ++ pairsOf (less x2 x0) suf, true) := by
  induction suf with
  | nil =>
    intro pre out hl ho
    refine ev_step (f := fun _ => some _) (Ev.now _) (fun k => ?_)
    rw [impl_ClashingHoles.l0, if_neg (by simp), pairsOf, List.append_nil]
  | cons x suf ih =>
    intro pre out hl ho
    simp only [List.length_cons] at ho
    have hlp : pre.length + 1 ≤ 1048576 := by simp at hl; omega
    have hl' : (pre.length : Int) < ((pre ++ x :: suf).length : Int) := by simp; omega
    have hys := less_len x2 x0
    have hr := rowOf_len x (less x2 x0)
    have h := ih (pre ++ [x]) (out ++ rowOf x (less x2 x0)) (by simp at hl ⊢; omega) (by simp; omega)
    rw [snoc_app, snoc_leni] at h
    have h1 := implClash_l1 x0 x2 (pre ++ x :: suf) pre.length hlp x _ (less x2 x0) [] out (by simp; omega) (by omega) h
    simp only [List.nil_append, List.length_nil, Int.natCast_zero] at h1
    obtain ⟨K2, e2⟩ := h1
    dsimp only at e2
    refine ⟨K2 + 1, fun k hk => ?_⟩
    obtain ⟨m, rfl⟩ : ∃ m, k = m + 1 := ⟨k - 1, by omega⟩
    dsimp only
    rw [impl_ClashingHoles.l0, if_pos hl', if_pos (by omega), if_pos hl', rdH_mid, lessHoles_ok x2 x0 (by omega)]
    simp only [Option.bind_some]
    rw [e2 m (by omega), pairsOf, List.append_assoc]
theorem specClash_ok (o a b : List S60) (ho : o.length ≤ 1048576) (ha : a.length ≤ 1048576) (hb : b.length ≤ 1048576) : Ev (fun k => spec_ClashingHoles.f k o a b) (clashR o a b) := by
  have h3 : Ev (fun k => spec_mgThree.f k o a b) (good o && (good a && good b)) := by
    refine Ev.bind (shGood_ok o (by omega)) ?_
    cases good o with
    | false => exact ev_of_eq (fun _ => rfl)
    | true =>
      simp only [if_true, Bool.true_and]
      exact Ev.bind (mgTwo_ok a b ha hb) (ev_of_eq (fun _ => rfl))
  refine Ev.bind h3 ?_
  cases g : (good o && (good a && good b)) with
  | false => exact ev_of_eq (fun _ => by simp only [clashR, g, Bool.false_eq_true, if_false])
  | true =>
    simp only [if_true]
    obtain ⟨_, c2⟩ := Bool.and_eq_true_iff.1 g
    obtain ⟨ca, cb⟩ := Bool.and_eq_true_iff.1 c2
    have h1 := good60 ca
    have h2 := good60 cb
    have h4 := less_len a o
    refine Ev.bind (mgLess_ok a o ha ho) ?_
    have h := specClash_l0 o b ho h2 (less a o) [] [] (by simp; omega) (by simp; omega)
    simp only [List.nil_append, List.length_nil, Int.natCast_zero] at h
    exact ev_eq h (by simp only [clashR, g, if_true])
theorem implClash_ok (o a b : List S60) (ho : o.length ≤ 1048576) (ha : a.length ≤ 1048576) (hb : b.length ≤ 1048576) : Ev (fun k => impl_ClashingHoles.f k o a b) (clashR o a b) := by
  have no : ∀ z : Bool, z = true → clashR o a b = ([], false) → Ev (fun k => impl_ClashingHoles.j0 k o a b z) (clashR o a b) := fun z hz g => by
    rw [hz, g]
    refine ev_step (f := fun _ => some _) (Ev.now _) (fun k => ?_)
    rw [impl_ClashingHoles.j0, if_pos rfl]
  refine Ev.bind (isSheet_ok o (by omega)) ?_
  cases g0 : good o with
  | false => simp only [Bool.false_eq_true, if_false]; exact no true rfl (by simp [clashR, g0])
  | true =>
    simp only [if_true]
    refine Ev.bind (isSheet_ok a (by omega)) ?_
    cases g1 : good a with
    | false => simp only [Bool.false_eq_true, if_false]; exact no true rfl (by simp [clashR, g1])
    | true =>
      simp only [if_true]
      refine Ev.bind (isSheet_ok b (by omega)) ?_
      cases g2 : good b with
      | false => exact no _ rfl (by simp [clashR, g2])
      | true =>
        have h1 := good60 g1
        have h2 := good60 g2
        have h4 := less_len a o
        have h := implClash_l0 o b ho h2 (less a o) [] [] (by simp; omega) (by simp; omega)
        simp only [List.nil_append, List.length_nil, Int.natCast_zero] at h
        refine ev_step (ev_eq h (by simp only [clashR, g0, g1, g2, Bool.and_self, if_true])) (fun k => ?_)
        rw [impl_ClashingHoles.j0, if_neg (by decide), lessHoles_ok a o ha]
        simp only [Option.bind_some]
theorem FnExactClashingHoles (o l p : List S64) (ob : o.length * 24 ≤ 140737488351232) (ow : ∀ y ∈ o, ((Lit.int .i64 y.f0).wf = true) ∧ ((Lit.int .i64 y.f1).wf = true) ∧ ((Lit.int .i64 y.f2).wf = true)) (hb : l.length * 24 ≤ 140737488351232) (hw : ∀ y ∈ l, ((Lit.int .i64 y.f0).wf = true) ∧ ((Lit.int .i64 y.f1).wf = true) ∧ ((Lit.int .i64 y.f2).wf = true)) (hpb : p.length * 24 ≤ 140737488351232) (hpw : ∀ y ∈ p, ((Lit.int .i64 y.f0).wf = true) ∧ ((Lit.int .i64 y.f1).wf = true) ∧ ((Lit.int .i64 y.f2).wf = true)) : ∃ k, laws_FnExactClashingHoles.f k o l p = some true := by
  have m1 : (-1 : Int) < 0 := by omega
  by_cases b0 : 1048576 < (o.length : Int)
  · exact ⟨0, by simp only [laws_FnExactClashingHoles.f, szHoleS_out o 1048576 (by omega) (by omega) b0, Option.bind_some, m1, if_true]⟩
  have y0 := szHoleS_in o 1048576 (by omega) (by omega)
  have q0 : ¬ (1048576 - (o.length : Int)) < 0 := by omega
  by_cases c : 1048576 - (o.length : Int) < (l.length : Int)
  · exact ⟨0, by simp only [laws_FnExactClashingHoles.f, y0, q0, szHoleS_out l (1048576 - o.length) (by omega) (by omega) c, Option.bind_some, m1, if_true, if_false]⟩
  have z0 := szHoleS_in l (1048576 - o.length) (by omega) (by omega)
  have n0 : ¬ (1048576 - (o.length : Int) - (l.length : Int)) < 0 := by omega
  by_cases d : 1048576 - (o.length : Int) - (l.length : Int) < (p.length : Int)
  · exact ⟨0, by simp only [laws_FnExactClashingHoles.f, y0, q0, z0, n0, szHoleS_out p (1048576 - o.length - l.length) (by omega) (by omega) d, Option.bind_some, m1, if_true, if_false]⟩
  have z1 := szHoleS_in p (1048576 - o.length - l.length) (by omega) (by omega)
  have n1 : ¬ (1048576 - (o.length : Int) - (l.length : Int) - (p.length : Int)) < 0 := by omega
  have ho : o.length ≤ 1048576 := by omega
  have hl : l.length ≤ 1048576 := by omega
  have hp : p.length ≤ 1048576 := by omega
  have ho2 : (o.map toH).length ≤ 1048576 := by simpa using ho
  have hl2 : (l.map toH).length ≤ 1048576 := by simpa using hl
  have hp2 : (p.map toH).length ≤ 1048576 := by simpa using hp
  obtain ⟨hr, h2⟩ := clashR_spec (o.map toH) (l.map toH) (p.map toH)
  have ht := tot_two _ h2
  have hx : ∀ z ∈ (clashR (o.map toH) (l.map toH) (p.map toH)).1, z.length ≤ 9000000 := fun z hz => by have := h2 z hz; omega
  have hx2 : ∀ z ∈ (clashR (o.map toH) (l.map toH) (p.map toH)).1, z.length ≤ 1048576 := fun z hz => by have := h2 z hz; omega
  obtain ⟨K0, e0⟩ := toHoleS_copy o ho
  obtain ⟨K1, e1⟩ := toHoleS_copy l hl
  obtain ⟨K2, e2⟩ := toHoleS_copy p hp
  obtain ⟨K3, e3⟩ := specClash_ok (o.map toH) (l.map toH) (p.map toH) ho2 hl2 hp2
  obtain ⟨K4, e4⟩ := implClash_ok (o.map toH) (l.map toH) (p.map toH) ho2 hl2 hp2
  obtain ⟨K5, e5⟩ := eqHoleS_same (o.map toH) (by omega)
  obtain ⟨K6, e6⟩ := eqHoleS_same (l.map toH) (by omega)
  obtain ⟨K7, e7⟩ := eqHoleS_same (p.map toH) (by omega)
  obtain ⟨K8, e8⟩ := eqHoleSS_same (clashR (o.map toH) (l.map toH) (p.map toH)).1 (by omega) hx2
  obtain ⟨K9, e9⟩ := markHoleS_all (o.map toH) 1 (by omega) (by omega) (by omega)
  obtain ⟨K10, e10⟩ := markHoleS_all (l.map toH) (1 + 3 * ((o.map toH).length : Int)) (by omega) (by omega) (by omega)
  obtain ⟨K11, e11⟩ := markHoleS_all (p.map toH) (1 + 3 * ((o.map toH).length : Int) + 3 * ((l.map toH).length : Int)) (by omega) (by omega) (by omega)
  obtain ⟨K12, e12⟩ := markHoleSS_all (clashR (o.map toH) (l.map toH) (p.map toH)).1 1 (by omega) (by omega) (by omega) hx
  obtain ⟨K13, e13⟩ := heldHoleSS_all (clashR (o.map toH) (l.map toH) (p.map toH)).1 1 (by omega) (by omega) (by omega) hx
  have n2 : ¬ (1 + 3 * ((o.map toH).length : Int) + 3 * ((l.map toH).length : Int) + 3 * ((p.map toH).length : Int)) < 0 := by omega
  have n3 : ¬ (1 + 3 * tot (clashR (o.map toH) (l.map toH) (p.map toH)).1) < 0 := by omega
  dsimp only at e0 e1 e2 e3 e4 e5 e6 e7 e8 e9 e10 e11 e12 e13
  refine ⟨K0 + K1 + K2 + K3 + K4 + K5 + K6 + K7 + K8 + K9 + K10 + K11 + K12 + K13 + 6, ?_⟩
  simp (disch := omega) only [laws_FnExactClashingHoles.f, y0, q0, z0, z1, n0, n1, n2, n3, e0, e1, e2, e3, e4, e5, e6, e7, e8, e9, e10, e11, e12, e13, if_false, if_true, Option.bind_some, bnot_ne, Bool.false_eq_true]
  simp (disch := omega) only [laws_FnExactClashingHoles.j0, y0, q0, z0, z1, n0, n1, n2, n3, e0, e1, e2, e3, e4, e5, e6, e7, e8, e9, e10, e11, e12, e13, if_false, if_true, Option.bind_some, bnot_ne, Bool.false_eq_true]
  simp (disch := omega) only [laws_FnExactClashingHoles.j1, y0, q0, z0, z1, n0, n1, n2, n3, e0, e1, e2, e3, e4, e5, e6, e7, e8, e9, e10, e11, e12, e13, if_false, if_true, Option.bind_some, bnot_ne, Bool.false_eq_true]
  simp (disch := omega) only [laws_FnExactClashingHoles.j2, y0, q0, z0, z1, n0, n1, n2, n3, e0, e1, e2, e3, e4, e5, e6, e7, e8, e9, e10, e11, e12, e13, if_false, if_true, Option.bind_some, bnot_ne, Bool.false_eq_true]

end Go.Proofs.Ytnneeecgmdilfaa.LClashingHoles
