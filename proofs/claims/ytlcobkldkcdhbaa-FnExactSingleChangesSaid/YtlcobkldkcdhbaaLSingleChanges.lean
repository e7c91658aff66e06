/- For every input the law FnExactSingleChanges answers true, after some number of rounds; the conditions are the input's own bounds. -/
import Derived.Test.YtlcobkldkcdhbaaQFnExactSingleChangesx7
import Derived.Test.YtlcobkldkcdhbaaBase
namespace Go.Proofs.Ytlcobkldkcdhbaa.LSingleChanges
open Go Go.RowKit Go.Proofs.Ytlcobkldkcdhbaa.QFnExactSingleChanges Go.Proofs.YtlcobkldkcdhbaaW.PrintWords Go.Proofs.YtlcobkldkcdhbaaW.PrintLast Go.Proofs.YtlcobkldkcdhbaaW.PrintMore Go.Proofs.Ytlcobkldkcdhbaa.Base
set_option linter.unusedVariables false
set_option linter.unusedSimpArgs false

/-! one hole: whether it is valid, its number -/
/-- A valid hole. -/
def holeOk (t a b : Int) : Bool := decide (0 ≤ t ∧ t ≤ 19 ∧ 0 ≤ a ∧ a ≤ 1999 ∧ a < b ∧ b ≤ 2000)

theorem shHole_ok (t a b : Int) : spec_shHole.f t a b = some (holeOk t a b) := by
  unfold spec_shHole.f spec_l1In.f holeOk
  by_cases h1 : 0 ≤ t
  · by_cases h2 : t ≤ 19
    · by_cases h3 : 0 ≤ a
      · by_cases h4 : a ≤ 1999
        · have hw : wrap64 (a + 1) = a + 1 := wrapS (by omega) (by omega)
          by_cases h5 : a + 1 ≤ b
          · simp [h1, h2, h3, h4, hw, h5, show a < b by omega]
          · simp [h1, h2, h3, h4, hw, h5, show ¬ a < b by omega]
        · simp [h1, h2, h3, h4]
      · simp [h1, h2, h3]
    · simp [h1, h2]
  · simp [h1]

theorem isHole_ok (t a b : Int) : impl_IsHole.f t a b = some (holeOk t a b) := by
  unfold impl_IsHole.f impl_isTrack.f holeOk
  by_cases h1 : 0 ≤ t
  · by_cases h2 : t < 20
    · by_cases h3 : 0 ≤ a
      · by_cases h4 : a < b
        · by_cases h5 : b ≤ 2000
          · simp [h1, h2, h3, h4, h5, show t ≤ 19 by omega, show a ≤ 1999 by omega]
          · simp [h1, h2, h3, h4, h5]
        · simp [h1, h2, h3, h4]
      · simp [h1, h2, h3]
    · simp [h1, h2, show ¬ t ≤ 19 by omega]
  · simp [h1]

theorem holeOk_bounds {t a b : Int} (h : holeOk t a b = true) : 0 ≤ t ∧ t ≤ 19 ∧ 0 ≤ a ∧ a ≤ 1999 ∧ a < b ∧ b ≤ 2000 := by
  simpa [holeOk] using h

/-! slices of holes: copied, held against each other; valid sheets -/
def toH (x : S23) : S26 := ⟨x.f0, x.f1, x.f2⟩
theorem rdL_mid (pre suf : List S23) (x : S23) : rd_T23 (pre ++ x :: suf) (pre.length : Int) = x := getD_mid _ _ _ _ _ (by simp)
theorem rdH_mid (pre suf : List S26) (x : S26) : rd_T26 (pre ++ x :: suf) (pre.length : Int) = x := getD_mid _ _ _ _ _ (by simp)

theorem toHoleS_l0 (suf : List S23) : ∀ pre : List S23, (pre ++ suf).length ≤ 9223372036854775806 →
    Ev (fun k => laws_toHoleS.l0 k (pre ++ suf) (pre.map toH ++ List.replicate suf.length z26) (pre.length : Int)) ((pre ++ suf).map toH) := by
  induction suf with
  | nil =>
    intro pre _
    refine ev_step ev_const (fun k => ?_)
    rw [laws_toHoleS.l0, if_neg (by simp)]
    simp
  | cons x suf ih =>
    intro pre hl
    have h := ih (pre ++ [x]) (by simp at hl ⊢; omega)
    rw [snoc_app, snoc_leni, List.map_append, List.map_cons, List.map_nil, snoc_app] at h
    have hl' : (pre.length : Int) < ((pre ++ x :: suf).length : Int) := by simp; omega
    refine ev_step h (fun k => ?_)
    rw [laws_toHoleS.l0, if_pos hl', if_pos (by omega), rdL_mid]
    simp only [laws_toHole.f, Option.bind_some]
    rw [if_pos (by simp; omega), wrapS (by omega) (by simp at hl; omega), List.length_cons, List.replicate_succ, set_mid _ _ _ _ _ (by simp)]
    rfl

theorem toHoleS_copy (l : List S23) (h : l.length ≤ 1048576) : Ev (fun k => laws_toHoleS.f k l) (l.map toH) := by
  have := toHoleS_l0 l [] (by simp; omega)
  refine Ev.congr (fun k => ?_) this
  rw [laws_toHoleS.f, if_pos (by omega), if_pos (by omega)]
  simp

theorem eqHoleS_l0 (suf : List S26) : ∀ pre : List S26, (pre ++ suf).length ≤ 9223372036854775806 → Ev (fun k => laws_eqHoleS.l0 k (pre ++ suf) (pre ++ suf) (pre.length : Int)) true := by
  induction suf with
  | nil =>
    intro pre _
    refine ev_step ev_const (fun k => ?_)
    rw [laws_eqHoleS.l0, if_neg (by simp)]
  | cons x suf ih =>
    intro pre hl
    have h := ih (pre ++ [x]) (by simp at hl ⊢; omega)
    rw [snoc_app, snoc_leni] at h
    have hl' : (pre.length : Int) < ((pre ++ x :: suf).length : Int) := by simp; omega
    refine ev_step h (fun k => ?_)
    rw [laws_eqHoleS.l0, if_pos hl', if_pos (by omega), if_pos hl']
    simp only [laws_eqHole.f, if_true, Option.bind_some]
    rw [wrapS (by omega) (by simp at hl; omega)]

theorem eqHoleS_same (l : List S26) (h : l.length ≤ 9223372036854775806) : Ev (fun k => laws_eqHoleS.f k l l) true := by
  have := eqHoleS_l0 l [] (by simpa using h)
  refine Ev.congr (fun k => ?_) this
  simp [laws_eqHoleS.f]

theorem szHoleS_in (l : List S23) (n : Int) (hn : n ≤ 9223372036854775807) (h : (l.length : Int) ≤ n) : laws_szHoleS.f l n = some (n - l.length) := by
  have hw : wrap64 (n - l.length) = n - l.length := wrapS (by omega) (by omega)
  rw [laws_szHoleS.f, hw, if_neg (by omega)]
theorem szHoleS_out (l : List S23) (n : Int) (hn : 0 ≤ n) (hl : l.length ≤ 9223372036854775807) (h : n < (l.length : Int)) : laws_szHoleS.f l n = some (-1) := by
  have hw : wrap64 (n - l.length) = n - l.length := wrapS (by omega) (by omega)
  rw [laws_szHoleS.f, hw, if_pos (by omega)]

/-- The hole x meets the earlier hole y. -/
def meets (x y : S26) : Bool := decide (x.f0 = y.f0 ∧ x.f1 ≤ y.f2)
def before (a b : S26) : Bool := decide (a.f1 < b.f1 ∨ (a.f1 = b.f1 ∧ a.f0 < b.f0))
def lastBefore (pre : List S26) (x : S26) : Bool := match pre.getLast? with | none => true | some p => before p x
def goodAt (pre : List S26) (x : S26) : Bool := holeOk x.f0 x.f1 x.f2 && (lastBefore pre x && !(pre.any (meets x)))
def goodFrom : List S26 → List S26 → Bool
  | _, [] => true
  | pre, x :: suf => goodAt pre x && goodFrom (pre ++ [x]) suf
/-- A valid sheet. -/
def good (l : List S26) : Bool := goodFrom [] l && decide (l.length ≤ 60)

theorem shBefore_ok (a b : S26) : spec_shBefore.f a.f0 a.f1 a.f2 b.f0 b.f1 b.f2 = some (before a b) := by
  unfold spec_shBefore.f before
  by_cases h : a.f1 < b.f1
  · simp [h]
  · by_cases h1 : a.f1 = b.f1
    · simp [h1]
    · simp [h, h1]
theorem holeLess_ok (a b : S26) : impl_holeLess.f a.f0 a.f1 a.f2 b.f0 b.f1 b.f2 = some (before a b) := by
  unfold impl_holeLess.f before
  by_cases h1 : a.f1 = b.f1
  · simp [h1]
  · simp [h1]

theorem shGood_l1 (x : S26) (l : List S26) (n i : Int) (r : Bool) (suf : List S26) : ∀ pre : List S26, (pre ++ suf).length ≤ 9223372036854775806 →
    (suf.any (meets x) = true → r = false) → (suf.any (meets x) = false → Ev (fun k => spec_shGood.l0 k l l n (wrap64 (i + 1))) r) →
    Ev (fun k => spec_shGood.l1 k l l n i (pre ++ suf) ((pre ++ suf).length : Int) (pre.length : Int) x.f0 x.f1 x.f2) r := by
  induction suf with
  | nil =>
    intro pre _ _ h
    refine ev_step (h rfl) (fun k => ?_)
    rw [spec_shGood.l1, if_neg (by simp)]
  | cons y suf ih =>
    intro pre hl h1 h2
    have hl' : (pre.length : Int) < ((pre ++ y :: suf).length : Int) := by simp; omega
    have hw : wrap64 ((pre.length : Int) + 1) = (pre.length : Int) + 1 := wrapS (by omega) (by simp at hl; omega)
    by_cases hm : meets x y = true
    · have e : r = false := h1 (by simp [hm])
      subst e
      simp only [meets, decide_eq_true_eq] at hm
      refine ev_step ev_const (fun k => ?_)
      rw [spec_shGood.l1, if_pos hl', if_pos (by omega), if_pos hl', rdH_mid, if_pos hm.1, if_pos hm.2]
    · replace hm : meets x y = false := by simpa using hm
      have h := ih (pre ++ [y]) (by simp at hl ⊢; omega) (fun e => h1 (by simp [e])) (fun e => h2 (by simp [hm, e]))
      rw [snoc_app, snoc_leni] at h
      simp only [meets, decide_eq_false_iff_not] at hm
      refine ev_step h (fun k => ?_)
      rw [spec_shGood.l1, if_pos hl', if_pos (by omega), if_pos hl', rdH_mid, hw]
      by_cases e : x.f0 = y.f0
      · rw [if_pos e, if_neg (fun e2 => hm ⟨e, e2⟩)]
      · rw [if_neg e]

theorem shGood_j1 (x : S26) (pre suf : List S26) (n : Int) (b r : Bool) (hl : (pre ++ suf).length ≤ 9223372036854775806) (hb : b = true → r = false) (h1 : b = false → pre.any (meets x) = true → r = false)
    (h2 : b = false → pre.any (meets x) = false → Ev (fun k => spec_shGood.l0 k (pre ++ suf) (pre ++ suf) n (wrap64 ((pre.length : Int) + 1))) r) :
    Ev (fun k => spec_shGood.j1 k (pre ++ suf) (pre.length : Int) (pre ++ suf) n (pre.length : Int) b x.f0 x.f1 x.f2) r := by
  cases b with
  | true =>
    obtain rfl := hb rfl
    refine ev_step ev_const (fun k => ?_)
    rw [spec_shGood.j1, if_pos rfl]
  | false =>
    have h := shGood_l1 x (pre ++ suf) n (pre.length : Int) r pre [] (by simp at hl ⊢; omega) (h1 rfl) (h2 rfl)
    refine ev_step h (fun k => ?_)
    rw [spec_shGood.j1, if_neg (by decide), if_pos (by omega), if_pos (by simp; omega)]
    simp

theorem shGood_l0 (suf : List S26) : ∀ pre : List S26, (pre ++ suf).length ≤ 9223372036854775806 →
    Ev (fun k => spec_shGood.l0 k (pre ++ suf) (pre ++ suf) ((pre ++ suf).length : Int) (pre.length : Int)) (goodFrom pre suf && decide ((pre ++ suf).length ≤ 60)) := by
  induction suf with
  | nil =>
    intro pre _
    refine ev_step (Ev.now _) (fun k => ?_)
    rw [spec_shGood.l0, if_neg (by simp)]
    simp [goodFrom]
    omega
  | cons x suf ih =>
    intro pre hl
    have h := ih (pre ++ [x]) (by simp at hl ⊢; omega)
    rw [snoc_app, snoc_leni] at h
    have hl' : (pre.length : Int) < ((pre ++ x :: suf).length : Int) := by simp; omega
    have hw : wrap64 ((pre.length : Int) + 1) = (pre.length : Int) + 1 := wrapS (by omega) (by simp at hl; omega)
    have J : ∀ b, (b = !(holeOk x.f0 x.f1 x.f2 && lastBefore pre x)) → Ev (fun k => spec_shGood.j1 k (pre ++ x :: suf) (pre.length : Int) (pre ++ x :: suf) ((pre ++ x :: suf).length : Int) (pre.length : Int) b x.f0 x.f1 x.f2) (goodFrom pre (x :: suf) && decide ((pre ++ x :: suf).length ≤ 60)) := by
      intro b hb
      refine shGood_j1 x pre (x :: suf) _ b _ hl (fun e => ?_) (fun e e2 => ?_) (fun e e2 => ?_)
      · simp only [goodFrom, goodAt]
        cases h1 : holeOk x.f0 x.f1 x.f2 <;> cases h2 : lastBefore pre x <;> simp_all
      · simp [goodFrom, goodAt, e2]
      · rw [hw]
        have e3 : goodFrom pre (x :: suf) = goodFrom (pre ++ [x]) suf := by
          simp only [goodFrom, goodAt, e2]
          cases h1 : holeOk x.f0 x.f1 x.f2 <;> cases h2 : lastBefore pre x <;> simp_all
        rw [e3]
        exact h
    cases ho : holeOk x.f0 x.f1 x.f2 with
    | false =>
      refine ev_step (J true (by simp [ho])) (fun k => ?_)
      rw [spec_shGood.l0, if_pos hl', if_pos (by omega), if_pos hl', rdH_mid, shHole_ok, ho]
      simp
    | true =>
      rcases List.eq_nil_or_concat pre with rfl | ⟨pre', p, rfl⟩
      · refine ev_step (J false (by simp [ho, lastBefore])) (fun k => ?_)
        rw [spec_shGood.l0, if_pos hl', if_pos (by omega), if_pos hl', rdH_mid, shHole_ok, ho]
        simp
      · refine ev_step (J (!(before p x)) (by simp [ho, lastBefore])) (fun k => ?_)
        have e1 : ((pre' ++ [p]).length : Int) = (pre'.length : Int) + 1 := by simp
        have hw2 : wrap64 (((pre' ++ [p]).length : Int) - 1) = (pre'.length : Int) := by
          rw [e1, wrapS (by omega) (by simp at hl; omega)]; omega
        have e2 : rd_T26 (pre' ++ [p] ++ x :: suf) (pre'.length : Int) = p := by
          rw [snoc_app]; exact rdH_mid _ _ _
        rw [spec_shGood.l0, if_pos hl', if_pos (by omega), if_pos hl', rdH_mid, shHole_ok, ho]
        simp only [List.concat_eq_append] at *
        simp only [Option.bind_some, if_true]
        rw [if_pos (by omega), hw2, if_pos (by omega), if_pos (by simp; omega), e2, shBefore_ok]
        simp only [Option.bind_some]

theorem shGood_ok (l : List S26) (h : l.length ≤ 9223372036854775806) : Ev (fun k => spec_shGood.f k l) (good l) :=
  Ev.congr (fun _ => rfl) (shGood_l0 l [] (by simpa using h))

theorem isSheet_l1 (x : S26) (l : List S26) (n i : Int) (r : Bool) (suf : List S26) : ∀ pre : List S26, (pre ++ suf).length ≤ 9223372036854775806 →
    (suf.any (meets x) = true → r = false) → (suf.any (meets x) = false → Ev (fun k => impl_IsSheet.l0 k l l n (wrap64 (i + 1))) r) →
    Ev (fun k => impl_IsSheet.l1 k l l n i (pre ++ suf) ((pre ++ suf).length : Int) (pre.length : Int) x.f0 x.f1 x.f2) r := by
  induction suf with
  | nil =>
    intro pre _ _ h
    refine ev_step (h rfl) (fun k => ?_)
    rw [impl_IsSheet.l1, if_neg (by simp)]
  | cons y suf ih =>
    intro pre hl h1 h2
    have hl' : (pre.length : Int) < ((pre ++ y :: suf).length : Int) := by simp; omega
    have hw : wrap64 ((pre.length : Int) + 1) = (pre.length : Int) + 1 := wrapS (by omega) (by simp at hl; omega)
    by_cases hm : meets x y = true
    · have e : r = false := h1 (by simp [hm])
      subst e
      simp only [meets, decide_eq_true_eq] at hm
      refine ev_step ev_const (fun k => ?_)
      rw [impl_IsSheet.l1, if_pos hl', if_pos (by omega), if_pos hl', rdH_mid, if_pos hm.1.symm, if_pos hm.2]
    · replace hm : meets x y = false := by simpa using hm
      have h := ih (pre ++ [y]) (by simp at hl ⊢; omega) (fun e => h1 (by simp [e])) (fun e => h2 (by simp [hm, e]))
      rw [snoc_app, snoc_leni] at h
      simp only [meets, decide_eq_false_iff_not] at hm
      refine ev_step h (fun k => ?_)
      rw [impl_IsSheet.l1, if_pos hl', if_pos (by omega), if_pos hl', rdH_mid, hw]
      by_cases e : x.f0 = y.f0
      · rw [if_pos e.symm, if_neg (fun e2 => hm ⟨e, e2⟩)]
      · rw [if_neg (fun e2 => e e2.symm)]

theorem isSheet_j1 (x : S26) (pre suf : List S26) (n : Int) (b r : Bool) (hl : (pre ++ suf).length ≤ 9223372036854775806) (hb : b = true → r = false) (h1 : b = false → pre.any (meets x) = true → r = false)
    (h2 : b = false → pre.any (meets x) = false → Ev (fun k => impl_IsSheet.l0 k (pre ++ suf) (pre ++ suf) n (wrap64 ((pre.length : Int) + 1))) r) :
    Ev (fun k => impl_IsSheet.j1 k (pre ++ suf) (pre.length : Int) (pre ++ suf) n (pre.length : Int) b x.f0 x.f1 x.f2) r := by
  cases b with
  | true =>
    obtain rfl := hb rfl
    refine ev_step ev_const (fun k => ?_)
    rw [impl_IsSheet.j1, if_pos rfl]
  | false =>
    have h := isSheet_l1 x (pre ++ suf) n (pre.length : Int) r pre [] (by simp at hl ⊢; omega) (h1 rfl) (h2 rfl)
    refine ev_step h (fun k => ?_)
    rw [impl_IsSheet.j1, if_neg (by decide), if_pos (by omega), if_pos (by simp; omega)]
    simp

theorem isSheet_l0 (suf : List S26) : ∀ pre : List S26, (pre ++ suf).length ≤ 9223372036854775806 →
    Ev (fun k => impl_IsSheet.l0 k (pre ++ suf) (pre ++ suf) ((pre ++ suf).length : Int) (pre.length : Int)) (goodFrom pre suf) := by
  induction suf with
  | nil =>
    intro pre _
    refine ev_step (Ev.now _) (fun k => ?_)
    rw [impl_IsSheet.l0, if_neg (by simp)]
    simp [goodFrom]
  | cons x suf ih =>
    intro pre hl
    have h := ih (pre ++ [x]) (by simp at hl ⊢; omega)
    rw [snoc_app, snoc_leni] at h
    have hl' : (pre.length : Int) < ((pre ++ x :: suf).length : Int) := by simp; omega
    have hw : wrap64 ((pre.length : Int) + 1) = (pre.length : Int) + 1 := wrapS (by omega) (by simp at hl; omega)
    have J : ∀ b, (b = !(holeOk x.f0 x.f1 x.f2 && lastBefore pre x)) → Ev (fun k => impl_IsSheet.j1 k (pre ++ x :: suf) (pre.length : Int) (pre ++ x :: suf) ((pre ++ x :: suf).length : Int) (pre.length : Int) b x.f0 x.f1 x.f2) (goodFrom pre (x :: suf)) := by
      intro b hb
      refine isSheet_j1 x pre (x :: suf) _ b _ hl (fun e => ?_) (fun e e2 => ?_) (fun e e2 => ?_)
      · simp only [goodFrom, goodAt]
        cases h1 : holeOk x.f0 x.f1 x.f2 <;> cases h2 : lastBefore pre x <;> simp_all
      · simp [goodFrom, goodAt, e2]
      · rw [hw]
        have e3 : goodFrom pre (x :: suf) = goodFrom (pre ++ [x]) suf := by
          simp only [goodFrom, goodAt, e2]
          cases h1 : holeOk x.f0 x.f1 x.f2 <;> cases h2 : lastBefore pre x <;> simp_all
        rw [e3]
        exact h
    cases ho : holeOk x.f0 x.f1 x.f2 with
    | false =>
      refine ev_step (J true (by simp [ho])) (fun k => ?_)
      rw [impl_IsSheet.l0, if_pos hl', if_pos (by omega), if_pos hl', rdH_mid, isHole_ok, ho]
      simp
    | true =>
      rcases List.eq_nil_or_concat pre with rfl | ⟨pre', p, rfl⟩
      · refine ev_step (J false (by simp [ho, lastBefore])) (fun k => ?_)
        rw [impl_IsSheet.l0, if_pos hl', if_pos (by omega), if_pos hl', rdH_mid, isHole_ok, ho]
        simp
      · refine ev_step (J (!(before p x)) (by simp [ho, lastBefore])) (fun k => ?_)
        have e1 : ((pre' ++ [p]).length : Int) = (pre'.length : Int) + 1 := by simp
        have hw2 : wrap64 (((pre' ++ [p]).length : Int) - 1) = (pre'.length : Int) := by
          rw [e1, wrapS (by omega) (by simp at hl; omega)]; omega
        have e2 : rd_T26 (pre' ++ [p] ++ x :: suf) (pre'.length : Int) = p := by
          rw [snoc_app]; exact rdH_mid _ _ _
        rw [impl_IsSheet.l0, if_pos hl', if_pos (by omega), if_pos hl', rdH_mid, isHole_ok, ho]
        simp only [List.concat_eq_append] at *
        simp only [Option.bind_some, if_true]
        rw [if_pos (by omega), hw2, if_pos (by omega), if_pos (by simp; omega), e2, holeLess_ok]
        simp only [Option.bind_some]

theorem isSheet_ok (l : List S26) (h : l.length ≤ 9223372036854775806) : Ev (fun k => impl_IsSheet.f k l) (good l) := by
  by_cases h6 : (l.length : Int) > 60
  · refine Ev.congr (f := fun _ => some (good l)) (fun k => ?_) ev_const
    rw [impl_IsSheet.f, if_pos h6]
    have : ¬ l.length ≤ 60 := by omega
    simp [good, this]
  · refine Ev.congr (fun k => ?_) (ev_eq (isSheet_l0 l [] (by simpa using h)) ?_)
    · rw [impl_IsSheet.f, if_neg h6]
      rfl
    · have : l.length ≤ 60 := by omega
      simp [good, this]

/-! checksums -/
def ck (s t a b : Int) : Int := Int.tmod (wrap64 (wrap64 (31 * s) + wrap64 (wrap64 (wrap64 (4004001 * t) + wrap64 (2001 * a)) + b))) 1000003
theorem ckExtend_ok (s t a b : Int) : spec_ckExtend.f s t a b = some (ck s t a b) := rfl
theorem extend_ok (s t a b : Int) : impl_extendChecksum.f s t a b = some (ck s t a b) := by
  simp only [impl_extendChecksum.f, impl_holeNumber.f, Option.bind_some, Int.mul_comm t, Int.mul_comm a]
  rfl
def sumOf : Int → List S26 → Int
  | s, [] => s
  | s, x :: l => sumOf (ck s x.f0 x.f1 x.f2) l

theorem ckSum_l0 (suf : List S26) : ∀ (pre : List S26) (s : Int), (pre ++ suf).length ≤ 9223372036854775806 →
    Ev (fun k => spec_ckSum.l0 k s (pre ++ suf) ((pre ++ suf).length : Int) (pre.length : Int)) (sumOf s suf) := by
  induction suf with
  | nil =>
    intro pre s _
    refine ev_step (Ev.now _) (fun k => ?_)
    rw [spec_ckSum.l0, if_neg (by simp)]
    rfl
  | cons x suf ih =>
    intro pre s hl
    have h := ih (pre ++ [x]) (ck s x.f0 x.f1 x.f2) (by simp at hl ⊢; omega)
    rw [snoc_app, snoc_leni] at h
    have hl' : (pre.length : Int) < ((pre ++ x :: suf).length : Int) := by simp; omega
    have hw : wrap64 ((pre.length : Int) + 1) = (pre.length : Int) + 1 := wrapS (by omega) (by simp at hl; omega)
    refine ev_step h (fun k => ?_)
    rw [spec_ckSum.l0, if_pos hl', if_pos (by omega), if_pos hl', rdH_mid, ckExtend_ok, hw]
    simp only [Option.bind_some]

theorem ckSum_ok (l : List S26) (h : l.length ≤ 9223372036854775806) : Ev (fun k => spec_ckSum.f k l) (sumOf 1 l) :=
  Ev.congr (fun _ => rfl) (ckSum_l0 l [] 1 (by simpa using h))

theorem checksumOf_l0 (suf : List S26) : ∀ (pre : List S26) (s : Int), (pre ++ suf).length ≤ 9223372036854775806 →
    Ev (fun k => impl_checksumOf.l0 k s (pre ++ suf) ((pre ++ suf).length : Int) (pre.length : Int)) (sumOf s suf) := by
  induction suf with
  | nil =>
    intro pre s _
    refine ev_step (Ev.now _) (fun k => ?_)
    rw [impl_checksumOf.l0, if_neg (by simp)]
    rfl
  | cons x suf ih =>
    intro pre s hl
    have h := ih (pre ++ [x]) (ck s x.f0 x.f1 x.f2) (by simp at hl ⊢; omega)
    rw [snoc_app, snoc_leni] at h
    have hl' : (pre.length : Int) < ((pre ++ x :: suf).length : Int) := by simp; omega
    have hw : wrap64 ((pre.length : Int) + 1) = (pre.length : Int) + 1 := wrapS (by omega) (by simp at hl; omega)
    refine ev_step h (fun k => ?_)
    rw [impl_checksumOf.l0, if_pos hl', if_pos (by omega), if_pos hl', rdH_mid, extend_ok, hw]
    simp only [Option.bind_some]

theorem checksumOf_ok (l : List S26) (h : l.length ≤ 9223372036854775806) : Ev (fun k => impl_checksumOf.f k l) (sumOf 1 l) :=
  Ev.congr (fun _ => rfl) (checksumOf_l0 l [] 1 (by simpa using h))

/-! rows of rows of holes: held against each other -/
theorem rdHH_mid (pre suf : List (List S26)) (x : List S26) : rd_L3 (pre ++ x :: suf) (pre.length : Int) = x := getD_mid _ _ _ _ _ (by simp)
theorem eqHoleSS_l0 (suf : List (List S26)) : ∀ pre : List (List S26), (pre ++ suf).length ≤ 1048576 → (∀ x ∈ suf, x.length ≤ 1048576) →
    Ev (fun k => laws_eqHoleSS.l0 k (pre ++ suf) (pre ++ suf) (pre.length : Int)) true := by
  induction suf with
  | nil =>
    intro pre _ _
    refine ev_step ev_const (fun k => ?_)
    rw [laws_eqHoleSS.l0, if_neg (by simp)]
  | cons x suf ih =>
    intro pre hl hx
    have h := ih (pre ++ [x]) (by simp at hl ⊢; omega) (fun y hy => hx y (List.mem_cons_of_mem _ hy))
    rw [snoc_app, snoc_leni] at h
    have hl' : (pre.length : Int) < ((pre ++ x :: suf).length : Int) := by simp; omega
    have hlp : pre.length ≤ 1048576 := by simp at hl; omega
    have hw : wrap64 ((pre.length : Int) + 1) = (pre.length : Int) + 1 := wrapS (by omega) (by omega)
    obtain ⟨K1, e1⟩ := eqHoleS_same x (by have := hx x List.mem_cons_self; omega)
    obtain ⟨K2, e2⟩ := h
    dsimp only at e1 e2
    refine ⟨K1 + K2 + 1, fun k hk => ?_⟩
    obtain ⟨m, rfl⟩ : ∃ m, k = m + 1 := ⟨k - 1, by omega⟩
    dsimp only
    rw [laws_eqHoleSS.l0, if_pos hl', if_pos (by omega), if_pos hl', rdHH_mid, e1 m (by omega)]
    simp only [Option.bind_some, if_true]
    rw [hw]
    exact e2 m (by omega)
theorem eqHoleSS_same (l : List (List S26)) (h : l.length ≤ 1048576) (hx : ∀ x ∈ l, x.length ≤ 1048576) : Ev (fun k => laws_eqHoleSS.f k l l) true := by
  have := eqHoleSS_l0 l [] (by simpa using h) hx
  refine Ev.congr (fun k => ?_) this
  simp [laws_eqHoleSS.f]

/-! marks of holes -/
def mholes : Nat → Int → List S26
  | 0, _ => []
  | d + 1, a => (⟨a, a + 1, a + 1 + 1⟩ : S26) :: mholes d (a + 1 + 1 + 1)
theorem mholes_len (d : Nat) : ∀ a, (mholes d a).length = d := by
  induction d with
  | zero => intro a; rfl
  | succ d ih => intro a; simp [mholes, ih]
theorem markHoleS_l0 (suf : List S26) : ∀ (pre : List S26) (a : Int), (pre ++ suf).length ≤ 9000000 → 0 ≤ a → a ≤ 1000000000 + 3 * pre.length →
    Ev (fun k => laws_markHoleS.l0 k (pre ++ suf) a (pre.length : Int)) (a + 3 * suf.length, pre ++ mholes suf.length a) := by
  induction suf with
  | nil =>
    intro pre a _ _ _
    refine ev_step (f := fun _ => some _) (Ev.now _) (fun k => ?_)
    rw [laws_markHoleS.l0, if_neg (by simp)]; simp [mholes]
  | cons x suf ih =>
    intro pre a hl h0 h1
    have hlp : pre.length ≤ 9000000 := by simp at hl; omega
    have w1 : wrap64 (a + 1) = a + 1 := wrapS (by omega) (by omega)
    have w2 : wrap64 (a + 1 + 1) = a + 1 + 1 := wrapS (by omega) (by omega)
    have w3 : wrap64 (a + 1 + 1 + 1) = a + 1 + 1 + 1 := wrapS (by omega) (by omega)
    have w5 : wrap64 ((pre.length : Int) + 1) = (pre.length : Int) + 1 := wrapS (by omega) (by omega)
    have sR : ∀ y z : S26, (pre ++ y :: suf).set ((pre.length : Int)).toNat z = pre ++ z :: suf := fun y z => set_mid _ _ _ _ _ (by simp)
    have hl' : (pre.length : Int) < ((pre ++ x :: suf).length : Int) := by simp; omega
    have h := ih (pre ++ [(⟨a, a + 1, a + 1 + 1⟩ : S26)]) (a + 1 + 1 + 1) (by simp at hl ⊢; omega) (by omega) (by simp; omega)
    rw [snoc_app, snoc_app, snoc_leni] at h
    refine ev_step (ev_eq h ?_) (fun k => ?_)
    · simp only [mholes, List.length_cons]
      congr 1
      omega
    · rw [laws_markHoleS.l0, if_pos hl', if_pos (by omega)]
      simp only [rdH_mid, sR, w1, w2, w3, w5, Option.bind_some]
theorem markHoleS_all (l : List S26) (a : Int) (hl : l.length ≤ 9000000) (h0 : 0 ≤ a) (h1 : a ≤ 1000000000) : Ev (fun k => laws_markHoleS.f k l a) (a + 3 * l.length, mholes l.length a) :=
  Ev.congr (f := fun k => laws_markHoleS.l0 k l a 0) (fun _ => rfl) (by simpa using markHoleS_l0 l [] a (by simpa using hl) h0 (by simpa using h1))
theorem heldHoleS_l0 (d : Nat) : ∀ (pre : List S26) (a : Int), pre.length + d ≤ 9000000 → 0 ≤ a → a ≤ 1000000000 + 3 * pre.length →
    Ev (fun k => laws_heldHoleS.l0 k (pre ++ mholes d a) a (pre.length : Int)) (a + 3 * d) := by
  induction d with
  | zero =>
    intro pre a _ _ _
    refine ev_step (f := fun _ => some _) (Ev.now _) (fun k => ?_)
    rw [laws_heldHoleS.l0, if_neg (by simp [mholes])]; simp
  | succ d ih =>
    intro pre a hl h0 h1
    have w1 : wrap64 (a + 1) = a + 1 := wrapS (by omega) (by omega)
    have w2 : wrap64 (a + 1 + 1) = a + 1 + 1 := wrapS (by omega) (by omega)
    have w3 : wrap64 (a + 1 + 1 + 1) = a + 1 + 1 + 1 := wrapS (by omega) (by omega)
    have w5 : wrap64 ((pre.length : Int) + 1) = (pre.length : Int) + 1 := wrapS (by omega) (by omega)
    have h := ih (pre ++ [(⟨a, a + 1, a + 1 + 1⟩ : S26)]) (a + 1 + 1 + 1) (by simp; omega) (by omega) (by simp; omega)
    rw [snoc_app, snoc_leni] at h
    have hl' : (pre.length : Int) < ((pre ++ mholes (d + 1) a).length : Int) := by simp [mholes_len]; omega
    refine ev_step (ev_eq h (by omega)) (fun k => ?_)
    rw [laws_heldHoleS.l0, if_pos hl', if_pos (by omega)]
    simp only [mholes, rdH_mid, w1, w2, w3, w5, if_true]
theorem heldHoleS_all (d : Nat) (a : Int) (hl : d ≤ 9000000) (h0 : 0 ≤ a) (h1 : a ≤ 1000000000) : Ev (fun k => laws_heldHoleS.f k (mholes d a) a) (a + 3 * d) :=
  Ev.congr (f := fun k => laws_heldHoleS.l0 k (mholes d a) a 0) (fun _ => rfl) (by simpa using heldHoleS_l0 d [] a (by simpa using hl) h0 (by simpa using h1))

/-! marks of rows of rows of holes -/
def tot : List (List S26) → Int
  | [] => 0
  | x :: l => (x.length : Int) + tot l
theorem tot_nn (l : List (List S26)) : 0 ≤ tot l := by
  induction l with
  | nil => exact Int.le_refl _
  | cons x l ih => rw [tot]; omega
def marksSS : List (List S26) → Int → List (List S26)
  | [], _ => []
  | x :: l, a => mholes x.length a :: marksSS l (a + 3 * x.length)
theorem marksSS_len (l : List (List S26)) : ∀ a, (marksSS l a).length = l.length := by
  induction l with
  | nil => intro a; rfl
  | cons x l ih => intro a; simp [marksSS, ih]
theorem markHoleSS_l0 (suf : List (List S26)) : ∀ (pre : List (List S26)) (a : Int), (pre ++ suf).length ≤ 9000000 → 0 ≤ a → a + 3 * tot suf ≤ 20000000 → (∀ x ∈ suf, x.length ≤ 9000000) →
    Ev (fun k => laws_markHoleSS.l0 k (pre ++ suf) a (pre.length : Int)) (a + 3 * tot suf, pre ++ marksSS suf a) := by
  induction suf with
  | nil =>
    intro pre a _ _ _ _
    refine ev_step (f := fun _ => some _) (Ev.now _) (fun k => ?_)
    rw [laws_markHoleSS.l0, if_neg (by simp)]; simp [tot, marksSS]
  | cons x suf ih =>
    intro pre a hl h0 h1 hx
    rw [tot] at h1
    have ht := tot_nn suf
    have hlp : pre.length + 1 ≤ 9000000 := by simp at hl; omega
    have hl' : (pre.length : Int) < ((pre ++ x :: suf).length : Int) := by simp; omega
    have hw : wrap64 ((pre.length : Int) + 1) = (pre.length : Int) + 1 := wrapS (by omega) (by omega)
    have hg : (pre ++ x :: suf).getD ((pre.length : Int)).toNat [] = x := getD_mid _ _ _ _ _ (by simp)
    have hs : ∀ y, (pre ++ x :: suf).set ((pre.length : Int)).toNat y = pre ++ y :: suf := fun y => set_mid _ _ _ _ _ (by simp)
    obtain ⟨K1, e1⟩ := markHoleS_all x a (hx x List.mem_cons_self) h0 (by omega)
    have h := ih (pre ++ [mholes x.length a]) (a + 3 * x.length) (by simp at hl ⊢; omega) (by omega) (by omega) (fun y hy => hx y (List.mem_cons_of_mem _ hy))
    rw [snoc_app, snoc_app, snoc_leni] at h
    obtain ⟨K2, e2⟩ := h
    dsimp only at e1 e2
    have et : a + 3 * tot (x :: suf) = a + 3 * (x.length : Int) + 3 * tot suf := by rw [tot]; omega
    refine ⟨K1 + K2 + 1, fun k hk => ?_⟩
    obtain ⟨m, rfl⟩ : ∃ m, k = m + 1 := ⟨k - 1, by omega⟩
    dsimp only
    rw [laws_markHoleSS.l0, if_pos hl', if_pos (by omega), hg, e1 m (by omega)]
    simp only [Option.bind_some]
    rw [hs, hw, e2 m (by omega), et]; rfl
theorem markHoleSS_all (l : List (List S26)) (a : Int) (hl : l.length ≤ 9000000) (h0 : 0 ≤ a) (h1 : a + 3 * tot l ≤ 20000000) (hx : ∀ x ∈ l, x.length ≤ 9000000) : Ev (fun k => laws_markHoleSS.f k l a) (a + 3 * tot l, marksSS l a) :=
  Ev.congr (f := fun k => laws_markHoleSS.l0 k l a 0) (fun _ => rfl) (by simpa using markHoleSS_l0 l [] a (by simpa using hl) h0 h1 hx)
theorem heldHoleSS_l0 (suf : List (List S26)) : ∀ (pre : List (List S26)) (a : Int), (pre ++ suf).length ≤ 9000000 → 0 ≤ a → a + 3 * tot suf ≤ 20000000 → (∀ x ∈ suf, x.length ≤ 9000000) →
    Ev (fun k => laws_heldHoleSS.l0 k (pre ++ marksSS suf a) a (pre.length : Int)) (a + 3 * tot suf) := by
  induction suf with
  | nil =>
    intro pre a _ _ _ _
    refine ev_step (f := fun _ => some _) (Ev.now _) (fun k => ?_)
    rw [laws_heldHoleSS.l0, if_neg (by simp [marksSS])]; simp [tot]
  | cons x suf ih =>
    intro pre a hl h0 h1 hx
    rw [tot] at h1
    have ht := tot_nn suf
    have hlp : pre.length + 1 ≤ 9000000 := by simp at hl; omega
    have hl' : (pre.length : Int) < ((pre ++ marksSS (x :: suf) a).length : Int) := by simp [marksSS_len]; omega
    have hw : wrap64 ((pre.length : Int) + 1) = (pre.length : Int) + 1 := wrapS (by omega) (by omega)
    obtain ⟨K1, e1⟩ := heldHoleS_all x.length a (hx x List.mem_cons_self) h0 (by omega)
    have h := ih (pre ++ [mholes x.length a]) (a + 3 * x.length) (by simp at hl ⊢; omega) (by omega) (by omega) (fun y hy => hx y (List.mem_cons_of_mem _ hy))
    rw [snoc_app, snoc_leni] at h
    obtain ⟨K2, e2⟩ := h
    dsimp only at e1 e2
    have et : a + 3 * tot (x :: suf) = a + 3 * (x.length : Int) + 3 * tot suf := by rw [tot]; omega
    refine ⟨K1 + K2 + 1, fun k hk => ?_⟩
    obtain ⟨m, rfl⟩ : ∃ m, k = m + 1 := ⟨k - 1, by omega⟩
    dsimp only
    have q2 := e2 m (by omega)
    rw [laws_heldHoleSS.l0, if_pos hl', if_pos (by omega), marksSS, rdHH_mid, e1 m (by omega)]
    simp only [Option.bind_some]
    rw [if_neg (by omega), hw, q2, et]
theorem heldHoleSS_all (l : List (List S26)) (a : Int) (hl : l.length ≤ 9000000) (h0 : 0 ≤ a) (h1 : a + 3 * tot l ≤ 20000000) (hx : ∀ x ∈ l, x.length ≤ 9000000) : Ev (fun k => laws_heldHoleSS.f k (marksSS l a) a) (a + 3 * tot l) :=
  Ev.congr (f := fun k => laws_heldHoleSS.l0 k (marksSS l a) a 0) (fun _ => rfl) (by simpa using heldHoleSS_l0 l [] a (by simpa using hl) h0 h1 hx)

/-! one hole's end changed a little -/
def chg (l : List S26) (i : Nat) (b : Int) : List S26 := l.set i ⟨(rd_T26 l (i : Int)).f0, (rd_T26 l (i : Int)).f1, wrap64 ((rd_T26 l (i : Int)).f2 + b)⟩
def keepIt (l : List S26) (s : Int) (i : Nat) (b : Int) : Bool := decide (¬ b = 0) && (good (chg l i b) && decide (sumOf 1 (chg l i b) = s))
def innerOf (l : List S26) (s : Int) (i : Nat) : Nat → Int → List (List S26)
  | 0, _ => []
  | d + 1, b => if keepIt l s i b = true then chg l i b :: innerOf l s i d (b + 1) else innerOf l s i d (b + 1)
theorem innerOf_len (l : List S26) (s : Int) (i d : Nat) : ∀ b, (innerOf l s i d b).length ≤ d := by
  induction d with
  | zero => intro b; simp [innerOf]
  | succ d ih =>
    intro b
    have := ih (b + 1)
    rw [innerOf]
    by_cases c : keepIt l s i b = true
    · rw [if_pos c]; simp; omega
    · rw [if_neg c]; omega
theorem innerOf_row (l : List S26) (s : Int) (i d : Nat) : ∀ b, ∀ z ∈ innerOf l s i d b, z.length = l.length := by
  induction d with
  | zero => intro b z hz; simp [innerOf] at hz
  | succ d ih =>
    intro b z hz
    rw [innerOf] at hz
    by_cases c : keepIt l s i b = true
    · rw [if_pos c] at hz
      rcases List.mem_cons.1 hz with rfl | hz
      · unfold chg; simp
      · exact ih _ z hz
    · rw [if_neg c] at hz; exact ih _ z hz
def outerOf (l : List S26) (s : Int) : Nat → Nat → List (List S26)
  | 0, _ => []
  | d + 1, i => innerOf l s i 7 (-3) ++ outerOf l s d (i + 1)
theorem outerOf_len (l : List S26) (s : Int) (d : Nat) : ∀ i, (outerOf l s d i).length ≤ 7 * d := by
  induction d with
  | zero => intro i; simp [outerOf]
  | succ d ih =>
    intro i
    have := ih (i + 1)
    have := innerOf_len l s i 7 (-3)
    rw [outerOf, List.length_append]; omega
theorem outerOf_row (l : List S26) (s : Int) (d : Nat) : ∀ i, ∀ z ∈ outerOf l s d i, z.length = l.length := by
  induction d with
  | zero => intro i z hz; simp [outerOf] at hz
  | succ d ih =>
    intro i z hz
    rw [outerOf] at hz
    rcases List.mem_append.1 hz with h | h
    · exact innerOf_row l s i 7 (-3) z h
    · exact ih _ z h
theorem good60 {l : List S26} (h : good l = true) : l.length ≤ 60 := by
  unfold good at h
  exact of_decide_eq_true (Bool.and_eq_true_iff.1 h).2
theorem tot_60 (l : List (List S26)) (h : ∀ z ∈ l, z.length ≤ 60) : tot l ≤ 60 * l.length := by
  induction l with
  | nil => simp [tot]
  | cons x l ih =>
    have h1 := ih (fun z hz => h z (List.mem_cons_of_mem _ hz))
    have h2 := h x List.mem_cons_self
    rw [tot, List.length_cons]; omega
def singleR (l : List S26) (s : Int) : List (List S26) × Bool := if (good l && decide (0 ≤ s ∧ s ≤ 1000002)) = true then (outerOf l s l.length 0, true) else ([], false)
theorem singleR_spec (l : List S26) (s : Int) : (singleR l s).1.length ≤ 420 ∧ ∀ z ∈ (singleR l s).1, z.length ≤ 60 := by
  unfold singleR
  by_cases c : (good l && decide (0 ≤ s ∧ s ≤ 1000002)) = true
  · rw [if_pos c]
    have h1 := good60 (Bool.and_eq_true_iff.1 c).1
    have h2 := outerOf_len l s l.length 0
    exact ⟨by simp only; omega, fun z hz => by rw [outerOf_row l s _ _ z hz]; exact h1⟩
  · rw [if_neg c]; exact ⟨by simp, fun z hz => by simp at hz⟩
theorem specSingle_l1 (l : List S26) (hl : l.length ≤ 60) (s : Int) (i : Nat) (hi : i < l.length) (R : List (List S26) × Bool) (d : Nat) : ∀ (out : List (List S26)) (b : Int), b + d = 4 → -3 ≤ b → out.length + d ≤ 1000000 →
    Ev (fun k => spec_SingleChanges.l0 k l s (out ++ innerOf l s i d b) (l.length : Int) ((i : Int) + 1)) R →
    Ev (fun k => spec_SingleChanges.l1 k l s out (i : Int) b (l.length : Int) (i : Int)) R := by
  induction d with
  | zero =>
    intro out b hb h3 ho h
    rw [innerOf, List.append_nil] at h
    have hw : wrap64 ((i : Int) + 1) = (i : Int) + 1 := wrapS (by omega) (by omega)
    refine ev_step h (fun k => ?_)
    rw [spec_SingleChanges.l1, if_neg (by omega), hw]
  | succ d ih =>
    intro out b hb h3 ho h
    have hw : wrap64 (b + 1) = b + 1 := wrapS (by omega) (by omega)
    have hc : (chg l i b).length = l.length := by unfold chg; simp
    rw [innerOf] at h
    obtain ⟨K1, e1⟩ := shGood_ok (chg l i b) (by omega)
    obtain ⟨K2, e2⟩ := ckSum_ok (chg l i b) (by omega)
    dsimp only at e1 e2
    by_cases c : keepIt l s i b = true
    · rw [if_pos c] at h
      obtain ⟨c0, c1⟩ := Bool.and_eq_true_iff.1 c
      obtain ⟨c2, c3⟩ := Bool.and_eq_true_iff.1 c1
      have d0 := of_decide_eq_true c0
      have d3 := of_decide_eq_true c3
      obtain ⟨K3, e3⟩ := ih (out ++ [chg l i b]) (b + 1) (by omega) (by omega) (by simp; omega) (by rw [List.append_assoc]; exact h)
      dsimp only at e3
      refine ⟨K1 + K2 + K3 + 1, fun k hk => ?_⟩
      obtain ⟨m, rfl⟩ : ∃ m, k = m + 1 := ⟨k - 1, by omega⟩
      have q1 := e1 m (by omega)
      have q2 := e2 m (by omega)
      rw [c2] at q1
      unfold chg at q1 q2 e3
      dsimp only
      rw [spec_SingleChanges.l1]
      simp only [Option.bind_some, List.nil_append, List.length_nil, Nat.zero_add, if_pos (show l.length < 5864062014805 by omega)]
      simp only [if_pos (show b ≤ 3 by omega), if_pos (show (0 : Int) ≤ (i : Int) by omega), if_pos (show (i : Int) < (l.length : Int) by omega), if_neg d0, Int.toNat_natCast, hw, q1, q2, Option.bind_some, if_true, if_pos (show sumOf 1 (l.set i ⟨(rd_T26 l (i : Int)).f0, (rd_T26 l (i : Int)).f1, wrap64 ((rd_T26 l (i : Int)).f2 + b)⟩) = s from d3), if_pos (show out.length < 5864062014805 by omega)]
      exact e3 m (by omega)
    · rw [if_neg c] at h
      obtain ⟨K3, e3⟩ := ih out (b + 1) (by omega) (by omega) (by omega) h
      dsimp only at e3
      refine ⟨K1 + K2 + K3 + 1, fun k hk => ?_⟩
      obtain ⟨m, rfl⟩ : ∃ m, k = m + 1 := ⟨k - 1, by omega⟩
      have q1 := e1 m (by omega)
      have q2 := e2 m (by omega)
      have q3 := e3 m (by omega)
      have c4 : keepIt l s i b = false := by simpa using c
      unfold keepIt at c4
      dsimp only
      rw [spec_SingleChanges.l1]
      simp only [Option.bind_some, List.nil_append, List.length_nil, Nat.zero_add, if_pos (show l.length < 5864062014805 by omega)]
      by_cases d0 : b = 0
      · unfold chg at q1 q2
        simp only [if_pos (show b ≤ 3 by omega), if_pos (show (0 : Int) ≤ (i : Int) by omega), if_pos (show (i : Int) < (l.length : Int) by omega), if_pos d0, Int.toNat_natCast, hw, Option.bind_some]
        exact q3
      · cases g : good (chg l i b) with
        | false =>
          rw [g] at q1
          unfold chg at q1
          simp only [if_pos (show b ≤ 3 by omega), if_pos (show (0 : Int) ≤ (i : Int) by omega), if_pos (show (i : Int) < (l.length : Int) by omega), if_neg d0, Int.toNat_natCast, hw, q1, Option.bind_some, Bool.false_eq_true, if_false]
          exact q3
        | true =>
          have d3 : ¬ sumOf 1 (chg l i b) = s := fun e => by
            rw [g, decide_eq_true d0, decide_eq_true e] at c4
            exact absurd c4 (by decide)
          rw [g] at q1
          unfold chg at q1 q2 d3
          simp only [if_pos (show b ≤ 3 by omega), if_pos (show (0 : Int) ≤ (i : Int) by omega), if_pos (show (i : Int) < (l.length : Int) by omega), if_neg d0, Int.toNat_natCast, hw, q1, q2, if_neg d3, Option.bind_some, if_true]
          exact q3
theorem specSingle_l0 (l : List S26) (hl : l.length ≤ 60) (s : Int) (d : Nat) : ∀ (i : Nat) (out : List (List S26)), i + d = l.length → out.length ≤ 7 * i →
    Ev (fun k => spec_SingleChanges.l0 k l s out (l.length : Int) (i : Int)) (out ++ outerOf l s d i, true) := by
  induction d with
  | zero =>
    intro i out hi ho
    refine ev_step (f := fun _ => some _) (Ev.now _) (fun k => ?_)
    rw [spec_SingleChanges.l0, if_neg (by omega), outerOf, List.append_nil]
  | succ d ih =>
    intro i out hi ho
    have hn := innerOf_len l s i 7 (-3)
    have h := ih (i + 1) (out ++ innerOf l s i 7 (-3)) (by omega) (by simp; omega)
    have e : ((i + 1 : Nat) : Int) = (i : Int) + 1 := by simp
    rw [e] at h
    have h1 := specSingle_l1 l hl s i (by omega) _ 7 out (-3) (by omega) (by omega) (by omega) h
    refine ev_step (ev_eq h1 (by rw [outerOf, List.append_assoc])) (fun k => ?_)
    rw [spec_SingleChanges.l0, if_pos (by omega)]
theorem implSingle_l1 (l : List S26) (hl : l.length ≤ 60) (s : Int) (i : Nat) (hi : i < l.length) (R : List (List S26) × Bool) (d : Nat) : ∀ (out : List (List S26)) (b : Int), b + d = 4 → -3 ≤ b → out.length + d ≤ 1000000 →
    Ev (fun k => impl_SingleChanges.l0 k l s (out ++ innerOf l s i d b) (l.length : Int) ((i : Int) + 1)) R →
    Ev (fun k => impl_SingleChanges.l1 k l s out (i : Int) b (l.length : Int) (i : Int)) R := by
  induction d with
  | zero =>
    intro out b hb h3 ho h
    rw [innerOf, List.append_nil] at h
    have hw : wrap64 ((i : Int) + 1) = (i : Int) + 1 := wrapS (by omega) (by omega)
    refine ev_step h (fun k => ?_)
    rw [impl_SingleChanges.l1, if_neg (by omega), hw]
  | succ d ih =>
    intro out b hb h3 ho h
    have hw : wrap64 (b + 1) = b + 1 := wrapS (by omega) (by omega)
    have hc : (chg l i b).length = l.length := by unfold chg; simp
    rw [innerOf] at h
    obtain ⟨K1, e1⟩ := isSheet_ok (chg l i b) (by omega)
    obtain ⟨K2, e2⟩ := checksumOf_ok (chg l i b) (by omega)
    dsimp only at e1 e2
    by_cases c : keepIt l s i b = true
    · rw [if_pos c] at h
      obtain ⟨c0, c1⟩ := Bool.and_eq_true_iff.1 c
      obtain ⟨c2, c3⟩ := Bool.and_eq_true_iff.1 c1
      have d0 := of_decide_eq_true c0
      have d3 := of_decide_eq_true c3
      obtain ⟨K3, e3⟩ := ih (out ++ [chg l i b]) (b + 1) (by omega) (by omega) (by simp; omega) (by rw [List.append_assoc]; exact h)
      dsimp only at e3
      refine ⟨K1 + K2 + K3 + 1, fun k hk => ?_⟩
      obtain ⟨m, rfl⟩ : ∃ m, k = m + 1 := ⟨k - 1, by omega⟩
      have q1 := e1 m (by omega)
      have q2 := e2 m (by omega)
      rw [c2] at q1
      unfold chg at q1 q2 e3
      dsimp only
      rw [impl_SingleChanges.l1, show impl_Hole.f l = some l from if_pos (show l.length < 1000000000 by omega)]
      simp only [Option.bind_some]
      simp only [if_pos (show b ≤ 3 by omega), if_pos (show (0 : Int) ≤ (i : Int) by omega), if_pos (show (i : Int) < (l.length : Int) by omega), if_neg d0, Int.toNat_natCast, hw, q1, q2, Option.bind_some, if_true, if_pos (show sumOf 1 (l.set i ⟨(rd_T26 l (i : Int)).f0, (rd_T26 l (i : Int)).f1, wrap64 ((rd_T26 l (i : Int)).f2 + b)⟩) = s from d3), if_pos (show out.length < 5864062014805 by omega)]
      exact e3 m (by omega)
    · rw [if_neg c] at h
      obtain ⟨K3, e3⟩ := ih out (b + 1) (by omega) (by omega) (by omega) h
      dsimp only at e3
      refine ⟨K1 + K2 + K3 + 1, fun k hk => ?_⟩
      obtain ⟨m, rfl⟩ : ∃ m, k = m + 1 := ⟨k - 1, by omega⟩
      have q1 := e1 m (by omega)
      have q2 := e2 m (by omega)
      have q3 := e3 m (by omega)
      have c4 : keepIt l s i b = false := by simpa using c
      unfold keepIt at c4
      dsimp only
      rw [impl_SingleChanges.l1, show impl_Hole.f l = some l from if_pos (show l.length < 1000000000 by omega)]
      simp only [Option.bind_some]
      by_cases d0 : b = 0
      · unfold chg at q1 q2
        simp only [if_pos (show b ≤ 3 by omega), if_pos (show (0 : Int) ≤ (i : Int) by omega), if_pos (show (i : Int) < (l.length : Int) by omega), if_pos d0, Int.toNat_natCast, hw, Option.bind_some]
        exact q3
      · cases g : good (chg l i b) with
        | false =>
          rw [g] at q1
          unfold chg at q1
          simp only [if_pos (show b ≤ 3 by omega), if_pos (show (0 : Int) ≤ (i : Int) by omega), if_pos (show (i : Int) < (l.length : Int) by omega), if_neg d0, Int.toNat_natCast, hw, q1, Option.bind_some, Bool.false_eq_true, if_false]
          exact q3
        | true =>
          have d3 : ¬ sumOf 1 (chg l i b) = s := fun e => by
            rw [g, decide_eq_true d0, decide_eq_true e] at c4
            exact absurd c4 (by decide)
          rw [g] at q1
          unfold chg at q1 q2 d3
          simp only [if_pos (show b ≤ 3 by omega), if_pos (show (0 : Int) ≤ (i : Int) by omega), if_pos (show (i : Int) < (l.length : Int) by omega), if_neg d0, Int.toNat_natCast, hw, q1, q2, if_neg d3, Option.bind_some, if_true]
          exact q3
theorem implSingle_l0 (l : List S26) (hl : l.length ≤ 60) (s : Int) (d : Nat) : ∀ (i : Nat) (out : List (List S26)), i + d = l.length → out.length ≤ 7 * i →
    Ev (fun k => impl_SingleChanges.l0 k l s out (l.length : Int) (i : Int)) (out ++ outerOf l s d i, true) := by
  induction d with
  | zero =>
    intro i out hi ho
    refine ev_step (f := fun _ => some _) (Ev.now _) (fun k => ?_)
    rw [impl_SingleChanges.l0, if_neg (by omega), outerOf, List.append_nil]
  | succ d ih =>
    intro i out hi ho
    have hn := innerOf_len l s i 7 (-3)
    have h := ih (i + 1) (out ++ innerOf l s i 7 (-3)) (by omega) (by simp; omega)
    have e : ((i + 1 : Nat) : Int) = (i : Int) + 1 := by simp
    rw [e] at h
    have h1 := implSingle_l1 l hl s i (by omega) _ 7 out (-3) (by omega) (by omega) (by omega) h
    refine ev_step (ev_eq h1 (by rw [outerOf, List.append_assoc])) (fun k => ?_)
    rw [impl_SingleChanges.l0, if_pos (by omega)]
theorem specSingle_ok (l : List S26) (s : Int) (hl : l.length ≤ 1048576) : Ev (fun k => spec_SingleChanges.f k l s) (singleR l s) := by
  have no : ∀ z : Bool, z = true → singleR l s = ([], false) → Ev (fun k => spec_SingleChanges.j0 k l s z) (singleR l s) := fun z hz g => by
    rw [hz, g]
    refine ev_step (f := fun _ => some _) (Ev.now _) (fun k => ?_)
    rw [spec_SingleChanges.j0, if_pos rfl]
  refine Ev.bind (shGood_ok l (by omega)) ?_
  cases g0 : good l with
  | false => simp only [Bool.false_eq_true, if_false]; exact no true rfl (by simp [singleR, g0])
  | true =>
    have hc : spec_ckIs.f s = some (decide (0 ≤ s ∧ s ≤ 1000002)) := by
      unfold spec_ckIs.f spec_l1In.f
      by_cases h : s ≥ 0
      · rw [if_pos h]; simp only [Option.bind_some]; congr 1; exact decide_eq_decide.2 ⟨fun q => ⟨h, q⟩, fun q => q.2⟩
      · rw [if_neg h]; simp only [Option.bind_some]; congr 1; exact (decide_eq_false (fun q => h q.1)).symm
    simp only [if_true, hc, Option.bind_some]
    by_cases c : 0 ≤ s ∧ s ≤ 1000002
    · have h1 := good60 g0
      have h := specSingle_l0 l h1 s l.length 0 [] (by omega) (by simp)
      simp only [List.nil_append, Int.natCast_zero] at h
      refine ev_step (ev_eq h (by simp only [singleR, g0, Bool.true_and, decide_eq_true c, if_true])) (fun k => ?_)
      rw [spec_SingleChanges.j0, if_neg (by rw [decide_eq_true c]; decide)]
    · exact no _ (by rw [decide_eq_false c]; rfl) (by simp only [singleR, decide_eq_false c, Bool.and_false, Bool.false_eq_true, if_false])
theorem implSingle_ok (l : List S26) (s : Int) (hl : l.length ≤ 1048576) : Ev (fun k => impl_SingleChanges.f k l s) (singleR l s) := by
  have no : ∀ z : Bool, z = true → singleR l s = ([], false) → Ev (fun k => impl_SingleChanges.j0 k l s z) (singleR l s) := fun z hz g => by
    rw [hz, g]
    refine ev_step (f := fun _ => some _) (Ev.now _) (fun k => ?_)
    rw [impl_SingleChanges.j0, if_pos rfl]
  refine Ev.bind (isSheet_ok l (by omega)) ?_
  cases g0 : good l with
  | false => simp only [Bool.false_eq_true, if_false]; exact no true rfl (by simp [singleR, g0])
  | true =>
    have hc : impl_isChecksum.f s = some (decide (0 ≤ s ∧ s ≤ 1000002)) := by
      unfold impl_isChecksum.f
      by_cases h : s ≥ 0
      · rw [if_pos h]; congr 1; exact decide_eq_decide.2 ⟨fun q => ⟨h, by omega⟩, fun q => by omega⟩
      · rw [if_neg h]; congr 1; exact (decide_eq_false (fun q => h q.1)).symm
    simp only [if_true, hc, Option.bind_some]
    by_cases c : 0 ≤ s ∧ s ≤ 1000002
    · have h1 := good60 g0
      have h := implSingle_l0 l h1 s l.length 0 [] (by omega) (by simp)
      simp only [List.nil_append, Int.natCast_zero] at h
      refine ev_step (ev_eq h (by simp only [singleR, g0, Bool.true_and, decide_eq_true c, if_true])) (fun k => ?_)
      rw [impl_SingleChanges.j0, if_neg (by rw [decide_eq_true c]; decide)]
    · exact no _ (by rw [decide_eq_false c]; rfl) (by simp only [singleR, decide_eq_false c, Bool.and_false, Bool.false_eq_true, if_false])
theorem FnExactSingleChanges (l : List S23) (s : Int) (hb : l.length * 24 ≤ 140737488351232) (hw : ∀ y ∈ l, ((Lit.int .i64 y.f0).wf = true) ∧ ((Lit.int .i64 y.f1).wf = true) ∧ ((Lit.int .i64 y.f2).wf = true)) (hs : (Lit.int .i64 s).wf = true) : ∃ k, laws_FnExactSingleChanges.f k l s = some true := by
  have m1 : (-1 : Int) < 0 := by omega
  by_cases c : 1048576 < (l.length : Int)
  · exact ⟨0, by simp only [laws_FnExactSingleChanges.f, szHoleS_out l 1048576 (by omega) (by omega) c, Option.bind_some, m1, if_true]⟩
  have z0 := szHoleS_in l 1048576 (by omega) (by omega)
  have n0 : ¬ (1048576 - (l.length : Int)) < 0 := by omega
  have hl : l.length ≤ 1048576 := by omega
  have hl2 : (l.map toH).length ≤ 1048576 := by simpa using hl
  obtain ⟨hr, h2⟩ := singleR_spec (l.map toH) s
  have ht := tot_60 _ h2
  have hx : ∀ z ∈ (singleR (l.map toH) s).1, z.length ≤ 9000000 := fun z hz => by have := h2 z hz; omega
  have hx2 : ∀ z ∈ (singleR (l.map toH) s).1, z.length ≤ 1048576 := fun z hz => by have := h2 z hz; omega
  have hnn := tot_nn (singleR (l.map toH) s).1
  obtain ⟨K1, e1⟩ := toHoleS_copy l hl
  obtain ⟨K3, e3⟩ := specSingle_ok (l.map toH) s hl2
  obtain ⟨K4, e4⟩ := implSingle_ok (l.map toH) s hl2
  obtain ⟨K6, e6⟩ := eqHoleS_same (l.map toH) (by omega)
  obtain ⟨K8, e8⟩ := eqHoleSS_same (singleR (l.map toH) s).1 (by omega) hx2
  obtain ⟨K9, e9⟩ := markHoleS_all (l.map toH) 1 (by omega) (by omega) (by omega)
  obtain ⟨K12, e12⟩ := markHoleSS_all (singleR (l.map toH) s).1 1 (by omega) (by omega) (by omega) hx
  obtain ⟨K13, e13⟩ := heldHoleSS_all (singleR (l.map toH) s).1 1 (by omega) (by omega) (by omega) hx
  have n2 : ¬ (1 + 3 * ((l.map toH).length : Int)) < 0 := by omega
  have n3 : ¬ (1 + 3 * tot (singleR (l.map toH) s).1) < 0 := by omega
  dsimp only at e1 e3 e4 e6 e8 e9 e12 e13
  refine ⟨K1 + K3 + K4 + K6 + K8 + K9 + K12 + K13 + 6, ?_⟩
  simp (disch := omega) only [laws_FnExactSingleChanges.f, z0, n0, n2, n3, e1, e3, e4, e6, e8, e9, e12, e13, if_false, if_true, Option.bind_some, bnot_ne, Bool.false_eq_true]
  simp (disch := omega) only [laws_FnExactSingleChanges.j0, z0, n0, n2, n3, e1, e3, e4, e6, e8, e9, e12, e13, if_false, if_true, Option.bind_some, bnot_ne, Bool.false_eq_true]
  simp (disch := omega) only [laws_FnExactSingleChanges.j1, z0, n0, n2, n3, e1, e3, e4, e6, e8, e9, e12, e13, if_false, if_true, Option.bind_some, bnot_ne, Bool.false_eq_true]
  simp (disch := omega) only [laws_FnExactSingleChanges.j2, z0, n0, n2, n3, e1, e3, e4, e6, e8, e9, e12, e13, if_false, if_true, Option.bind_some, bnot_ne, Bool.false_eq_true]

end Go.Proofs.Ytlcobkldkcdhbaa.LSingleChanges
