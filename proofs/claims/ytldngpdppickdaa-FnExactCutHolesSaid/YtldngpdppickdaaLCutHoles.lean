/- For every input the law FnExactCutHoles answers true, after some number of rounds; the conditions are the input's own bounds. -/
import Derived.Test.YtldngpdppickdaaQFnExactCutHolesx10
import Derived.Test.YtldngpdppickdaaBase
namespace Go.Proofs.Ytldngpdppickdaa.LCutHoles
open Go Go.RowKit Go.Proofs.Ytldngpdppickdaa.QFnExactCutHoles Go.Proofs.YtldngpdppickdaaW.PrintWords Go.Proofs.YtldngpdppickdaaW.PrintLast Go.Proofs.YtldngpdppickdaaW.PrintMore Go.Proofs.Ytldngpdppickdaa.Base
set_option linter.unusedVariables false
set_option linter.unusedSimpArgs false

/-! one hole: whether it is valid, its number -/
/-- A valid hole. -/
def holeOk (t a b : Int) : Bool := decide (0 ≤ t ∧ t ≤ 19 ∧ 0 ≤ a ∧ a ≤ 1999 ∧ a < b ∧ b ≤ 2000)

theorem shHole_ok (t a b : Int) : spec_shHole.f t a b = some (holeOk t a b) := by
  unfold spec_shHole.f spec_l1In.f holeOk
  by_cases h1 : 0 ≤ t
  · by_cases h2 : t ≤ 19
    · by_cases h3 : 0 ≤ a
      · by_cases h4 : a ≤ 1999
        · have hw : wrap64 (a + 1) = a + 1 := wrapS (by omega) (by omega)
          by_cases h5 : a + 1 ≤ b
          · simp [h1, h2, h3, h4, hw, h5, show a < b by omega]
          · simp [h1, h2, h3, h4, hw, h5, show ¬ a < b by omega]
        · simp [h1, h2, h3, h4]
      · simp [h1, h2, h3]
    · simp [h1, h2]
  · simp [h1]

theorem isHole_ok (t a b : Int) : impl_IsHole.f t a b = some (holeOk t a b) := by
  unfold impl_IsHole.f impl_isTrack.f holeOk
  by_cases h1 : 0 ≤ t
  · by_cases h2 : t < 20
    · by_cases h3 : 0 ≤ a
      · by_cases h4 : a < b
        · by_cases h5 : b ≤ 2000
          · simp [h1, h2, h3, h4, h5, show t ≤ 19 by omega, show a ≤ 1999 by omega]
          · simp [h1, h2, h3, h4, h5]
        · simp [h1, h2, h3, h4]
      · simp [h1, h2, h3]
    · simp [h1, h2, show ¬ t ≤ 19 by omega]
  · simp [h1]

theorem holeOk_bounds {t a b : Int} (h : holeOk t a b = true) : 0 ≤ t ∧ t ≤ 19 ∧ 0 ≤ a ∧ a ≤ 1999 ∧ a < b ∧ b ≤ 2000 := by
  simpa [holeOk] using h

/-! slices of holes: copied, held against each other; valid sheets -/
def toH (x : S153) : S87 := ⟨x.f0, x.f1, x.f2⟩
theorem rdL_mid (pre suf : List S153) (x : S153) : rd_T153 (pre ++ x :: suf) (pre.length : Int) = x := getD_mid _ _ _ _ _ (by simp)
theorem rdH_mid (pre suf : List S87) (x : S87) : rd_T87 (pre ++ x :: suf) (pre.length : Int) = x := getD_mid _ _ _ _ _ (by simp)

theorem toHoleS_l0 (suf : List S153) : ∀ pre : List S153, (pre ++ suf).length ≤ 9223372036854775806 →
    Ev (fun k => laws_toHoleS.l0 k (pre ++ suf) (pre.map toH ++ List.replicate suf.length z87) (pre.length : Int)) ((pre ++ suf).map toH) := by
  induction suf with
  | nil =>
    intro pre _
    refine ev_step ev_const (fun k => ?_)
    rw [laws_toHoleS.l0, if_neg (by simp)]
    simp
  | cons x suf ih =>
    intro pre hl
    have h := ih (pre ++ [x]) (by simp at hl ⊢; omega)
    rw [snoc_app, snoc_leni, List.map_append, List.map_cons, List.map_nil, snoc_app] at h
    have hl' : (pre.length : Int) < ((pre ++ x :: suf).length : Int) := by simp; omega
    refine ev_step h (fun k => ?_)
    rw [laws_toHoleS.l0, if_pos hl', if_pos (by omega), rdL_mid]
    simp only [laws_toHole.f, Option.bind_some]
    rw [if_pos (by simp; omega), wrapS (by omega) (by simp at hl; omega), List.length_cons, List.replicate_succ, set_mid _ _ _ _ _ (by simp)]
    rfl

theorem toHoleS_copy (l : List S153) (h : l.length ≤ 1048576) : Ev (fun k => laws_toHoleS.f k l) (l.map toH) := by
  have := toHoleS_l0 l [] (by simp; omega)
  refine Ev.congr (fun k => ?_) this
  rw [laws_toHoleS.f, if_pos (by omega), if_pos (by omega)]
  simp

theorem eqHoleS_l0 (suf : List S87) : ∀ pre : List S87, (pre ++ suf).length ≤ 9223372036854775806 → Ev (fun k => laws_eqHoleS.l0 k (pre ++ suf) (pre ++ suf) (pre.length : Int)) true := by
  induction suf with
  | nil =>
    intro pre _
    refine ev_step ev_const (fun k => ?_)
    rw [laws_eqHoleS.l0, if_neg (by simp)]
  | cons x suf ih =>
    intro pre hl
    have h := ih (pre ++ [x]) (by simp at hl ⊢; omega)
    rw [snoc_app, snoc_leni] at h
    have hl' : (pre.length : Int) < ((pre ++ x :: suf).length : Int) := by simp; omega
    refine ev_step h (fun k => ?_)
    rw [laws_eqHoleS.l0, if_pos hl', if_pos (by omega), if_pos hl']
    simp only [laws_eqHole.f, if_true, Option.bind_some]
    rw [wrapS (by omega) (by simp at hl; omega)]

theorem eqHoleS_same (l : List S87) (h : l.length ≤ 9223372036854775806) : Ev (fun k => laws_eqHoleS.f k l l) true := by
  have := eqHoleS_l0 l [] (by simpa using h)
  refine Ev.congr (fun k => ?_) this
  simp [laws_eqHoleS.f]

theorem szHoleS_in (l : List S153) (n : Int) (hn : n ≤ 9223372036854775807) (h : (l.length : Int) ≤ n) : laws_szHoleS.f l n = some (n - l.length) := by
  have hw : wrap64 (n - l.length) = n - l.length := wrapS (by omega) (by omega)
  rw [laws_szHoleS.f, hw, if_neg (by omega)]
theorem szHoleS_out (l : List S153) (n : Int) (hn : 0 ≤ n) (hl : l.length ≤ 9223372036854775807) (h : n < (l.length : Int)) : laws_szHoleS.f l n = some (-1) := by
  have hw : wrap64 (n - l.length) = n - l.length := wrapS (by omega) (by omega)
  rw [laws_szHoleS.f, hw, if_pos (by omega)]

/-- The hole x meets the earlier hole y. -/
def meets (x y : S87) : Bool := decide (x.f0 = y.f0 ∧ x.f1 ≤ y.f2)
def before (a b : S87) : Bool := decide (a.f1 < b.f1 ∨ (a.f1 = b.f1 ∧ a.f0 < b.f0))
def lastBefore (pre : List S87) (x : S87) : Bool := match pre.getLast? with | none => true | some p => before p x
def goodAt (pre : List S87) (x : S87) : Bool := holeOk x.f0 x.f1 x.f2 && (lastBefore pre x && !(pre.any (meets x)))
def goodFrom : List S87 → List S87 → Bool
  | _, [] => true
  | pre, x :: suf => goodAt pre x && goodFrom (pre ++ [x]) suf
/-- A valid sheet. -/
def good (l : List S87) : Bool := goodFrom [] l && decide (l.length ≤ 60)

theorem shBefore_ok (a b : S87) : spec_shBefore.f a.f0 a.f1 a.f2 b.f0 b.f1 b.f2 = some (before a b) := by
  unfold spec_shBefore.f before
  by_cases h : a.f1 < b.f1
  · simp [h]
  · by_cases h1 : a.f1 = b.f1
    · simp [h1]
    · simp [h, h1]
theorem holeLess_ok (a b : S87) : impl_holeLess.f a.f0 a.f1 a.f2 b.f0 b.f1 b.f2 = some (before a b) := by
  unfold impl_holeLess.f before
  by_cases h1 : a.f1 = b.f1
  · simp [h1]
  · simp [h1]

theorem shGood_l1 (x : S87) (l : List S87) (n i : Int) (r : Bool) (suf : List S87) : ∀ pre : List S87, (pre ++ suf).length ≤ 9223372036854775806 →
    (suf.any (meets x) = true → r = false) → (suf.any (meets x) = false → Ev (fun k => spec_shGood.l0 k l l n (wrap64 (i + 1))) r) →
    Ev (fun k => spec_shGood.l1 k l l n i (pre ++ suf) ((pre ++ suf).length : Int) (pre.length : Int) x.f0 x.f1 x.f2) r := by
  induction suf with
  | nil =>
    intro pre _ _ h
    refine ev_step (h rfl) (fun k => ?_)
    rw [spec_shGood.l1, if_neg (by simp)]
  | cons y suf ih =>
    intro pre hl h1 h2
    have hl' : (pre.length : Int) < ((pre ++ y :: suf).length : Int) := by simp; omega
    have hw : wrap64 ((pre.length : Int) + 1) = (pre.length : Int) + 1 := wrapS (by omega) (by simp at hl; omega)
    by_cases hm : meets x y = true
    · have e : r = false := h1 (by simp [hm])
      subst e
      simp only [meets, decide_eq_true_eq] at hm
      refine ev_step ev_const (fun k => ?_)
      rw [spec_shGood.l1, if_pos hl', if_pos (by omega), if_pos hl', rdH_mid, if_pos hm.1, if_pos hm.2]
    · replace hm : meets x y = false := by simpa using hm
      have h := ih (pre ++ [y]) (by simp at hl ⊢; omega) (fun e => h1 (by simp [e])) (fun e => h2 (by simp [hm, e]))
      rw [snoc_app, snoc_leni] at h
      simp only [meets, decide_eq_false_iff_not] at hm
      refine ev_step h (fun k => ?_)
      rw [spec_shGood.l1, if_pos hl', if_pos (by omega), if_pos hl', rdH_mid, hw]
      by_cases e : x.f0 = y.f0
      · rw [if_pos e, if_neg (fun e2 => hm ⟨e, e2⟩)]
      · rw [if_neg e]

theorem shGood_j1 (x : S87) (pre suf : List S87) (n : Int) (b r : Bool) (hl : (pre ++ suf).length ≤ 9223372036854775806) (hb : b = true → r = false) (h1 : b = false → pre.any (meets x) = true → r = false)
    (h2 : b = false → pre.any (meets x) = false → Ev (fun k => spec_shGood.l0 k (pre ++ suf) (pre ++ suf) n (wrap64 ((pre.length : Int) + 1))) r) :
    Ev (fun k => spec_shGood.j1 k (pre ++ suf) (pre.length : Int) (pre ++ suf) n (pre.length : Int) b x.f0 x.f1 x.f2) r := by
  cases b with
  | true =>
    obtain rfl := hb rfl
    refine ev_step ev_const (fun k => ?_)
    rw [spec_shGood.j1, if_pos rfl]
  | false =>
    have h := shGood_l1 x (pre ++ suf) n (pre.length : Int) r pre [] (by simp at hl ⊢; omega) (h1 rfl) (h2 rfl)
    refine ev_step h (fun k => ?_)
    rw [spec_shGood.j1, if_neg (by decide), if_pos (by omega), if_pos (by simp; omega)]
    simp

theorem shGood_l0 (suf : List S87) : ∀ pre : List S87, (pre ++ suf).length ≤ 9223372036854775806 →
    Ev (fun k => spec_shGood.l0 k (pre ++ suf) (pre ++ suf) ((pre ++ suf).length : Int) (pre.length : Int)) (goodFrom pre suf && decide ((pre ++ suf).length ≤ 60)) := by
  induction suf with
  | nil =>
    intro pre _
    refine ev_step (Ev.now _) (fun k => ?_)
    rw [spec_shGood.l0, if_neg (by simp)]
    simp [goodFrom]
    omega
  | cons x suf ih =>
    intro pre hl
    have h := ih (pre ++ [x]) (by simp at hl ⊢; omega)
    rw [snoc_app, snoc_leni] at h
    have hl' : (pre.length : Int) < ((pre ++ x :: suf).length : Int) := by simp; omega
    have hw : wrap64 ((pre.length : Int) + 1) = (pre.length : Int) + 1 := wrapS (by omega) (by simp at hl; omega)
    have J : ∀ b, (b = !(holeOk x.f0 x.f1 x.f2 && lastBefore pre x)) → Ev (fun k => spec_shGood.j1 k (pre ++ x :: suf) (pre.length : Int) (pre ++ x :: suf) ((pre ++ x :: suf).length : Int) (pre.length : Int) b x.f0 x.f1 x.f2) (goodFrom pre (x :: suf) && decide ((pre ++ x :: suf).length ≤ 60)) := by
      intro b hb
      refine shGood_j1 x pre (x :: suf) _ b _ hl (fun e => ?_) (fun e e2 => ?_) (fun e e2 => ?_)
      · simp only [goodFrom, goodAt]
        cases h1 : holeOk x.f0 x.f1 x.f2 <;> cases h2 : lastBefore pre x <;> simp_all
      · simp [goodFrom, goodAt, e2]
      · rw [hw]
        have e3 : goodFrom pre (x :: suf) = goodFrom (pre ++ [x]) suf := by
          simp only [goodFrom, goodAt, e2]
          cases h1 : holeOk x.f0 x.f1 x.f2 <;> cases h2 : lastBefore pre x <;> simp_all
        rw [e3]
        exact h
    cases ho : holeOk x.f0 x.f1 x.f2 with
    | false =>
      refine ev_step (J true (by simp [ho])) (fun k => ?_)
      rw [spec_shGood.l0, if_pos hl', if_pos (by omega), if_pos hl', rdH_mid, shHole_ok, ho]
      simp
    | true =>
      rcases List.eq_nil_or_concat pre with rfl | ⟨pre', p, rfl⟩
      · refine ev_step (J false (by simp [ho, lastBefore])) (fun k => ?_)
        rw [spec_shGood.l0, if_pos hl', if_pos (by omega), if_pos hl', rdH_mid, shHole_ok, ho]
        simp
      · refine ev_step (J (!(before p x)) (by simp [ho, lastBefore])) (fun k => ?_)
        have e1 : ((pre' ++ [p]).length : Int) = (pre'.length : Int) + 1 := by simp
        have hw2 : wrap64 (((pre' ++ [p]).length : Int) - 1) = (pre'.length : Int) := by
          rw [e1, wrapS (by omega) (by simp at hl; omega)]; omega
        have e2 : rd_T87 (pre' ++ [p] ++ x :: suf) (pre'.length : Int) = p := by
          rw [snoc_app]; exact rdH_mid _ _ _
        rw [spec_shGood.l0, if_pos hl', if_pos (by omega), if_pos hl', rdH_mid, shHole_ok, ho]
        simp only [List.concat_eq_append] at *
        simp only [Option.bind_some, if_true]
        rw [if_pos (by omega), hw2, if_pos (by omega), if_pos (by simp; omega), e2, shBefore_ok]
        simp only [Option.bind_some]

theorem shGood_ok (l : List S87) (h : l.length ≤ 9223372036854775806) : Ev (fun k => spec_shGood.f k l) (good l) :=
  Ev.congr (fun _ => rfl) (shGood_l0 l [] (by simpa using h))

theorem isSheet_l1 (x : S87) (l : List S87) (n i : Int) (r : Bool) (suf : List S87) : ∀ pre : List S87, (pre ++ suf).length ≤ 9223372036854775806 →
    (suf.any (meets x) = true → r = false) → (suf.any (meets x) = false → Ev (fun k => impl_IsSheet.l0 k l l n (wrap64 (i + 1))) r) →
    Ev (fun k => impl_IsSheet.l1 k l l n i (pre ++ suf) ((pre ++ suf).length : Int) (pre.length : Int) x.f0 x.f1 x.f2) r := by
  induction suf with
  | nil =>
    intro pre _ _ h
    refine ev_step (h rfl) (fun k => ?_)
    rw [impl_IsSheet.l1, if_neg (by simp)]
  | cons y suf ih =>
    intro pre hl h1 h2
    have hl' : (pre.length : Int) < ((pre ++ y :: suf).length : Int) := by simp; omega
    have hw : wrap64 ((pre.length : Int) + 1) = (pre.length : Int) + 1 := wrapS (by omega) (by simp at hl; omega)
    by_cases hm : meets x y = true
    · have e : r = false := h1 (by simp [hm])
      subst e
      simp only [meets, decide_eq_true_eq] at hm
      refine ev_step ev_const (fun k => ?_)
      rw [impl_IsSheet.l1, if_pos hl', if_pos (by omega), if_pos hl', rdH_mid, if_pos hm.1.symm, if_pos hm.2]
    · replace hm : meets x y = false := by simpa using hm
      have h := ih (pre ++ [y]) (by simp at hl ⊢; omega) (fun e => h1 (by simp [e])) (fun e => h2 (by simp [hm, e]))
      rw [snoc_app, snoc_leni] at h
      simp only [meets, decide_eq_false_iff_not] at hm
      refine ev_step h (fun k => ?_)
      rw [impl_IsSheet.l1, if_pos hl', if_pos (by omega), if_pos hl', rdH_mid, hw]
      by_cases e : x.f0 = y.f0
      · rw [if_pos e.symm, if_neg (fun e2 => hm ⟨e, e2⟩)]
      · rw [if_neg (fun e2 => e e2.symm)]

theorem isSheet_j1 (x : S87) (pre suf : List S87) (n : Int) (b r : Bool) (hl : (pre ++ suf).length ≤ 9223372036854775806) (hb : b = true → r = false) (h1 : b = false → pre.any (meets x) = true → r = false)
    (h2 : b = false → pre.any (meets x) = false → Ev (fun k => impl_IsSheet.l0 k (pre ++ suf) (pre ++ suf) n (wrap64 ((pre.length : Int) + 1))) r) :
    Ev (fun k => impl_IsSheet.j1 k (pre ++ suf) (pre.length : Int) (pre ++ suf) n (pre.length : Int) b x.f0 x.f1 x.f2) r := by
  cases b with
  | true =>
    obtain rfl := hb rfl
    refine ev_step ev_const (fun k => ?_)
    rw [impl_IsSheet.j1, if_pos rfl]
  | false =>
    have h := isSheet_l1 x (pre ++ suf) n (pre.length : Int) r pre [] (by simp at hl ⊢; omega) (h1 rfl) (h2 rfl)
    refine ev_step h (fun k => ?_)
    rw [impl_IsSheet.j1, if_neg (by decide), if_pos (by omega), if_pos (by simp; omega)]
    simp

theorem isSheet_l0 (suf : List S87) : ∀ pre : List S87, (pre ++ suf).length ≤ 9223372036854775806 →
    Ev (fun k => impl_IsSheet.l0 k (pre ++ suf) (pre ++ suf) ((pre ++ suf).length : Int) (pre.length : Int)) (goodFrom pre suf) := by
  induction suf with
  | nil =>
    intro pre _
    refine ev_step (Ev.now _) (fun k => ?_)
    rw [impl_IsSheet.l0, if_neg (by simp)]
    simp [goodFrom]
  | cons x suf ih =>
    intro pre hl
    have h := ih (pre ++ [x]) (by simp at hl ⊢; omega)
    rw [snoc_app, snoc_leni] at h
    have hl' : (pre.length : Int) < ((pre ++ x :: suf).length : Int) := by simp; omega
    have hw : wrap64 ((pre.length : Int) + 1) = (pre.length : Int) + 1 := wrapS (by omega) (by simp at hl; omega)
    have J : ∀ b, (b = !(holeOk x.f0 x.f1 x.f2 && lastBefore pre x)) → Ev (fun k => impl_IsSheet.j1 k (pre ++ x :: suf) (pre.length : Int) (pre ++ x :: suf) ((pre ++ x :: suf).length : Int) (pre.length : Int) b x.f0 x.f1 x.f2) (goodFrom pre (x :: suf)) := by
      intro b hb
      refine isSheet_j1 x pre (x :: suf) _ b _ hl (fun e => ?_) (fun e e2 => ?_) (fun e e2 => ?_)
      · simp only [goodFrom, goodAt]
        cases h1 : holeOk x.f0 x.f1 x.f2 <;> cases h2 : lastBefore pre x <;> simp_all
      · simp [goodFrom, goodAt, e2]
      · rw [hw]
        have e3 : goodFrom pre (x :: suf) = goodFrom (pre ++ [x]) suf := by
          simp only [goodFrom, goodAt, e2]
          cases h1 : holeOk x.f0 x.f1 x.f2 <;> cases h2 : lastBefore pre x <;> simp_all
        rw [e3]
        exact h
    cases ho : holeOk x.f0 x.f1 x.f2 with
    | false =>
      refine ev_step (J true (by simp [ho])) (fun k => ?_)
      rw [impl_IsSheet.l0, if_pos hl', if_pos (by omega), if_pos hl', rdH_mid, isHole_ok, ho]
      simp
    | true =>
      rcases List.eq_nil_or_concat pre with rfl | ⟨pre', p, rfl⟩
      · refine ev_step (J false (by simp [ho, lastBefore])) (fun k => ?_)
        rw [impl_IsSheet.l0, if_pos hl', if_pos (by omega), if_pos hl', rdH_mid, isHole_ok, ho]
        simp
      · refine ev_step (J (!(before p x)) (by simp [ho, lastBefore])) (fun k => ?_)
        have e1 : ((pre' ++ [p]).length : Int) = (pre'.length : Int) + 1 := by simp
        have hw2 : wrap64 (((pre' ++ [p]).length : Int) - 1) = (pre'.length : Int) := by
          rw [e1, wrapS (by omega) (by simp at hl; omega)]; omega
        have e2 : rd_T87 (pre' ++ [p] ++ x :: suf) (pre'.length : Int) = p := by
          rw [snoc_app]; exact rdH_mid _ _ _
        rw [impl_IsSheet.l0, if_pos hl', if_pos (by omega), if_pos hl', rdH_mid, isHole_ok, ho]
        simp only [List.concat_eq_append] at *
        simp only [Option.bind_some, if_true]
        rw [if_pos (by omega), hw2, if_pos (by omega), if_pos (by simp; omega), e2, holeLess_ok]
        simp only [Option.bind_some]

theorem isSheet_ok (l : List S87) (h : l.length ≤ 9223372036854775806) : Ev (fun k => impl_IsSheet.f k l) (good l) := by
  by_cases h6 : (l.length : Int) > 60
  · refine Ev.congr (f := fun _ => some (good l)) (fun k => ?_) ev_const
    rw [impl_IsSheet.f, if_pos h6]
    have : ¬ l.length ≤ 60 := by omega
    simp [good, this]
  · refine Ev.congr (fun k => ?_) (ev_eq (isSheet_l0 l [] (by simpa using h)) ?_)
    · rw [impl_IsSheet.f, if_neg h6]
      rfl
    · have : l.length ≤ 60 := by omega
      simp [good, this]

/-! slices of slices of holes: copied, held against each other, measured -/
theorem rdLL_mid (pre suf : List (List S153)) (x : List S153) : rd_L2 (pre ++ x :: suf) (pre.length : Int) = x := getD_mid _ _ _ _ _ (by simp)
theorem rdHH_mid (pre suf : List (List S87)) (x : List S87) : rd_L6 (pre ++ x :: suf) (pre.length : Int) = x := getD_mid _ _ _ _ _ (by simp)
theorem toHoleSS_l0 (suf : List (List S153)) : ∀ pre : List (List S153), (pre ++ suf).length ≤ 1048576 → (∀ x ∈ suf, x.length ≤ 1048576) →
    Ev (fun k => laws_toHoleSS.l0 k (pre ++ suf) (pre.map (List.map toH) ++ List.replicate suf.length []) (pre.length : Int)) ((pre ++ suf).map (List.map toH)) := by
  induction suf with
  | nil =>
    intro pre _ _
    refine ev_step ev_const (fun k => ?_)
    rw [laws_toHoleSS.l0, if_neg (by simp)]
    simp
  | cons x suf ih =>
    intro pre hl hx
    have h := ih (pre ++ [x]) (by simp at hl ⊢; omega) (fun y hy => hx y (List.mem_cons_of_mem _ hy))
    rw [snoc_app, snoc_leni, List.map_append, List.map_cons, List.map_nil, snoc_app] at h
    have hl' : (pre.length : Int) < ((pre ++ x :: suf).length : Int) := by simp; omega
    have hlp : pre.length ≤ 1048576 := by simp at hl; omega
    have hw : wrap64 ((pre.length : Int) + 1) = (pre.length : Int) + 1 := wrapS (by omega) (by omega)
    obtain ⟨K1, e1⟩ := toHoleS_copy x (hx x List.mem_cons_self)
    obtain ⟨K2, e2⟩ := h
    dsimp only at e1 e2
    refine ⟨K1 + K2 + 1, fun k hk => ?_⟩
    obtain ⟨m, rfl⟩ : ∃ m, k = m + 1 := ⟨k - 1, by omega⟩
    dsimp only
    rw [laws_toHoleSS.l0, if_pos hl', if_pos (by omega), rdLL_mid, e1 m (by omega)]
    simp only [Option.bind_some]
    rw [if_pos (by simp; omega), hw, List.length_cons, List.replicate_succ, set_mid _ _ _ _ _ (by simp)]
    exact e2 m (by omega)
theorem toHoleSS_copy (l : List (List S153)) (h : l.length ≤ 1048576) (hx : ∀ x ∈ l, x.length ≤ 1048576) : Ev (fun k => laws_toHoleSS.f k l) (l.map (List.map toH)) := by
  have := toHoleSS_l0 l [] (by simpa using h) hx
  refine Ev.congr (fun k => ?_) this
  rw [laws_toHoleSS.f, if_pos (by omega), if_pos (by omega)]
  simp
theorem eqHoleSS_l0 (suf : List (List S87)) : ∀ pre : List (List S87), (pre ++ suf).length ≤ 1048576 → (∀ x ∈ suf, x.length ≤ 1048576) →
    Ev (fun k => laws_eqHoleSS.l0 k (pre ++ suf) (pre ++ suf) (pre.length : Int)) true := by
  induction suf with
  | nil =>
    intro pre _ _
    refine ev_step ev_const (fun k => ?_)
    rw [laws_eqHoleSS.l0, if_neg (by simp)]
  | cons x suf ih =>
    intro pre hl hx
    have h := ih (pre ++ [x]) (by simp at hl ⊢; omega) (fun y hy => hx y (List.mem_cons_of_mem _ hy))
    rw [snoc_app, snoc_leni] at h
    have hl' : (pre.length : Int) < ((pre ++ x :: suf).length : Int) := by simp; omega
    have hlp : pre.length ≤ 1048576 := by simp at hl; omega
    have hw : wrap64 ((pre.length : Int) + 1) = (pre.length : Int) + 1 := wrapS (by omega) (by omega)
    obtain ⟨K1, e1⟩ := eqHoleS_same x (by have := hx x List.mem_cons_self; omega)
    obtain ⟨K2, e2⟩ := h
    dsimp only at e1 e2
    refine ⟨K1 + K2 + 1, fun k hk => ?_⟩
    obtain ⟨m, rfl⟩ : ∃ m, k = m + 1 := ⟨k - 1, by omega⟩
    dsimp only
    rw [laws_eqHoleSS.l0, if_pos hl', if_pos (by omega), if_pos hl', rdHH_mid, e1 m (by omega)]
    simp only [Option.bind_some, if_true]
    rw [hw]
    exact e2 m (by omega)
theorem eqHoleSS_same (l : List (List S87)) (h : l.length ≤ 1048576) (hx : ∀ x ∈ l, x.length ≤ 1048576) : Ev (fun k => laws_eqHoleSS.f k l l) true := by
  have := eqHoleSS_l0 l [] (by simpa using h) hx
  refine Ev.congr (fun k => ?_) this
  simp [laws_eqHoleSS.f]
theorem szHoleSS_l0 (suf : List (List S153)) : ∀ (pre : List (List S153)) (n : Int), (pre ++ suf).length ≤ 9223372036854775806 → 0 ≤ n → n ≤ 1048576 → (∀ x ∈ suf, x.length ≤ 140737488351232) →
    ∃ v, Ev (fun k => laws_szHoleSS.l0 k (pre ++ suf) n (pre.length : Int)) v ∧ v ≤ n ∧ (¬ v < 0 → ∀ x ∈ suf, x.length ≤ 1048576) := by
  induction suf with
  | nil =>
    intro pre n _ _ _ _
    refine ⟨n, ev_step (f := fun _ => some _) (Ev.now _) (fun k => ?_), Int.le_refl _, fun _ x hx => absurd hx List.not_mem_nil⟩
    rw [laws_szHoleSS.l0, if_neg (by simp)]
  | cons x suf ih =>
    intro pre n hl h0 h1 hx
    have hl' : (pre.length : Int) < ((pre ++ x :: suf).length : Int) := by simp; omega
    have hw : wrap64 ((pre.length : Int) + 1) = (pre.length : Int) + 1 := wrapS (by omega) (by simp at hl; omega)
    have hxx := hx x List.mem_cons_self
    by_cases c : n < (x.length : Int)
    · refine ⟨-1, ev_step (f := fun _ => some _) (Ev.now _) (fun k => ?_), by omega, fun h => absurd (by decide) h⟩
      rw [laws_szHoleSS.l0, if_pos hl', if_pos (by omega), rdLL_mid, szHoleS_out x n h0 (by omega) c]
      simp only [Option.bind_some]
      rw [if_pos (by decide)]
    · obtain ⟨v, hv, hvn, hb⟩ := ih (pre ++ [x]) (n - x.length) (by simp at hl ⊢; omega) (by omega) (by omega) (fun y hy => hx y (List.mem_cons_of_mem _ hy))
      rw [snoc_app, snoc_leni] at hv
      refine ⟨v, ev_step hv (fun k => ?_), by omega, fun h y hy => ?_⟩
      · rw [laws_szHoleSS.l0, if_pos hl', if_pos (by omega), rdLL_mid, szHoleS_in x n (by omega) (by omega)]
        simp only [Option.bind_some]
        rw [if_neg (by omega), hw]
      · rcases List.mem_cons.1 hy with rfl | hy
        · omega
        · exact hb h y hy
theorem szHoleSS_ok (l : List (List S153)) (n : Int) (h0 : 0 ≤ n) (h1 : n ≤ 1048576) (hl : l.length ≤ 140737488351232) (hw : ∀ x ∈ l, x.length ≤ 140737488351232) :
    ∃ v, Ev (fun k => laws_szHoleSS.f k l n) v ∧ v ≤ n ∧ (¬ v < 0 → l.length ≤ 1048576 ∧ ∀ x ∈ l, x.length ≤ 1048576) := by
  have hwr : wrap64 (n - (l.length : Int)) = n - (l.length : Int) := wrapS (by omega) (by omega)
  by_cases c : n - (l.length : Int) < 0
  · refine ⟨-1, Ev.congr (f := fun _ => some _) (fun k => ?_) (Ev.now _), by omega, fun h => absurd (by decide) h⟩
    rw [laws_szHoleSS.f, hwr, if_pos c]
  · obtain ⟨v, hv, hvn, hb⟩ := szHoleSS_l0 l [] (n - l.length) (by simp; omega) (by omega) (by omega) hw
    refine ⟨v, Ev.congr (fun k => ?_) hv, by omega, fun h => ⟨by omega, hb h⟩⟩
    rw [laws_szHoleSS.f, hwr, if_neg c]
    rfl

/-! slices of parts: copied, held against each other, measured; good parts -/
def toP (x : S108) : S105 := ⟨x.f0, x.f1, x.f2⟩
theorem rdLP_mid (pre suf : List S108) (x : S108) : rd_T108 (pre ++ x :: suf) (pre.length : Int) = x := getD_mid _ _ _ _ _ (by simp)
theorem rdP_mid (pre suf : List S105) (x : S105) : rd_T105 (pre ++ x :: suf) (pre.length : Int) = x := getD_mid _ _ _ _ _ (by simp)
theorem szPartS_ok (l : List S108) (n : Int) (h0 : 0 ≤ n) (h1 : n ≤ 1048576) (h : l.length ≤ 140737488351232) : laws_szPartS.f l n = some (if n - (l.length : Int) < 0 then -1 else n - (l.length : Int)) := by
  have w1 : wrap64 (n - (l.length : Int)) = n - (l.length : Int) := wrapS (by omega) (by omega)
  rw [laws_szPartS.f, w1]
  split <;> rfl
theorem toPartS_l0 (suf : List S108) : ∀ pre : List S108, (pre ++ suf).length ≤ 9223372036854775806 →
    Ev (fun k => laws_toPartS.l0 k (pre ++ suf) (pre.map toP ++ List.replicate suf.length z105) (pre.length : Int)) ((pre ++ suf).map toP) := by
  induction suf with
  | nil =>
    intro pre _
    refine ev_step ev_const (fun k => ?_)
    rw [laws_toPartS.l0, if_neg (by simp)]
    simp
  | cons x suf ih =>
    intro pre hl
    have h := ih (pre ++ [x]) (by simp at hl ⊢; omega)
    rw [snoc_app, snoc_leni, List.map_append, List.map_cons, List.map_nil, snoc_app] at h
    have hl' : (pre.length : Int) < ((pre ++ x :: suf).length : Int) := by simp; omega
    refine ev_step h (fun k => ?_)
    rw [laws_toPartS.l0, if_pos hl', if_pos (by omega), rdLP_mid]
    simp only [laws_toPart.f, Option.bind_some]
    rw [if_pos (by simp; omega), wrapS (by omega) (by simp at hl; omega), List.length_cons, List.replicate_succ, set_mid _ _ _ _ _ (by simp)]
    rfl
theorem toPartS_copy (l : List S108) (h : l.length ≤ 1048576) : Ev (fun k => laws_toPartS.f k l) (l.map toP) := by
  have := toPartS_l0 l [] (by simp; omega)
  refine Ev.congr (fun k => ?_) this
  rw [laws_toPartS.f, if_pos (by omega), if_pos (by omega)]
  simp
theorem eqPartS_l0 (suf : List S105) : ∀ pre : List S105, (pre ++ suf).length ≤ 9223372036854775806 → Ev (fun k => laws_eqPartS.l0 k (pre ++ suf) (pre ++ suf) (pre.length : Int)) true := by
  induction suf with
  | nil =>
    intro pre _
    refine ev_step ev_const (fun k => ?_)
    rw [laws_eqPartS.l0, if_neg (by simp)]
  | cons x suf ih =>
    intro pre hl
    have h := ih (pre ++ [x]) (by simp at hl ⊢; omega)
    rw [snoc_app, snoc_leni] at h
    have hl' : (pre.length : Int) < ((pre ++ x :: suf).length : Int) := by simp; omega
    refine ev_step h (fun k => ?_)
    rw [laws_eqPartS.l0, if_pos hl', if_pos (by omega), if_pos hl']
    simp only [laws_eqPart.f, if_true, Option.bind_some]
    rw [wrapS (by omega) (by simp at hl; omega)]
theorem eqPartS_same (l : List S105) (h : l.length ≤ 9223372036854775806) : Ev (fun k => laws_eqPartS.f k l l) true := by
  have := eqPartS_l0 l [] (by simpa using h)
  refine Ev.congr (fun k => ?_) this
  simp [laws_eqPartS.f]
def partOk (x : S105) : Bool := decide (0 ≤ x.f0 ∧ x.f0 ≤ 3 ∧ 0 ≤ x.f1 ∧ x.f1 < x.f2 ∧ x.f2 ≤ 2000)
def lenOf : List S105 → Int → Int
  | [], m => m
  | x :: l, m => lenOf l (wrap64 (m + wrap64 (x.f2 - x.f1)))
theorem l1In_ok (a b c : Int) : spec_l1In.f a b c = some (decide (b ≤ a ∧ a ≤ c)) := by
  unfold spec_l1In.f
  by_cases h : a ≥ b
  · rw [if_pos h]; congr 1; exact decide_eq_decide.2 ⟨fun q => ⟨h, q⟩, fun q => q.2⟩
  · rw [if_neg h]; congr 1; exact (decide_eq_false (fun q => h q.1)).symm
theorem edPart_ok (a b c : Int) : spec_edPart.f a b c = some (partOk ⟨a, b, c⟩) := by
  unfold spec_edPart.f spec_shStep.f
  simp only [l1In_ok, Option.bind_some]
  by_cases h1 : 0 ≤ a ∧ a ≤ 3
  · rw [if_pos (decide_eq_true h1)]
    by_cases h2 : 0 ≤ b ∧ b ≤ 1999
    · rw [if_pos (decide_eq_true h2), wrapS (by omega) (by omega)]
      congr 1
      exact decide_eq_decide.2 (by simp only; omega)
    · rw [if_neg (by simpa using h2)]
      congr 1
      exact (decide_eq_false (by simp only; omega)).symm
  · rw [if_neg (by simpa using h1)]
    congr 1
    exact (decide_eq_false (by simp only; omega)).symm
theorem edLength_l0 (suf : List S105) : ∀ (pre : List S105) (m : Int), (pre ++ suf).length ≤ 1048576 →
    Ev (fun k => spec_edLength.l0 k m (pre ++ suf) ((pre ++ suf).length : Int) (pre.length : Int)) (lenOf suf m) := by
  induction suf with
  | nil =>
    intro pre m _
    refine ev_step (f := fun _ => some _) (Ev.now _) (fun k => ?_)
    rw [spec_edLength.l0, if_neg (by simp)]; rfl
  | cons x suf ih =>
    intro pre m hl
    have hlp : pre.length ≤ 1048576 := by simp at hl; omega
    have h := ih (pre ++ [x]) (wrap64 (m + wrap64 (x.f2 - x.f1))) (by simp at hl ⊢; omega)
    rw [snoc_app, snoc_leni] at h
    have hl' : (pre.length : Int) < ((pre ++ x :: suf).length : Int) := by simp; omega
    have hw : wrap64 ((pre.length : Int) + 1) = (pre.length : Int) + 1 := wrapS (by omega) (by omega)
    refine ev_step (ev_eq h rfl) (fun k => ?_)
    rw [spec_edLength.l0, if_pos hl', if_pos (by omega), if_pos hl', rdP_mid, hw]
theorem edLength_ok (l : List S105) (h : l.length ≤ 1048576) : Ev (fun k => spec_edLength.f k l) (lenOf l 0) :=
  Ev.congr (f := fun k => spec_edLength.l0 k 0 l (l.length : Int) 0) (fun _ => rfl) (edLength_l0 l [] 0 (by simpa using h))
theorem editionLength_l0 (suf : List S105) : ∀ (pre : List S105) (m : Int), (pre ++ suf).length ≤ 1048576 →
    Ev (fun k => impl_editionLength.l0 k m (pre ++ suf) ((pre ++ suf).length : Int) (pre.length : Int)) (lenOf suf m) := by
  induction suf with
  | nil =>
    intro pre m _
    refine ev_step (f := fun _ => some _) (Ev.now _) (fun k => ?_)
    rw [impl_editionLength.l0, if_neg (by simp)]; rfl
  | cons x suf ih =>
    intro pre m hl
    have hlp : pre.length ≤ 1048576 := by simp at hl; omega
    have h := ih (pre ++ [x]) (wrap64 (m + wrap64 (x.f2 - x.f1))) (by simp at hl ⊢; omega)
    rw [snoc_app, snoc_leni] at h
    have hl' : (pre.length : Int) < ((pre ++ x :: suf).length : Int) := by simp; omega
    have hw : wrap64 ((pre.length : Int) + 1) = (pre.length : Int) + 1 := wrapS (by omega) (by omega)
    refine ev_step (ev_eq h rfl) (fun k => ?_)
    rw [impl_editionLength.l0, if_pos hl', if_pos (by omega), if_pos hl', rdP_mid, hw]
theorem editionLength_ok (l : List S105) (h : l.length ≤ 1048576) : Ev (fun k => impl_editionLength.f k l) (lenOf l 0) :=
  Ev.congr (f := fun k => impl_editionLength.l0 k 0 l (l.length : Int) 0) (fun _ => rfl) (editionLength_l0 l [] 0 (by simpa using h))
def partsGood (l : List S105) : Bool := l.all partOk && (decide (l.length ≤ 12) && decide (lenOf l 0 ≤ 2000))
theorem edGood_l0 (l : List S105) (hll : l.length ≤ 1048576) (suf : List S105) : ∀ pre : List S105, (pre ++ suf).length ≤ 1048576 →
    Ev (fun k => spec_edGood.l0 k l (pre ++ suf) ((pre ++ suf).length : Int) (pre.length : Int)) (suf.all partOk && (decide (l.length ≤ 12) && decide (lenOf l 0 ≤ 2000))) := by
  induction suf with
  | nil =>
    intro pre _
    obtain ⟨K, e⟩ := edLength_ok l hll
    dsimp only at e
    refine ⟨K + 1, fun k hk => ?_⟩
    obtain ⟨m, rfl⟩ : ∃ m, k = m + 1 := ⟨k - 1, by omega⟩
    dsimp only
    rw [spec_edGood.l0, if_neg (by simp), e m (by omega)]
    by_cases c : l.length ≤ 12
    · rw [if_pos (by omega)]; simp [c]
    · rw [if_neg (by omega)]; simp [c]
  | cons x suf ih =>
    intro pre hl
    have hlp : pre.length ≤ 1048576 := by simp at hl; omega
    have h := ih (pre ++ [x]) (by simp at hl ⊢; omega)
    rw [snoc_app, snoc_leni] at h
    have hl' : (pre.length : Int) < ((pre ++ x :: suf).length : Int) := by simp; omega
    have hw : wrap64 ((pre.length : Int) + 1) = (pre.length : Int) + 1 := wrapS (by omega) (by omega)
    cases c : partOk x with
    | true =>
      refine ev_step (ev_eq h (by simp [c])) (fun k => ?_)
      rw [spec_edGood.l0, if_pos hl', if_pos (by omega), if_pos hl', rdP_mid, edPart_ok]
      simp only [Option.bind_some]
      rw [if_pos c, hw]
    | false =>
      refine ev_step (f := fun _ => some _) (Ev.now _) (fun k => ?_)
      rw [spec_edGood.l0, if_pos hl', if_pos (by omega), if_pos hl', rdP_mid, edPart_ok]
      simp only [Option.bind_some]
      rw [if_neg (by rw [show partOk ⟨x.f0, x.f1, x.f2⟩ = partOk x from rfl, c]; decide)]
      simp [c]
theorem edGood_ok (l : List S105) (h : l.length ≤ 1048576) : Ev (fun k => spec_edGood.f k l) (partsGood l) :=
  Ev.congr (f := fun k => spec_edGood.l0 k l l (l.length : Int) 0) (fun _ => rfl) (edGood_l0 l h l [] (by simpa using h))
def under (n : Int) (x : S105) : Bool := decide (x.f0 < n)
def areParts (l : List S105) (n : Int) : Bool := partsGood l && (decide (1 ≤ n ∧ n ≤ 4) && l.all (under n))
theorem specAreParts_l0 (n : Int) (suf : List S105) : ∀ pre : List S105, (pre ++ suf).length ≤ 1048576 →
    Ev (fun k => spec_AreParts.l0 k n (pre ++ suf) ((pre ++ suf).length : Int) (pre.length : Int)) (suf.all (under n)) := by
  induction suf with
  | nil =>
    intro pre _
    refine ev_step (f := fun _ => some _) (Ev.now _) (fun k => ?_)
    rw [spec_AreParts.l0, if_neg (by simp)]; simp
  | cons x suf ih =>
    intro pre hl
    have hlp : pre.length ≤ 1048576 := by simp at hl; omega
    have h := ih (pre ++ [x]) (by simp at hl ⊢; omega)
    rw [snoc_app, snoc_leni] at h
    have hl' : (pre.length : Int) < ((pre ++ x :: suf).length : Int) := by simp; omega
    have hw : wrap64 ((pre.length : Int) + 1) = (pre.length : Int) + 1 := wrapS (by omega) (by omega)
    by_cases c : x.f0 ≥ n
    · refine ev_step (f := fun _ => some _) (Ev.now _) (fun k => ?_)
      rw [spec_AreParts.l0, if_pos hl', if_pos (by omega), if_pos hl', rdP_mid, if_pos c]
      simp [under, show ¬ x.f0 < n by omega]
    · refine ev_step (ev_eq h (by simp [under, show x.f0 < n by omega])) (fun k => ?_)
      rw [spec_AreParts.l0, if_pos hl', if_pos (by omega), if_pos hl', rdP_mid, if_neg c, hw]
theorem specAreParts_ok (l : List S105) (n : Int) (h : l.length ≤ 1048576) : Ev (fun k => spec_AreParts.f k l n) (areParts l n) := by
  refine Ev.bind (edGood_ok l h) ?_
  simp only [l1In_ok, Option.bind_some]
  cases g : partsGood l with
  | false =>
    simp only [Bool.false_eq_true, if_false]
    refine ev_step (f := fun _ => some _) (Ev.now _) (fun k => ?_)
    rw [spec_AreParts.j0, if_pos rfl]; simp [areParts, g]
  | true =>
    simp only [if_true]
    by_cases c : 1 ≤ n ∧ n ≤ 4
    · have h0 := specAreParts_l0 n l [] (by simpa using h)
      refine ev_step (ev_eq h0 (by simp [areParts, g, c])) (fun k => ?_)
      rw [spec_AreParts.j0, if_neg (by rw [decide_eq_true c]; decide)]; rfl
    · refine ev_step (f := fun _ => some _) (Ev.now _) (fun k => ?_)
      rw [spec_AreParts.j0, if_pos (by rw [decide_eq_false c]; rfl)]; simp [areParts, c]
theorem implAreParts_l0 (l : List S105) (hll : l.length ≤ 1048576) (n : Int) (hn : n ≤ 4) (suf : List S105) : ∀ pre : List S105, (pre ++ suf).length ≤ 1048576 →
    Ev (fun k => impl_AreParts.l0 k l n (pre ++ suf) ((pre ++ suf).length : Int) (pre.length : Int)) (suf.all (fun x => partOk x && under n x) && decide (lenOf l 0 ≤ 2000)) := by
  induction suf with
  | nil =>
    intro pre _
    obtain ⟨K, e⟩ := editionLength_ok l hll
    dsimp only at e
    refine ⟨K + 1, fun k hk => ?_⟩
    obtain ⟨m, rfl⟩ : ∃ m, k = m + 1 := ⟨k - 1, by omega⟩
    dsimp only
    rw [impl_AreParts.l0, if_neg (by simp), e m (by omega)]
    simp
  | cons x suf ih =>
    intro pre hl
    have hlp : pre.length ≤ 1048576 := by simp at hl; omega
    have h := ih (pre ++ [x]) (by simp at hl ⊢; omega)
    rw [snoc_app, snoc_leni] at h
    have hl' : (pre.length : Int) < ((pre ++ x :: suf).length : Int) := by simp; omega
    have hw : wrap64 ((pre.length : Int) + 1) = (pre.length : Int) + 1 := wrapS (by omega) (by omega)
    by_cases c : 0 ≤ x.f0 ∧ x.f0 < n ∧ 0 ≤ x.f1 ∧ x.f1 < x.f2 ∧ x.f2 ≤ 2000
    · have c1 : partOk x = true := decide_eq_true (by omega)
      have c2 : under n x = true := decide_eq_true (by omega)
      refine ev_step (ev_eq h (by simp [c1, c2])) (fun k => ?_)
      rw [impl_AreParts.l0, if_pos hl', if_pos (by omega), if_pos hl', rdP_mid, if_neg (by omega), if_neg (by omega), if_neg (by omega), if_neg (by omega), if_neg (by omega), hw]
    · have c1 : (partOk x && under n x) = false := by
        simp only [partOk, under, Bool.and_eq_false_iff, decide_eq_false_iff_not]
        omega
      refine ev_step (f := fun _ => some _) (Ev.now _) (fun k => ?_)
      rw [impl_AreParts.l0, if_pos hl', if_pos (by omega), if_pos hl', rdP_mid]
      rw [List.all_cons, c1, Bool.false_and, Bool.false_and]
      repeat (first | rfl | (split; rfl))
      omega
theorem implAreParts_ok (l : List S105) (n : Int) (h : l.length ≤ 1048576) : Ev (fun k => impl_AreParts.f k l n) (areParts l n) := by
  have stop : ∀ b : Bool, b = true → areParts l n = false → Ev (fun k => impl_AreParts.j0 k l n b) (areParts l n) := fun b hb ha => by
    rw [ha, hb]
    refine ev_step (f := fun _ => some _) (Ev.now _) (fun k => ?_)
    rw [impl_AreParts.j0, if_pos rfl]
  by_cases c1 : n < 1
  · refine Ev.congr (fun k => by rw [impl_AreParts.f, if_pos c1]) (stop true rfl ?_)
    simp [areParts, show ¬ (1 ≤ n ∧ n ≤ 4) by omega]
  · by_cases c2 : n > 4
    · refine Ev.congr (fun k => by rw [impl_AreParts.f, if_neg c1, if_pos c2]) (stop true rfl ?_)
      simp [areParts, show ¬ (1 ≤ n ∧ n ≤ 4) by omega]
    · by_cases c3 : (l.length : Int) > 12
      · refine Ev.congr (fun k => by rw [impl_AreParts.f, if_neg c1, if_neg c2]) (stop _ (decide_eq_true c3) ?_)
        simp [areParts, partsGood, show ¬ l.length ≤ 12 by omega]
      · have h0 := implAreParts_l0 l h n (by omega) l [] (by simpa using h)
        refine Ev.congr (f := fun k => impl_AreParts.j0 k l n (decide ((l.length : Int) > 12))) (fun k => by rw [impl_AreParts.f, if_neg c1, if_neg c2]) ?_
        refine ev_step (ev_eq h0 ?_) (fun k => ?_)
        · simp only [areParts, partsGood, show l.length ≤ 12 by omega, show 1 ≤ n ∧ n ≤ 4 by omega, decide_true, Bool.true_and, and_self]
          rw [Bool.eq_iff_iff]
          simp only [Bool.and_eq_true, List.all_eq_true]
          constructor
          · rintro ⟨h1, h2⟩
            exact ⟨⟨fun x hx => (h1 x hx).1, h2⟩, fun x hx => (h1 x hx).2⟩
          · rintro ⟨⟨h1, h2⟩, h3⟩
            exact ⟨fun x hx => ⟨h1 x hx, h3 x hx⟩, h2⟩
        · rw [impl_AreParts.j0, if_neg (by simpa using c3)]; rfl

/-! holes that the edition's cuts go through -/
theorem edSheets_l0 (l : List (List S87)) (p : List S105) (hp : p.length ≤ 1048576) (suf : List (List S87)) : ∀ pre : List (List S87), (pre ++ suf).length ≤ 1048576 → (∀ x ∈ suf, x.length ≤ 1048576) →
    Ev (fun k => spec_edSheets.l0 k l p (pre ++ suf) ((pre ++ suf).length : Int) (pre.length : Int)) (suf.all good && areParts p (l.length : Int)) := by
  induction suf with
  | nil =>
    intro pre _ _
    obtain ⟨K, e⟩ := specAreParts_ok p (l.length : Int) hp
    dsimp only at e
    refine ⟨K + 1, fun k hk => ?_⟩
    obtain ⟨m, rfl⟩ : ∃ m, k = m + 1 := ⟨k - 1, by omega⟩
    dsimp only
    rw [spec_edSheets.l0, if_neg (by simp), e m (by omega)]
    simp
  | cons x suf ih =>
    intro pre hl hx
    have hlp : pre.length ≤ 1048576 := by simp at hl; omega
    have h := ih (pre ++ [x]) (by simp at hl ⊢; omega) (fun y hy => hx y (List.mem_cons_of_mem _ hy))
    rw [snoc_app, snoc_leni] at h
    have hl' : (pre.length : Int) < ((pre ++ x :: suf).length : Int) := by simp; omega
    have hw : wrap64 ((pre.length : Int) + 1) = (pre.length : Int) + 1 := wrapS (by omega) (by omega)
    obtain ⟨K1, e1⟩ := shGood_ok x (by have := hx x List.mem_cons_self; omega)
    obtain ⟨K2, e2⟩ := h
    dsimp only at e1 e2
    refine ⟨K1 + K2 + 1, fun k hk => ?_⟩
    obtain ⟨m, rfl⟩ : ∃ m, k = m + 1 := ⟨k - 1, by omega⟩
    dsimp only
    rw [spec_edSheets.l0, if_pos hl', if_pos (by omega), if_pos hl', rdHH_mid, e1 m (by omega)]
    simp only [Option.bind_some]
    rw [hw, e2 m (by omega)]
    cases g : good x <;> simp [g]
theorem edSheets_ok (l : List (List S87)) (p : List S105) (hl : l.length ≤ 1048576) (hx : ∀ x ∈ l, x.length ≤ 1048576) (hp : p.length ≤ 1048576) : Ev (fun k => spec_edSheets.f k l p) (l.all good && areParts p (l.length : Int)) :=
  Ev.congr (f := fun k => spec_edSheets.l0 k l p l (l.length : Int) 0) (fun _ => rfl) (edSheets_l0 l p hp l [] (by simpa using hl) hx)
theorem areSheets_l0 (l : List (List S87)) (n : Int) (suf : List (List S87)) : ∀ pre : List (List S87), (pre ++ suf).length ≤ 1048576 → (∀ x ∈ suf, x.length ≤ 1048576) →
    Ev (fun k => impl_areSheets.l0 k l n (pre ++ suf) ((pre ++ suf).length : Int) (pre.length : Int)) (suf.all good && decide (1 ≤ (l.length : Int) ∧ (l.length : Int) ≤ n)) := by
  induction suf with
  | nil =>
    intro pre _ _
    refine ev_step (f := fun _ => some _) (Ev.now _) (fun k => ?_)
    rw [impl_areSheets.l0, if_neg (by simp)]
    by_cases c : (l.length : Int) ≥ 1
    · rw [if_pos c]; congr 1; simp only [List.all_nil, Bool.true_and]; exact decide_eq_decide.2 ⟨fun q => ⟨c, q⟩, fun q => q.2⟩
    · rw [if_neg c]; congr 1; simp only [List.all_nil, Bool.true_and]; exact (decide_eq_false (fun q => c q.1)).symm
  | cons x suf ih =>
    intro pre hl hx
    have hlp : pre.length ≤ 1048576 := by simp at hl; omega
    have h := ih (pre ++ [x]) (by simp at hl ⊢; omega) (fun y hy => hx y (List.mem_cons_of_mem _ hy))
    rw [snoc_app, snoc_leni] at h
    have hl' : (pre.length : Int) < ((pre ++ x :: suf).length : Int) := by simp; omega
    have hw : wrap64 ((pre.length : Int) + 1) = (pre.length : Int) + 1 := wrapS (by omega) (by omega)
    obtain ⟨K1, e1⟩ := isSheet_ok x (by have := hx x List.mem_cons_self; omega)
    obtain ⟨K2, e2⟩ := h
    dsimp only at e1 e2
    refine ⟨K1 + K2 + 1, fun k hk => ?_⟩
    obtain ⟨m, rfl⟩ : ∃ m, k = m + 1 := ⟨k - 1, by omega⟩
    dsimp only
    rw [impl_areSheets.l0, if_pos hl', if_pos (by omega), if_pos hl', rdHH_mid, e1 m (by omega)]
    simp only [Option.bind_some]
    rw [hw, e2 m (by omega)]
    cases g : good x <;> simp [g]
theorem areSheets_ok (l : List (List S87)) (n : Int) (hl : l.length ≤ 1048576) (hx : ∀ x ∈ l, x.length ≤ 1048576) : Ev (fun k => impl_areSheets.f k l n) (l.all good && decide (1 ≤ (l.length : Int) ∧ (l.length : Int) ≤ n)) :=
  Ev.congr (f := fun k => impl_areSheets.l0 k l n l (l.length : Int) 0) (fun _ => rfl) (areSheets_l0 l n l [] (by simpa using hl) hx)
def cutIn (c : Int) (x : S87) : Bool := decide (x.f1 < c ∧ x.f2 > c)
/-- The count goes on, one for each hole that the cut goes through. -/
def cutsAt (c : Int) : List S87 → Int → Int
  | [], m => m
  | x :: l, m => cutsAt c l (if cutIn c x = true then wrap64 (m + 1) else m)
/-- The count over the parts from place i on. -/
def cuts (l : List (List S87)) (p : List S105) : Nat → Int → Int → Int
  | 0, _, m => m
  | d + 1, i, m => cuts l p d (i + 1) (if i + 1 < (p.length : Int) ∧ (rd_T105 p (i + 1)).f0 = (rd_T105 p i).f0 ∧ (rd_T105 p (i + 1)).f1 = (rd_T105 p i).f2 then m else cutsAt (rd_T105 p i).f2 (rd_L6 l (rd_T105 p i).f0) m)
theorem isOpen_cut (x : S87) (c : Int) (h : 1 ≤ c ∧ c ≤ 2000) : impl_isOpen.f x.f0 x.f1 x.f2 (wrap64 (c - 1)) = some (decide (x.f1 ≤ c - 1 ∧ c - 1 < x.f2)) ∧ impl_isOpen.f x.f0 x.f1 x.f2 c = some (decide (x.f1 ≤ c ∧ c < x.f2)) := by
  have gen : ∀ q, impl_isOpen.f x.f0 x.f1 x.f2 q = some (decide (x.f1 ≤ q ∧ q < x.f2)) := fun q => by
    unfold impl_isOpen.f
    by_cases c1 : x.f1 ≤ q
    · rw [if_pos c1]; congr 1; exact decide_eq_decide.2 ⟨fun w => ⟨c1, w⟩, fun w => w.2⟩
    · rw [if_neg c1]; congr 1; exact (decide_eq_false (fun w => c1 w.1)).symm
  rw [wrapS (by omega) (by omega)]
  exact ⟨gen _, gen _⟩
section
variable (l : List (List S87)) (p : List S105)
theorem specCut_l1 (n : Int) (i : Nat) (hi : i + 1 ≤ 12) (x : S105) (R : Int × Bool) (suf : List S87) : ∀ (pre : List S87) (m : Int), (pre ++ suf).length ≤ 1048576 →
    Ev (fun k => spec_CutHoles.l0 k l p (cutsAt x.f2 suf m) p n ((i + 1 : Nat) : Int)) R →
    Ev (fun k => spec_CutHoles.l1 k l p m p n (i : Int) (pre ++ suf) ((pre ++ suf).length : Int) (pre.length : Int) x.f0 x.f1 x.f2) R := by
  induction suf with
  | nil =>
    intro pre m _ h
    refine ev_step h (fun k => ?_)
    rw [spec_CutHoles.l1, if_neg (by simp), wrapS (by omega) (by omega)]
    simp [cutsAt]
  | cons y suf ih =>
    intro pre m hl h
    have hlp : pre.length ≤ 1048576 := by simp at hl; omega
    have h2 := ih (pre ++ [y]) (if cutIn x.f2 y = true then wrap64 (m + 1) else m) (by simp at hl ⊢; omega) h
    rw [snoc_app, snoc_leni] at h2
    have hl' : (pre.length : Int) < ((pre ++ y :: suf).length : Int) := by simp; omega
    have hw : wrap64 ((pre.length : Int) + 1) = (pre.length : Int) + 1 := wrapS (by omega) (by omega)
    refine ev_step h2 (fun k => ?_)
    rw [spec_CutHoles.l1, if_pos hl', if_pos (by omega), if_pos hl', rdH_mid, hw]
    unfold cutIn
    by_cases c1 : y.f1 < x.f2
    · rw [if_pos c1]
      by_cases c2 : y.f2 > x.f2
      · rw [if_pos c2, if_pos (decide_eq_true ⟨c1, c2⟩)]
      · rw [if_neg c2, if_neg (by simp only [decide_eq_true_eq]; exact fun w => c2 w.2)]
    · rw [if_neg c1, if_neg (by simp only [decide_eq_true_eq]; exact fun w => c1 w.1)]
theorem implCut_l1 (n : Int) (i : Nat) (hi : i + 1 ≤ 12) (x : S105) (hx : 1 ≤ x.f2 ∧ x.f2 ≤ 2000) (R : Int × Bool) (suf : List S87) : ∀ (pre : List S87) (m : Int), (pre ++ suf).length ≤ 1048576 →
    Ev (fun k => impl_CutHoles.l0 k l p (cutsAt x.f2 suf m) p n ((i + 1 : Nat) : Int)) R →
    Ev (fun k => impl_CutHoles.l1 k l p m p n (i : Int) (pre ++ suf) ((pre ++ suf).length : Int) (pre.length : Int) x.f0 x.f1 x.f2) R := by
  induction suf with
  | nil =>
    intro pre m _ h
    refine ev_step h (fun k => ?_)
    rw [impl_CutHoles.l1, if_neg (by simp), wrapS (by omega) (by omega)]
    simp [cutsAt]
  | cons y suf ih =>
    intro pre m hl h
    have hlp : pre.length ≤ 1048576 := by simp at hl; omega
    have h2 := ih (pre ++ [y]) (if cutIn x.f2 y = true then wrap64 (m + 1) else m) (by simp at hl ⊢; omega) h
    rw [snoc_app, snoc_leni] at h2
    have hl' : (pre.length : Int) < ((pre ++ y :: suf).length : Int) := by simp; omega
    have hw : wrap64 ((pre.length : Int) + 1) = (pre.length : Int) + 1 := wrapS (by omega) (by omega)
    obtain ⟨o1, o2⟩ := isOpen_cut y x.f2 hx
    refine ev_step h2 (fun k => ?_)
    rw [impl_CutHoles.l1, if_pos hl', if_pos (by omega), if_pos hl', rdH_mid, hw, o1, o2]
    simp only [Option.bind_some]
    unfold cutIn
    by_cases c : y.f1 < x.f2 ∧ y.f2 > x.f2
    · rw [if_pos (decide_eq_true (by omega)), if_pos (decide_eq_true (by omega)), if_pos (decide_eq_true c)]
    · rw [if_neg (show ¬ (decide (y.f1 < x.f2 ∧ y.f2 > x.f2) = true) by rw [decide_eq_true_eq]; exact c)]
      by_cases c1 : y.f1 ≤ x.f2 - 1 ∧ x.f2 - 1 < y.f2
      · rw [if_pos (decide_eq_true c1), if_neg (by simp only [decide_eq_true_eq]; omega)]
      · rw [if_neg (by simpa using c1)]
theorem specCut_l0 (hp : p.length ≤ 12) (hx : ∀ x ∈ l, x.length ≤ 1048576) (hb : ∀ i : Nat, i < p.length → 0 ≤ (rd_T105 p i).f0 ∧ (rd_T105 p i).f0 < (l.length : Int)) (d : Nat) : ∀ (i : Nat) (m : Int), i + d = p.length →
    Ev (fun k => spec_CutHoles.l0 k l p m p (p.length : Int) (i : Int)) (cuts l p d i m, true) := by
  induction d with
  | zero =>
    intro i m hi
    refine ev_step (f := fun _ => some _) (Ev.now _) (fun k => ?_)
    rw [spec_CutHoles.l0, if_neg (by omega)]; rfl
  | succ d ih =>
    intro i m hi
    have hw : wrap64 ((i : Int) + 1) = (i : Int) + 1 := wrapS (by omega) (by omega)
    have hb0 := hb i (by omega)
    obtain ⟨y, hy⟩ : ∃ y, y = rd_T105 p (i : Int) := ⟨_, rfl⟩
    rw [← hy] at hb0
    have hrow : (rd_L6 l y.f0).length ≤ 1048576 := by
      have c : y.f0.toNat < l.length := by omega
      refine hx _ ?_
      have e : rd_L6 l y.f0 = l[y.f0.toNat] := by simp [rd_L6, List.getD_eq_getElem?_getD, List.getElem?_eq_getElem c]
      rw [e]; exact List.getElem_mem c
    have J : ∀ b : Bool, Ev (fun k => spec_CutHoles.j1 k l p m p (p.length : Int) (i : Int) b y.f0 y.f1 y.f2) (cuts l p d ((i : Int) + 1) (if b = true then m else cutsAt y.f2 (rd_L6 l y.f0) m), true) := fun b => by
      cases b with
      | true =>
        have h := ih (i + 1) m (by omega)
        refine ev_step (ev_eq h (by simp)) (fun k => ?_)
        rw [spec_CutHoles.j1, if_pos rfl, hw]; simp
      | false =>
        have h := ih (i + 1) (cutsAt y.f2 (rd_L6 l y.f0) m) (by omega)
        have h2 := specCut_l1 l p (p.length : Int) i (by omega) y _ (rd_L6 l y.f0) [] m (by simpa using hrow) h
        refine ev_step (ev_eq h2 (by simp)) (fun k => ?_)
        rw [spec_CutHoles.j1, if_neg (by decide), if_pos hb0.1, if_pos hb0.2]; simp
    have fin : ∀ b : Bool, (b = true ↔ ((i : Int) + 1 < (p.length : Int) ∧ (rd_T105 p ((i : Int) + 1)).f0 = y.f0 ∧ (rd_T105 p ((i : Int) + 1)).f1 = y.f2)) → Ev (fun k => spec_CutHoles.j1 k l p m p (p.length : Int) (i : Int) b y.f0 y.f1 y.f2) (cuts l p (d + 1) (i : Int) m, true) := fun b hb => by
      refine ev_eq (J b) ?_
      rw [cuts, ← hy]
      congr 2
      cases b with
      | true => rw [if_pos rfl, if_pos (hb.1 rfl)]
      | false => rw [if_neg (by decide), if_neg (fun q => Bool.noConfusion (hb.2 q))]
    by_cases c1 : (i : Int) + 1 < (p.length : Int)
    · by_cases c2 : (rd_T105 p ((i : Int) + 1)).f0 = y.f0
      · refine ev_step (fin ((rd_T105 p ((i : Int) + 1)).f1 == y.f2) (by rw [beq_iff_eq]; exact ⟨fun q => ⟨c1, c2, q⟩, fun q => q.2.2⟩)) (fun k => ?_)
        rw [spec_CutHoles.l0, if_pos (by omega), if_pos (by omega), if_pos (by omega), hw, if_pos c1, if_pos (by omega), ← hy, if_pos c2]
      · refine ev_step (fin false ⟨fun q => Bool.noConfusion q, fun q => absurd q.2.1 c2⟩) (fun k => ?_)
        rw [spec_CutHoles.l0, if_pos (by omega), if_pos (by omega), if_pos (by omega), hw, if_pos c1, if_pos (by omega), ← hy, if_neg c2]
    · refine ev_step (fin false ⟨fun q => Bool.noConfusion q, fun q => absurd q.1 c1⟩) (fun k => ?_)
      rw [spec_CutHoles.l0, if_pos (by omega), if_pos (by omega), if_pos (by omega), hw, if_neg c1, ← hy]
theorem implCut_l0 (hp : p.length ≤ 12) (hx : ∀ x ∈ l, x.length ≤ 1048576) (hb : ∀ i : Nat, i < p.length → 0 ≤ (rd_T105 p i).f0 ∧ (rd_T105 p i).f0 < (l.length : Int)) (hq : ∀ i : Nat, i < p.length → 1 ≤ (rd_T105 p i).f2 ∧ (rd_T105 p i).f2 ≤ 2000) (d : Nat) : ∀ (i : Nat) (m : Int), i + d = p.length →
    Ev (fun k => impl_CutHoles.l0 k l p m p (p.length : Int) (i : Int)) (cuts l p d i m, true) := by
  induction d with
  | zero =>
    intro i m hi
    refine ev_step (f := fun _ => some _) (Ev.now _) (fun k => ?_)
    rw [impl_CutHoles.l0, if_neg (by omega)]; rfl
  | succ d ih =>
    intro i m hi
    have hw : wrap64 ((i : Int) + 1) = (i : Int) + 1 := wrapS (by omega) (by omega)
    have hb0 := hb i (by omega)
    have hq0 := hq i (by omega)
    obtain ⟨y, hy⟩ : ∃ y, y = rd_T105 p (i : Int) := ⟨_, rfl⟩
    rw [← hy] at hb0 hq0
    have hrow : (rd_L6 l y.f0).length ≤ 1048576 := by
      have c : y.f0.toNat < l.length := by omega
      refine hx _ ?_
      have e : rd_L6 l y.f0 = l[y.f0.toNat] := by simp [rd_L6, List.getD_eq_getElem?_getD, List.getElem?_eq_getElem c]
      rw [e]; exact List.getElem_mem c
    have J : ∀ b : Bool, Ev (fun k => impl_CutHoles.j2 k l p m p (p.length : Int) (i : Int) b y.f0 y.f1 y.f2) (cuts l p d ((i : Int) + 1) (if b = true then m else cutsAt y.f2 (rd_L6 l y.f0) m), true) := fun b => by
      cases b with
      | true =>
        have h := ih (i + 1) m (by omega)
        refine ev_step (ev_eq h (by simp)) (fun k => ?_)
        rw [impl_CutHoles.j2, if_pos rfl, hw]; simp
      | false =>
        have h := ih (i + 1) (cutsAt y.f2 (rd_L6 l y.f0) m) (by omega)
        have h2 := implCut_l1 l p (p.length : Int) i (by omega) y hq0 _ (rd_L6 l y.f0) [] m (by simpa using hrow) h
        refine ev_step (ev_eq h2 (by simp)) (fun k => ?_)
        rw [impl_CutHoles.j2, if_neg (by decide), if_pos hb0.1, if_pos hb0.2]; simp
    have fin : ∀ b : Bool, (b = true ↔ ((i : Int) + 1 < (p.length : Int) ∧ (rd_T105 p ((i : Int) + 1)).f0 = y.f0 ∧ (rd_T105 p ((i : Int) + 1)).f1 = y.f2)) → Ev (fun k => impl_CutHoles.j2 k l p m p (p.length : Int) (i : Int) b y.f0 y.f1 y.f2) (cuts l p (d + 1) (i : Int) m, true) := fun b hb => by
      refine ev_eq (J b) ?_
      rw [cuts, ← hy]
      congr 2
      cases b with
      | true => rw [if_pos rfl, if_pos (hb.1 rfl)]
      | false => rw [if_neg (by decide), if_neg (fun q => Bool.noConfusion (hb.2 q))]
    by_cases c1 : (i : Int) + 1 < (p.length : Int)
    · by_cases c2 : (rd_T105 p ((i : Int) + 1)).f0 = y.f0
      · refine ev_step (fin ((rd_T105 p ((i : Int) + 1)).f1 == y.f2) (by rw [beq_iff_eq]; exact ⟨fun q => ⟨c1, c2, q⟩, fun q => q.2.2⟩)) (fun k => ?_)
        rw [impl_CutHoles.l0, if_pos (by omega), if_pos (by omega), if_pos (by omega), hw, if_pos c1, if_pos (by omega), ← hy, if_pos c2]
      · refine ev_step (fin false ⟨fun q => Bool.noConfusion q, fun q => absurd q.2.1 c2⟩) (fun k => ?_)
        rw [impl_CutHoles.l0, if_pos (by omega), if_pos (by omega), if_pos (by omega), hw, if_pos c1, if_pos (by omega), ← hy, if_neg c2]
    · refine ev_step (fin false ⟨fun q => Bool.noConfusion q, fun q => absurd q.1 c1⟩) (fun k => ?_)
      rw [impl_CutHoles.l0, if_pos (by omega), if_pos (by omega), if_pos (by omega), hw, if_neg c1, ← hy]
end
theorem areParts_of {p : List S105} {n : Int} (h : areParts p n = true) : p.length ≤ 12 ∧ 1 ≤ n ∧ n ≤ 4 ∧ ∀ i : Nat, i < p.length → (0 ≤ (rd_T105 p i).f0 ∧ (rd_T105 p i).f0 < n) ∧ (1 ≤ (rd_T105 p i).f2 ∧ (rd_T105 p i).f2 ≤ 2000) := by
  simp only [areParts, partsGood, Bool.and_eq_true, List.all_eq_true, decide_eq_true_eq] at h
  refine ⟨h.1.2.1, h.2.1.1, h.2.1.2, fun i hi => ?_⟩
  have hm : rd_T105 p (i : Int) ∈ p := by
    have e : rd_T105 p (i : Int) = p[i] := by simp [rd_T105, List.getD_eq_getElem?_getD, List.getElem?_eq_getElem hi]
    rw [e]; exact List.getElem_mem hi
  have h1 := h.1.1 _ hm
  have h2 := h.2.2 _ hm
  simp only [partOk, under, decide_eq_true_eq] at h1 h2
  omega
def cutR (l : List (List S87)) (p : List S105) : Int × Bool := if (l.all good && areParts p (l.length : Int)) = true then (cuts l p p.length 0 0, true) else (0, false)
theorem specCut_ok (l : List (List S87)) (p : List S105) (hl : l.length ≤ 1048576) (hx : ∀ x ∈ l, x.length ≤ 1048576) (hp : p.length ≤ 1048576) : Ev (fun k => spec_CutHoles.f k l p) (cutR l p) := by
  refine Ev.bind (edSheets_ok l p hl hx hp) ?_
  cases g : (l.all good && areParts p (l.length : Int)) with
  | false => exact ev_of_eq (fun _ => by simp only [cutR, g, Bool.false_eq_true, if_false])
  | true =>
    obtain ⟨h1, h2, h3, h4⟩ := areParts_of (Bool.and_eq_true_iff.1 g).2
    simp only [if_true]
    exact ev_eq (specCut_l0 l p h1 hx (fun i hi => (h4 i hi).1) p.length 0 0 (by omega)) (by simp only [cutR, g, if_true]; rfl)
theorem implCut_ok (l : List (List S87)) (p : List S105) (hl : l.length ≤ 1048576) (hx : ∀ x ∈ l, x.length ≤ 1048576) (hp : p.length ≤ 1048576) : Ev (fun k => impl_CutHoles.f k l p) (cutR l p) := by
  have no : ∀ b : Bool, b = true → (l.all good && areParts p (l.length : Int)) = false → Ev (fun k => impl_CutHoles.j0 k l p b) (cutR l p) := fun b hb g => by
    rw [hb]
    refine ev_step (f := fun _ => some _) (Ev.now _) (fun k => ?_)
    rw [impl_CutHoles.j0, if_pos rfl]; simp only [cutR, g, Bool.false_eq_true, if_false]
  refine Ev.bind (areSheets_ok l 4 hl hx) ?_
  cases g : (l.all good && decide (1 ≤ (l.length : Int) ∧ (l.length : Int) ≤ 4)) with
  | false =>
    simp only [Bool.false_eq_true, if_false]
    refine no true rfl ?_
    cases ga : l.all good with
    | false => rfl
    | true =>
      rw [ga, Bool.true_and] at g
      simp only [areParts, g, Bool.false_and, Bool.and_false]
  | true =>
    simp only [if_true]
    have ga := (Bool.and_eq_true_iff.1 g).1
    refine Ev.bind (implAreParts_ok p (l.length : Int) hp) ?_
    cases gp : areParts p (l.length : Int) with
    | false => exact no _ rfl (by rw [gp, Bool.and_false])
    | true =>
      obtain ⟨h1, h2, h3, h4⟩ := areParts_of gp
      have h := implCut_l0 l p h1 hx (fun i hi => (h4 i hi).1) (fun i hi => (h4 i hi).2) p.length 0 0 (by omega)
      refine ev_step (ev_eq h (by simp only [cutR, ga, gp, Bool.and_self, if_true]; rfl)) (fun k => ?_)
      rw [impl_CutHoles.j0, if_neg (by decide)]; rfl
theorem FnExactCutHoles (l : List (List S153)) (p : List S108) (hb : l.length * 24 ≤ 140737488351232) (hw : ∀ y ∈ l, (y.length * 24 ≤ 140737488351232) ∧ ∀ z ∈ y, ((Lit.int .i64 z.f0).wf = true) ∧ ((Lit.int .i64 z.f1).wf = true) ∧ ((Lit.int .i64 z.f2).wf = true)) (hpb : p.length * 24 ≤ 140737488351232) (hpw : ∀ y ∈ p, ((Lit.int .i64 y.f0).wf = true) ∧ ((Lit.int .i64 y.f1).wf = true) ∧ ((Lit.int .i64 y.f2).wf = true)) : ∃ k, laws_FnExactCutHoles.f k l p = some true := by
  obtain ⟨v, ⟨K0, e0⟩, hvn, hv⟩ := szHoleSS_ok l 1048576 (by omega) (by omega) (by omega) (fun x hx => by have := (hw x hx).1; omega)
  dsimp only at e0
  by_cases c : v < 0
  · exact ⟨K0, by simp (disch := omega) only [laws_FnExactCutHoles.f, e0, Option.bind_some, c, if_true, if_false]⟩
  obtain ⟨hl, hs⟩ := hv c
  have ez := szPartS_ok p v (by omega) hvn (by omega)
  by_cases d : v - (p.length : Int) < 0
  · rw [if_pos d] at ez
    exact ⟨K0, by simp (disch := omega) only [laws_FnExactCutHoles.f, e0, ez, Option.bind_some, c, if_true, if_false, show (-1 : Int) < 0 by omega]⟩
  rw [if_neg d] at ez
  have hp : p.length ≤ 1048576 := by omega
  have hp2 : (p.map toP).length ≤ 1048576 := by simpa using hp
  have hl2 : (l.map (List.map toH)).length ≤ 1048576 := by simpa using hl
  have hs2 : ∀ x ∈ l.map (List.map toH), x.length ≤ 1048576 := fun x hx => by
    obtain ⟨y, hy, rfl⟩ := List.mem_map.1 hx
    simpa using hs y hy
  obtain ⟨K1, e1⟩ := toHoleSS_copy l hl hs
  obtain ⟨K2, e2⟩ := specCut_ok (l.map (List.map toH)) (p.map toP) hl2 hs2 hp2
  obtain ⟨K3, e3⟩ := implCut_ok (l.map (List.map toH)) (p.map toP) hl2 hs2 hp2
  obtain ⟨K4, e4⟩ := eqHoleSS_same (l.map (List.map toH)) hl2 hs2
  obtain ⟨K5, e5⟩ := toPartS_copy p hp
  obtain ⟨K6, e6⟩ := eqPartS_same (p.map toP) (by omega)
  dsimp only at e1 e2 e3 e4 e5 e6
  refine ⟨K0 + K1 + K2 + K3 + K4 + K5 + K6 + 6, ?_⟩
  simp (disch := omega) only [laws_FnExactCutHoles.f, e0, ez, e1, e2, e3, e4, e5, e6, c, d, if_false, if_true, Option.bind_some, bnot_ne, Bool.false_eq_true]
  simp (disch := omega) only [laws_FnExactCutHoles.j0, e0, ez, e1, e2, e3, e4, e5, e6, c, d, if_false, if_true, Option.bind_some, bnot_ne, Bool.false_eq_true]

end Go.Proofs.Ytldngpdppickdaa.LCutHoles
