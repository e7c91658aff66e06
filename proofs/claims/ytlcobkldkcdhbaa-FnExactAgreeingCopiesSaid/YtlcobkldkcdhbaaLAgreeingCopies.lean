/- For every input the law FnExactAgreeingCopies answers true, after some number of rounds; the conditions are the input's own bounds. -/
import Derived.Test.YtlcobkldkcdhbaaQFnExactAgreeingCopiesx9
import Derived.Test.YtlcobkldkcdhbaaBase
namespace Go.Proofs.Ytlcobkldkcdhbaa.LAgreeingCopies
open Go Go.RowKit Go.Proofs.Ytlcobkldkcdhbaa.QFnExactAgreeingCopies Go.Proofs.YtlcobkldkcdhbaaW.PrintWords Go.Proofs.YtlcobkldkcdhbaaW.PrintLast Go.Proofs.YtlcobkldkcdhbaaW.PrintMore Go.Proofs.Ytlcobkldkcdhbaa.Base
set_option linter.unusedVariables false
set_option linter.unusedSimpArgs false

/-! slices of ints: copied, held against each other, marked -/
theorem eqIntS_l0 (suf : List Int) : ∀ pre : List Int, (pre ++ suf).length ≤ 9223372036854775806 → Ev (fun k => laws_eqIntS.l0 k (pre ++ suf) (pre ++ suf) (pre.length : Int)) true := by
  induction suf with
  | nil =>
    intro pre _
    refine ev_step ev_const (fun k => ?_)
    rw [laws_eqIntS.l0, if_neg (by simp)]
  | cons x suf ih =>
    intro pre hl
    have h := ih (pre ++ [x]) (by simp at hl ⊢; omega)
    rw [snoc_app, snoc_leni] at h
    have hl' : (pre.length : Int) < ((pre ++ x :: suf).length : Int) := by simp; omega
    refine ev_step h (fun k => ?_)
    rw [laws_eqIntS.l0, if_pos hl', if_pos (by omega), if_pos hl', if_pos rfl, wrapS (by omega) (by simp at hl; omega)]

theorem eqIntS_same (l : List Int) (h : l.length ≤ 9223372036854775806) : Ev (fun k => laws_eqIntS.f k l l) true := by
  have := eqIntS_l0 l [] (by simpa using h)
  refine Ev.congr (fun k => ?_) this
  simp [laws_eqIntS.f]

/-- a, a + 1, .. -/
def countUp : Int → Nat → List Int
  | _, 0 => []
  | a, n + 1 => a :: countUp (a + 1) n
theorem countUp_length (n : Nat) : ∀ a, (countUp a n).length = n := by
  induction n with
  | zero => intro a; rfl
  | succ n ih => intro a; simp [countUp, ih]

theorem markIntS_l0 (suf : List Int) : ∀ (pre : List Int) (a : Int), (pre ++ suf).length ≤ 1048576000 → 0 ≤ a → a + suf.length ≤ 4000000000000 → Ev (fun k => laws_markIntS.l0 k (pre ++ suf) a (pre.length : Int)) (a + suf.length, pre ++ countUp a suf.length) := by
  induction suf with
  | nil =>
    intro pre a _ _ _
    refine ev_step ev_const (fun k => ?_)
    rw [laws_markIntS.l0, if_neg (by simp)]
    simp [countUp]
  | cons x suf ih =>
    intro pre a hl h0 h1
    simp only [List.length_cons] at h1
    have h := ih (pre ++ [a]) (a + 1) (by simp at hl ⊢; omega) (by omega) (by omega)
    rw [snoc_app, snoc_app, snoc_leni] at h
    have hl' : (pre.length : Int) < ((pre ++ x :: suf).length : Int) := by simp; omega
    refine ev_step (ev_eq h ?_) (fun k => ?_)
    · simp only [List.length_cons, countUp, Prod.mk.injEq, and_true]; omega
    · rw [laws_markIntS.l0, if_pos hl', if_pos (by omega), wrapS (x := (pre.length : Int) + 1) (by omega) (by simp at hl; omega), wrapS (x := a + 1) (by omega) (by omega), set_mid _ _ _ _ _ (by simp)]

theorem markIntS_marks (l : List Int) (a : Int) (hl : l.length ≤ 1048576000) (h0 : 0 ≤ a) (h1 : a ≤ 1000000000000) : Ev (fun k => laws_markIntS.f k l a) (a + l.length, countUp a l.length) := by
  have := markIntS_l0 l [] a (by simpa using hl) h0 (by omega)
  refine Ev.congr (f := fun k => laws_markIntS.l0 k l a 0) (fun k => rfl) (by simpa using this)

theorem heldIntS_l0 (n : Nat) : ∀ (pre : List Int) (a : Int), pre.length + n ≤ 1048576000 → 0 ≤ a → a + n ≤ 4000000000000 → Ev (fun k => laws_heldIntS.l0 k (pre ++ countUp a n) a (pre.length : Int)) (a + n) := by
  induction n with
  | zero =>
    intro pre a _ _ _
    refine ev_step ev_const (fun k => ?_)
    rw [laws_heldIntS.l0, if_neg (by simp [countUp])]
    simp
  | succ n ih =>
    intro pre a hl h0 h1
    have h := ih (pre ++ [a]) (a + 1) (by simp; omega) (by omega) (by omega)
    rw [snoc_app, snoc_leni] at h
    refine ev_step (ev_eq h (by omega)) (fun k => ?_)
    rw [laws_heldIntS.l0, countUp, if_pos (by simp; omega), if_pos (by omega), rd_mid, if_pos rfl, wrapS (x := (pre.length : Int) + 1) (by omega) (by omega), wrapS (x := a + 1) (by omega) (by omega)]

theorem heldIntS_marked (n : Nat) (a : Int) (hl : n ≤ 1048576000) (h0 : 0 ≤ a) (h1 : a ≤ 1000000000000) : Ev (fun k => laws_heldIntS.f k (countUp a n) a) (a + n) := by
  have := heldIntS_l0 n [] a (by simpa using hl) h0 (by omega)
  refine Ev.congr (f := fun k => laws_heldIntS.l0 k (countUp a n) a 0) (fun k => rfl) (by simpa using this)

/-! one hole: whether it is valid, its number -/
/-- A valid hole. -/
def holeOk (t a b : Int) : Bool := decide (0 ≤ t ∧ t ≤ 19 ∧ 0 ≤ a ∧ a ≤ 1999 ∧ a < b ∧ b ≤ 2000)

theorem shHole_ok (t a b : Int) : spec_shHole.f t a b = some (holeOk t a b) := by
  unfold spec_shHole.f spec_l1In.f holeOk
  by_cases h1 : 0 ≤ t
  · by_cases h2 : t ≤ 19
    · by_cases h3 : 0 ≤ a
      · by_cases h4 : a ≤ 1999
        · have hw : wrap64 (a + 1) = a + 1 := wrapS (by omega) (by omega)
          by_cases h5 : a + 1 ≤ b
          · simp [h1, h2, h3, h4, hw, h5, show a < b by omega]
          · simp [h1, h2, h3, h4, hw, h5, show ¬ a < b by omega]
        · simp [h1, h2, h3, h4]
      · simp [h1, h2, h3]
    · simp [h1, h2]
  · simp [h1]

theorem isHole_ok (t a b : Int) : impl_IsHole.f t a b = some (holeOk t a b) := by
  unfold impl_IsHole.f impl_isTrack.f holeOk
  by_cases h1 : 0 ≤ t
  · by_cases h2 : t < 20
    · by_cases h3 : 0 ≤ a
      · by_cases h4 : a < b
        · by_cases h5 : b ≤ 2000
          · simp [h1, h2, h3, h4, h5, show t ≤ 19 by omega, show a ≤ 1999 by omega]
          · simp [h1, h2, h3, h4, h5]
        · simp [h1, h2, h3, h4]
      · simp [h1, h2, h3]
    · simp [h1, h2, show ¬ t ≤ 19 by omega]
  · simp [h1]

theorem holeOk_bounds {t a b : Int} (h : holeOk t a b = true) : 0 ≤ t ∧ t ≤ 19 ∧ 0 ≤ a ∧ a ≤ 1999 ∧ a < b ∧ b ≤ 2000 := by
  simpa [holeOk] using h

/-! slices of holes: copied, held against each other; valid sheets -/
def toH (x : S23) : S26 := ⟨x.f0, x.f1, x.f2⟩
theorem rdL_mid (pre suf : List S23) (x : S23) : rd_T23 (pre ++ x :: suf) (pre.length : Int) = x := getD_mid _ _ _ _ _ (by simp)
theorem rdH_mid (pre suf : List S26) (x : S26) : rd_T26 (pre ++ x :: suf) (pre.length : Int) = x := getD_mid _ _ _ _ _ (by simp)

theorem toHoleS_l0 (suf : List S23) : ∀ pre : List S23, (pre ++ suf).length ≤ 9223372036854775806 →
    Ev (fun k => laws_toHoleS.l0 k (pre ++ suf) (pre.map toH ++ List.replicate suf.length z26) (pre.length : Int)) ((pre ++ suf).map toH) := by
  induction suf with
  | nil =>
    intro pre _
    refine ev_step ev_const (fun k => ?_)
    rw [laws_toHoleS.l0, if_neg (by simp)]
    simp
  | cons x suf ih =>
    intro pre hl
    have h := ih (pre ++ [x]) (by simp at hl ⊢; omega)
    rw [snoc_app, snoc_leni, List.map_append, List.map_cons, List.map_nil, snoc_app] at h
    have hl' : (pre.length : Int) < ((pre ++ x :: suf).length : Int) := by simp; omega
    refine ev_step h (fun k => ?_)
    rw [laws_toHoleS.l0, if_pos hl', if_pos (by omega), rdL_mid]
    simp only [laws_toHole.f, Option.bind_some]
    rw [if_pos (by simp; omega), wrapS (by omega) (by simp at hl; omega), List.length_cons, List.replicate_succ, set_mid _ _ _ _ _ (by simp)]
    rfl

theorem toHoleS_copy (l : List S23) (h : l.length ≤ 1048576) : Ev (fun k => laws_toHoleS.f k l) (l.map toH) := by
  have := toHoleS_l0 l [] (by simp; omega)
  refine Ev.congr (fun k => ?_) this
  rw [laws_toHoleS.f, if_pos (by omega), if_pos (by omega)]
  simp

theorem eqHoleS_l0 (suf : List S26) : ∀ pre : List S26, (pre ++ suf).length ≤ 9223372036854775806 → Ev (fun k => laws_eqHoleS.l0 k (pre ++ suf) (pre ++ suf) (pre.length : Int)) true := by
  induction suf with
  | nil =>
    intro pre _
    refine ev_step ev_const (fun k => ?_)
    rw [laws_eqHoleS.l0, if_neg (by simp)]
  | cons x suf ih =>
    intro pre hl
    have h := ih (pre ++ [x]) (by simp at hl ⊢; omega)
    rw [snoc_app, snoc_leni] at h
    have hl' : (pre.length : Int) < ((pre ++ x :: suf).length : Int) := by simp; omega
    refine ev_step h (fun k => ?_)
    rw [laws_eqHoleS.l0, if_pos hl', if_pos (by omega), if_pos hl']
    simp only [laws_eqHole.f, if_true, Option.bind_some]
    rw [wrapS (by omega) (by simp at hl; omega)]

theorem eqHoleS_same (l : List S26) (h : l.length ≤ 9223372036854775806) : Ev (fun k => laws_eqHoleS.f k l l) true := by
  have := eqHoleS_l0 l [] (by simpa using h)
  refine Ev.congr (fun k => ?_) this
  simp [laws_eqHoleS.f]

theorem szHoleS_in (l : List S23) (n : Int) (hn : n ≤ 9223372036854775807) (h : (l.length : Int) ≤ n) : laws_szHoleS.f l n = some (n - l.length) := by
  have hw : wrap64 (n - l.length) = n - l.length := wrapS (by omega) (by omega)
  rw [laws_szHoleS.f, hw, if_neg (by omega)]
theorem szHoleS_out (l : List S23) (n : Int) (hn : 0 ≤ n) (hl : l.length ≤ 9223372036854775807) (h : n < (l.length : Int)) : laws_szHoleS.f l n = some (-1) := by
  have hw : wrap64 (n - l.length) = n - l.length := wrapS (by omega) (by omega)
  rw [laws_szHoleS.f, hw, if_pos (by omega)]

/-- The hole x meets the earlier hole y. -/
def meets (x y : S26) : Bool := decide (x.f0 = y.f0 ∧ x.f1 ≤ y.f2)
def before (a b : S26) : Bool := decide (a.f1 < b.f1 ∨ (a.f1 = b.f1 ∧ a.f0 < b.f0))
def lastBefore (pre : List S26) (x : S26) : Bool := match pre.getLast? with | none => true | some p => before p x
def goodAt (pre : List S26) (x : S26) : Bool := holeOk x.f0 x.f1 x.f2 && (lastBefore pre x && !(pre.any (meets x)))
def goodFrom : List S26 → List S26 → Bool
  | _, [] => true
  | pre, x :: suf => goodAt pre x && goodFrom (pre ++ [x]) suf
/-- A valid sheet. -/
def good (l : List S26) : Bool := goodFrom [] l && decide (l.length ≤ 60)

theorem shBefore_ok (a b : S26) : spec_shBefore.f a.f0 a.f1 a.f2 b.f0 b.f1 b.f2 = some (before a b) := by
  unfold spec_shBefore.f before
  by_cases h : a.f1 < b.f1
  · simp [h]
  · by_cases h1 : a.f1 = b.f1
    · simp [h1]
    · simp [h, h1]
theorem holeLess_ok (a b : S26) : impl_holeLess.f a.f0 a.f1 a.f2 b.f0 b.f1 b.f2 = some (before a b) := by
  unfold impl_holeLess.f before
  by_cases h1 : a.f1 = b.f1
  · simp [h1]
  · simp [h1]

theorem shGood_l1 (x : S26) (l : List S26) (n i : Int) (r : Bool) (suf : List S26) : ∀ pre : List S26, (pre ++ suf).length ≤ 9223372036854775806 →
    (suf.any (meets x) = true → r = false) → (suf.any (meets x) = false → Ev (fun k => spec_shGood.l0 k l l n (wrap64 (i + 1))) r) →
    Ev (fun k => spec_shGood.l1 k l l n i (pre ++ suf) ((pre ++ suf).length : Int) (pre.length : Int) x.f0 x.f1 x.f2) r := by
  induction suf with
  | nil =>
    intro pre _ _ h
    refine ev_step (h rfl) (fun k => ?_)
    rw [spec_shGood.l1, if_neg (by simp)]
  | cons y suf ih =>
    intro pre hl h1 h2
    have hl' : (pre.length : Int) < ((pre ++ y :: suf).length : Int) := by simp; omega
    have hw : wrap64 ((pre.length : Int) + 1) = (pre.length : Int) + 1 := wrapS (by omega) (by simp at hl; omega)
    by_cases hm : meets x y = true
    · have e : r = false := h1 (by simp [hm])
      subst e
      simp only [meets, decide_eq_true_eq] at hm
      refine ev_step ev_const (fun k => ?_)
      rw [spec_shGood.l1, if_pos hl', if_pos (by omega), if_pos hl', rdH_mid, if_pos hm.1, if_pos hm.2]
    · replace hm : meets x y = false := by simpa using hm
      have h := ih (pre ++ [y]) (by simp at hl ⊢; omega) (fun e => h1 (by simp [e])) (fun e => h2 (by simp [hm, e]))
      rw [snoc_app, snoc_leni] at h
      simp only [meets, decide_eq_false_iff_not] at hm
      refine ev_step h (fun k => ?_)
      rw [spec_shGood.l1, if_pos hl', if_pos (by omega), if_pos hl', rdH_mid, hw]
      by_cases e : x.f0 = y.f0
      · rw [if_pos e, if_neg (fun e2 => hm ⟨e, e2⟩)]
      · rw [if_neg e]

theorem shGood_j1 (x : S26) (pre suf : List S26) (n : Int) (b r : Bool) (hl : (pre ++ suf).length ≤ 9223372036854775806) (hb : b = true → r = false) (h1 : b = false → pre.any (meets x) = true → r = false)
    (h2 : b = false → pre.any (meets x) = false → Ev (fun k => spec_shGood.l0 k (pre ++ suf) (pre ++ suf) n (wrap64 ((pre.length : Int) + 1))) r) :
    Ev (fun k => spec_shGood.j1 k (pre ++ suf) (pre.length : Int) (pre ++ suf) n (pre.length : Int) b x.f0 x.f1 x.f2) r := by
  cases b with
  | true =>
    obtain rfl := hb rfl
    refine ev_step ev_const (fun k => ?_)
    rw [spec_shGood.j1, if_pos rfl]
  | false =>
    have h := shGood_l1 x (pre ++ suf) n (pre.length : Int) r pre [] (by simp at hl ⊢; omega) (h1 rfl) (h2 rfl)
    refine ev_step h (fun k => ?_)
    rw [spec_shGood.j1, if_neg (by decide), if_pos (by omega), if_pos (by simp; omega)]
    simp

theorem shGood_l0 (suf : List S26) : ∀ pre : List S26, (pre ++ suf).length ≤ 9223372036854775806 →
    Ev (fun k => spec_shGood.l0 k (pre ++ suf) (pre ++ suf) ((pre ++ suf).length : Int) (pre.length : Int)) (goodFrom pre suf && decide ((pre ++ suf).length ≤ 60)) := by
  induction suf with
  | nil =>
    intro pre _
    refine ev_step (Ev.now _) (fun k => ?_)
    rw [spec_shGood.l0, if_neg (by simp)]
    simp [goodFrom]
    omega
  | cons x suf ih =>
    intro pre hl
    have h := ih (pre ++ [x]) (by simp at hl ⊢; omega)
    rw [snoc_app, snoc_leni] at h
    have hl' : (pre.length : Int) < ((pre ++ x :: suf).length : Int) := by simp; omega
    have hw : wrap64 ((pre.length : Int) + 1) = (pre.length : Int) + 1 := wrapS (by omega) (by simp at hl; omega)
    have J : ∀ b, (b = !(holeOk x.f0 x.f1 x.f2 && lastBefore pre x)) → Ev (fun k => spec_shGood.j1 k (pre ++ x :: suf) (pre.length : Int) (pre ++ x :: suf) ((pre ++ x :: suf).length : Int) (pre.length : Int) b x.f0 x.f1 x.f2) (goodFrom pre (x :: suf) && decide ((pre ++ x :: suf).length ≤ 60)) := by
      intro b hb
      refine shGood_j1 x pre (x :: suf) _ b _ hl (fun e => ?_) (fun e e2 => ?_) (fun e e2 => ?_)
      · simp only [goodFrom, goodAt]
        cases h1 : holeOk x.f0 x.f1 x.f2 <;> cases h2 : lastBefore pre x <;> simp_all
      · simp [goodFrom, goodAt, e2]
      · rw [hw]
        have e3 : goodFrom pre (x :: suf) = goodFrom (pre ++ [x]) suf := by
          simp only [goodFrom, goodAt, e2]
          cases h1 : holeOk x.f0 x.f1 x.f2 <;> cases h2 : lastBefore pre x <;> simp_all
        rw [e3]
        exact h
    cases ho : holeOk x.f0 x.f1 x.f2 with
    | false =>
      refine ev_step (J true (by simp [ho])) (fun k => ?_)
      rw [spec_shGood.l0, if_pos hl', if_pos (by omega), if_pos hl', rdH_mid, shHole_ok, ho]
      simp
    | true =>
      rcases List.eq_nil_or_concat pre with rfl | ⟨pre', p, rfl⟩
      · refine ev_step (J false (by simp [ho, lastBefore])) (fun k => ?_)
        rw [spec_shGood.l0, if_pos hl', if_pos (by omega), if_pos hl', rdH_mid, shHole_ok, ho]
        simp
      · refine ev_step (J (!(before p x)) (by simp [ho, lastBefore])) (fun k => ?_)
        have e1 : ((pre' ++ [p]).length : Int) = (pre'.length : Int) + 1 := by simp
        have hw2 : wrap64 (((pre' ++ [p]).length : Int) - 1) = (pre'.length : Int) := by
          rw [e1, wrapS (by omega) (by simp at hl; omega)]; omega
        have e2 : rd_T26 (pre' ++ [p] ++ x :: suf) (pre'.length : Int) = p := by
          rw [snoc_app]; exact rdH_mid _ _ _
        rw [spec_shGood.l0, if_pos hl', if_pos (by omega), if_pos hl', rdH_mid, shHole_ok, ho]
        simp only [List.concat_eq_append] at *
        simp only [Option.bind_some, if_true]
        rw [if_pos (by omega), hw2, if_pos (by omega), if_pos (by simp; omega), e2, shBefore_ok]
        simp only [Option.bind_some]

theorem shGood_ok (l : List S26) (h : l.length ≤ 9223372036854775806) : Ev (fun k => spec_shGood.f k l) (good l) :=
  Ev.congr (fun _ => rfl) (shGood_l0 l [] (by simpa using h))

theorem isSheet_l1 (x : S26) (l : List S26) (n i : Int) (r : Bool) (suf : List S26) : ∀ pre : List S26, (pre ++ suf).length ≤ 9223372036854775806 →
    (suf.any (meets x) = true → r = false) → (suf.any (meets x) = false → Ev (fun k => impl_IsSheet.l0 k l l n (wrap64 (i + 1))) r) →
    Ev (fun k => impl_IsSheet.l1 k l l n i (pre ++ suf) ((pre ++ suf).length : Int) (pre.length : Int) x.f0 x.f1 x.f2) r := by
  induction suf with
  | nil =>
    intro pre _ _ h
    refine ev_step (h rfl) (fun k => ?_)
    rw [impl_IsSheet.l1, if_neg (by simp)]
  | cons y suf ih =>
    intro pre hl h1 h2
    have hl' : (pre.length : Int) < ((pre ++ y :: suf).length : Int) := by simp; omega
    have hw : wrap64 ((pre.length : Int) + 1) = (pre.length : Int) + 1 := wrapS (by omega) (by simp at hl; omega)
    by_cases hm : meets x y = true
    · have e : r = false := h1 (by simp [hm])
      subst e
      simp only [meets, decide_eq_true_eq] at hm
      refine ev_step ev_const (fun k => ?_)
      rw [impl_IsSheet.l1, if_pos hl', if_pos (by omega), if_pos hl', rdH_mid, if_pos hm.1.symm, if_pos hm.2]
    · replace hm : meets x y = false := by simpa using hm
      have h := ih (pre ++ [y]) (by simp at hl ⊢; omega) (fun e => h1 (by simp [e])) (fun e => h2 (by simp [hm, e]))
      rw [snoc_app, snoc_leni] at h
      simp only [meets, decide_eq_false_iff_not] at hm
      refine ev_step h (fun k => ?_)
      rw [impl_IsSheet.l1, if_pos hl', if_pos (by omega), if_pos hl', rdH_mid, hw]
      by_cases e : x.f0 = y.f0
      · rw [if_pos e.symm, if_neg (fun e2 => hm ⟨e, e2⟩)]
      · rw [if_neg (fun e2 => e e2.symm)]

theorem isSheet_j1 (x : S26) (pre suf : List S26) (n : Int) (b r : Bool) (hl : (pre ++ suf).length ≤ 9223372036854775806) (hb : b = true → r = false) (h1 : b = false → pre.any (meets x) = true → r = false)
    (h2 : b = false → pre.any (meets x) = false → Ev (fun k => impl_IsSheet.l0 k (pre ++ suf) (pre ++ suf) n (wrap64 ((pre.length : Int) + 1))) r) :
    Ev (fun k => impl_IsSheet.j1 k (pre ++ suf) (pre.length : Int) (pre ++ suf) n (pre.length : Int) b x.f0 x.f1 x.f2) r := by
  cases b with
  | true =>
    obtain rfl := hb rfl
    refine ev_step ev_const (fun k => ?_)
    rw [impl_IsSheet.j1, if_pos rfl]
  | false =>
    have h := isSheet_l1 x (pre ++ suf) n (pre.length : Int) r pre [] (by simp at hl ⊢; omega) (h1 rfl) (h2 rfl)
    refine ev_step h (fun k => ?_)
    rw [impl_IsSheet.j1, if_neg (by decide), if_pos (by omega), if_pos (by simp; omega)]
    simp

theorem isSheet_l0 (suf : List S26) : ∀ pre : List S26, (pre ++ suf).length ≤ 9223372036854775806 →
    Ev (fun k => impl_IsSheet.l0 k (pre ++ suf) (pre ++ suf) ((pre ++ suf).length : Int) (pre.length : Int)) (goodFrom pre suf) := by
  induction suf with
  | nil =>
    intro pre _
    refine ev_step (Ev.now _) (fun k => ?_)
    rw [impl_IsSheet.l0, if_neg (by simp)]
    simp [goodFrom]
  | cons x suf ih =>
    intro pre hl
    have h := ih (pre ++ [x]) (by simp at hl ⊢; omega)
    rw [snoc_app, snoc_leni] at h
    have hl' : (pre.length : Int) < ((pre ++ x :: suf).length : Int) := by simp; omega
    have hw : wrap64 ((pre.length : Int) + 1) = (pre.length : Int) + 1 := wrapS (by omega) (by simp at hl; omega)
    have J : ∀ b, (b = !(holeOk x.f0 x.f1 x.f2 && lastBefore pre x)) → Ev (fun k => impl_IsSheet.j1 k (pre ++ x :: suf) (pre.length : Int) (pre ++ x :: suf) ((pre ++ x :: suf).length : Int) (pre.length : Int) b x.f0 x.f1 x.f2) (goodFrom pre (x :: suf)) := by
      intro b hb
      refine isSheet_j1 x pre (x :: suf) _ b _ hl (fun e => ?_) (fun e e2 => ?_) (fun e e2 => ?_)
      · simp only [goodFrom, goodAt]
        cases h1 : holeOk x.f0 x.f1 x.f2 <;> cases h2 : lastBefore pre x <;> simp_all
      · simp [goodFrom, goodAt, e2]
      · rw [hw]
        have e3 : goodFrom pre (x :: suf) = goodFrom (pre ++ [x]) suf := by
          simp only [goodFrom, goodAt, e2]
          cases h1 : holeOk x.f0 x.f1 x.f2 <;> cases h2 : lastBefore pre x <;> simp_all
        rw [e3]
        exact h
    cases ho : holeOk x.f0 x.f1 x.f2 with
    | false =>
      refine ev_step (J true (by simp [ho])) (fun k => ?_)
      rw [impl_IsSheet.l0, if_pos hl', if_pos (by omega), if_pos hl', rdH_mid, isHole_ok, ho]
      simp
    | true =>
      rcases List.eq_nil_or_concat pre with rfl | ⟨pre', p, rfl⟩
      · refine ev_step (J false (by simp [ho, lastBefore])) (fun k => ?_)
        rw [impl_IsSheet.l0, if_pos hl', if_pos (by omega), if_pos hl', rdH_mid, isHole_ok, ho]
        simp
      · refine ev_step (J (!(before p x)) (by simp [ho, lastBefore])) (fun k => ?_)
        have e1 : ((pre' ++ [p]).length : Int) = (pre'.length : Int) + 1 := by simp
        have hw2 : wrap64 (((pre' ++ [p]).length : Int) - 1) = (pre'.length : Int) := by
          rw [e1, wrapS (by omega) (by simp at hl; omega)]; omega
        have e2 : rd_T26 (pre' ++ [p] ++ x :: suf) (pre'.length : Int) = p := by
          rw [snoc_app]; exact rdH_mid _ _ _
        rw [impl_IsSheet.l0, if_pos hl', if_pos (by omega), if_pos hl', rdH_mid, isHole_ok, ho]
        simp only [List.concat_eq_append] at *
        simp only [Option.bind_some, if_true]
        rw [if_pos (by omega), hw2, if_pos (by omega), if_pos (by simp; omega), e2, holeLess_ok]
        simp only [Option.bind_some]

theorem isSheet_ok (l : List S26) (h : l.length ≤ 9223372036854775806) : Ev (fun k => impl_IsSheet.f k l) (good l) := by
  by_cases h6 : (l.length : Int) > 60
  · refine Ev.congr (f := fun _ => some (good l)) (fun k => ?_) ev_const
    rw [impl_IsSheet.f, if_pos h6]
    have : ¬ l.length ≤ 60 := by omega
    simp [good, this]
  · refine Ev.congr (fun k => ?_) (ev_eq (isSheet_l0 l [] (by simpa using h)) ?_)
    · rw [impl_IsSheet.f, if_neg h6]
      rfl
    · have : l.length ≤ 60 := by omega
      simp [good, this]

/-! checksums -/
def ck (s t a b : Int) : Int := Int.tmod (wrap64 (wrap64 (31 * s) + wrap64 (wrap64 (wrap64 (4004001 * t) + wrap64 (2001 * a)) + b))) 1000003
theorem ckExtend_ok (s t a b : Int) : spec_ckExtend.f s t a b = some (ck s t a b) := rfl
theorem extend_ok (s t a b : Int) : impl_extendChecksum.f s t a b = some (ck s t a b) := by
  simp only [impl_extendChecksum.f, impl_holeNumber.f, Option.bind_some, Int.mul_comm t, Int.mul_comm a]
  rfl
def sumOf : Int → List S26 → Int
  | s, [] => s
  | s, x :: l => sumOf (ck s x.f0 x.f1 x.f2) l

theorem ckSum_l0 (suf : List S26) : ∀ (pre : List S26) (s : Int), (pre ++ suf).length ≤ 9223372036854775806 →
    Ev (fun k => spec_ckSum.l0 k s (pre ++ suf) ((pre ++ suf).length : Int) (pre.length : Int)) (sumOf s suf) := by
  induction suf with
  | nil =>
    intro pre s _
    refine ev_step (Ev.now _) (fun k => ?_)
    rw [spec_ckSum.l0, if_neg (by simp)]
    rfl
  | cons x suf ih =>
    intro pre s hl
    have h := ih (pre ++ [x]) (ck s x.f0 x.f1 x.f2) (by simp at hl ⊢; omega)
    rw [snoc_app, snoc_leni] at h
    have hl' : (pre.length : Int) < ((pre ++ x :: suf).length : Int) := by simp; omega
    have hw : wrap64 ((pre.length : Int) + 1) = (pre.length : Int) + 1 := wrapS (by omega) (by simp at hl; omega)
    refine ev_step h (fun k => ?_)
    rw [spec_ckSum.l0, if_pos hl', if_pos (by omega), if_pos hl', rdH_mid, ckExtend_ok, hw]
    simp only [Option.bind_some]

theorem ckSum_ok (l : List S26) (h : l.length ≤ 9223372036854775806) : Ev (fun k => spec_ckSum.f k l) (sumOf 1 l) :=
  Ev.congr (fun _ => rfl) (ckSum_l0 l [] 1 (by simpa using h))

theorem checksumOf_l0 (suf : List S26) : ∀ (pre : List S26) (s : Int), (pre ++ suf).length ≤ 9223372036854775806 →
    Ev (fun k => impl_checksumOf.l0 k s (pre ++ suf) ((pre ++ suf).length : Int) (pre.length : Int)) (sumOf s suf) := by
  induction suf with
  | nil =>
    intro pre s _
    refine ev_step (Ev.now _) (fun k => ?_)
    rw [impl_checksumOf.l0, if_neg (by simp)]
    rfl
  | cons x suf ih =>
    intro pre s hl
    have h := ih (pre ++ [x]) (ck s x.f0 x.f1 x.f2) (by simp at hl ⊢; omega)
    rw [snoc_app, snoc_leni] at h
    have hl' : (pre.length : Int) < ((pre ++ x :: suf).length : Int) := by simp; omega
    have hw : wrap64 ((pre.length : Int) + 1) = (pre.length : Int) + 1 := wrapS (by omega) (by simp at hl; omega)
    refine ev_step h (fun k => ?_)
    rw [impl_checksumOf.l0, if_pos hl', if_pos (by omega), if_pos hl', rdH_mid, extend_ok, hw]
    simp only [Option.bind_some]

theorem checksumOf_ok (l : List S26) (h : l.length ≤ 9223372036854775806) : Ev (fun k => impl_checksumOf.f k l) (sumOf 1 l) :=
  Ev.congr (fun _ => rfl) (checksumOf_l0 l [] 1 (by simpa using h))

/-! slices of slices of holes: copied, held against each other, measured -/
theorem rdLL_mid (pre suf : List (List S23)) (x : List S23) : rd_L4 (pre ++ x :: suf) (pre.length : Int) = x := getD_mid _ _ _ _ _ (by simp)
theorem rdHH_mid (pre suf : List (List S26)) (x : List S26) : rd_L2 (pre ++ x :: suf) (pre.length : Int) = x := getD_mid _ _ _ _ _ (by simp)
theorem toHoleSS_l0 (suf : List (List S23)) : ∀ pre : List (List S23), (pre ++ suf).length ≤ 1048576 → (∀ x ∈ suf, x.length ≤ 1048576) →
    Ev (fun k => laws_toHoleSS.l0 k (pre ++ suf) (pre.map (List.map toH) ++ List.replicate suf.length []) (pre.length : Int)) ((pre ++ suf).map (List.map toH)) := by
  induction suf with
  | nil =>
    intro pre _ _
    refine ev_step ev_const (fun k => ?_)
    rw [laws_toHoleSS.l0, if_neg (by simp)]
    simp
  | cons x suf ih =>
    intro pre hl hx
    have h := ih (pre ++ [x]) (by simp at hl ⊢; omega) (fun y hy => hx y (List.mem_cons_of_mem _ hy))
    rw [snoc_app, snoc_leni, List.map_append, List.map_cons, List.map_nil, snoc_app] at h
    have hl' : (pre.length : Int) < ((pre ++ x :: suf).length : Int) := by simp; omega
    have hlp : pre.length ≤ 1048576 := by simp at hl; omega
    have hw : wrap64 ((pre.length : Int) + 1) = (pre.length : Int) + 1 := wrapS (by omega) (by omega)
    obtain ⟨K1, e1⟩ := toHoleS_copy x (hx x List.mem_cons_self)
    obtain ⟨K2, e2⟩ := h
    dsimp only at e1 e2
    refine ⟨K1 + K2 + 1, fun k hk => ?_⟩
    obtain ⟨m, rfl⟩ : ∃ m, k = m + 1 := ⟨k - 1, by omega⟩
    dsimp only
    rw [laws_toHoleSS.l0, if_pos hl', if_pos (by omega), rdLL_mid, e1 m (by omega)]
    simp only [Option.bind_some]
    rw [if_pos (by simp; omega), hw, List.length_cons, List.replicate_succ, set_mid _ _ _ _ _ (by simp)]
    exact e2 m (by omega)
theorem toHoleSS_copy (l : List (List S23)) (h : l.length ≤ 1048576) (hx : ∀ x ∈ l, x.length ≤ 1048576) : Ev (fun k => laws_toHoleSS.f k l) (l.map (List.map toH)) := by
  have := toHoleSS_l0 l [] (by simpa using h) hx
  refine Ev.congr (fun k => ?_) this
  rw [laws_toHoleSS.f, if_pos (by omega), if_pos (by omega)]
  simp
theorem eqHoleSS_l0 (suf : List (List S26)) : ∀ pre : List (List S26), (pre ++ suf).length ≤ 1048576 → (∀ x ∈ suf, x.length ≤ 1048576) →
    Ev (fun k => laws_eqHoleSS.l0 k (pre ++ suf) (pre ++ suf) (pre.length : Int)) true := by
  induction suf with
  | nil =>
    intro pre _ _
    refine ev_step ev_const (fun k => ?_)
    rw [laws_eqHoleSS.l0, if_neg (by simp)]
  | cons x suf ih =>
    intro pre hl hx
    have h := ih (pre ++ [x]) (by simp at hl ⊢; omega) (fun y hy => hx y (List.mem_cons_of_mem _ hy))
    rw [snoc_app, snoc_leni] at h
    have hl' : (pre.length : Int) < ((pre ++ x :: suf).length : Int) := by simp; omega
    have hlp : pre.length ≤ 1048576 := by simp at hl; omega
    have hw : wrap64 ((pre.length : Int) + 1) = (pre.length : Int) + 1 := wrapS (by omega) (by omega)
    obtain ⟨K1, e1⟩ := eqHoleS_same x (by have := hx x List.mem_cons_self; omega)
    obtain ⟨K2, e2⟩ := h
    dsimp only at e1 e2
    refine ⟨K1 + K2 + 1, fun k hk => ?_⟩
    obtain ⟨m, rfl⟩ : ∃ m, k = m + 1 := ⟨k - 1, by omega⟩
    dsimp only
    rw [laws_eqHoleSS.l0, if_pos hl', if_pos (by omega), if_pos hl', rdHH_mid, e1 m (by omega)]
    simp only [Option.bind_some, if_true]
    rw [hw]
    exact e2 m (by omega)
theorem eqHoleSS_same (l : List (List S26)) (h : l.length ≤ 1048576) (hx : ∀ x ∈ l, x.length ≤ 1048576) : Ev (fun k => laws_eqHoleSS.f k l l) true := by
  have := eqHoleSS_l0 l [] (by simpa using h) hx
  refine Ev.congr (fun k => ?_) this
  simp [laws_eqHoleSS.f]
def totL : List (List S23) → Int
  | [] => 0
  | x :: l => (x.length : Int) + totL l
theorem szHoleSS_l0 (suf : List (List S23)) : ∀ (pre : List (List S23)) (n : Int), (pre ++ suf).length ≤ 9223372036854775806 → 0 ≤ n → n ≤ 1048576 → (∀ x ∈ suf, x.length ≤ 140737488351232) →
    ∃ v, Ev (fun k => laws_szHoleSS.l0 k (pre ++ suf) n (pre.length : Int)) v ∧ v ≤ n ∧ (¬ v < 0 → (∀ x ∈ suf, x.length ≤ 1048576) ∧ v + totL suf ≤ n) := by
  induction suf with
  | nil =>
    intro pre n _ _ _ _
    refine ⟨n, ev_step (f := fun _ => some _) (Ev.now _) (fun k => ?_), Int.le_refl _, fun _ => ⟨fun x hx => absurd hx List.not_mem_nil, by rw [totL]; omega⟩⟩
    rw [laws_szHoleSS.l0, if_neg (by simp)]
  | cons x suf ih =>
    intro pre n hl h0 h1 hx
    have hl' : (pre.length : Int) < ((pre ++ x :: suf).length : Int) := by simp; omega
    have hw : wrap64 ((pre.length : Int) + 1) = (pre.length : Int) + 1 := wrapS (by omega) (by simp at hl; omega)
    have hxx := hx x List.mem_cons_self
    by_cases c : n < (x.length : Int)
    · refine ⟨-1, ev_step (f := fun _ => some _) (Ev.now _) (fun k => ?_), by omega, fun h => absurd (by decide) h⟩
      rw [laws_szHoleSS.l0, if_pos hl', if_pos (by omega), rdLL_mid, szHoleS_out x n h0 (by omega) c]
      simp only [Option.bind_some]
      rw [if_pos (by decide)]
    · obtain ⟨v, hv, hvn, hb⟩ := ih (pre ++ [x]) (n - x.length) (by simp at hl ⊢; omega) (by omega) (by omega) (fun y hy => hx y (List.mem_cons_of_mem _ hy))
      rw [snoc_app, snoc_leni] at hv
      refine ⟨v, ev_step hv (fun k => ?_), by omega, fun h => ⟨fun y hy => ?_, by have := (hb h).2; rw [totL]; omega⟩⟩
      · rw [laws_szHoleSS.l0, if_pos hl', if_pos (by omega), rdLL_mid, szHoleS_in x n (by omega) (by omega)]
        simp only [Option.bind_some]
        rw [if_neg (by omega), hw]
      · rcases List.mem_cons.1 hy with rfl | hy
        · omega
        · exact (hb h).1 y hy
theorem szHoleSS_ok (l : List (List S23)) (n : Int) (h0 : 0 ≤ n) (h1 : n ≤ 1048576) (hl : l.length ≤ 140737488351232) (hw : ∀ x ∈ l, x.length ≤ 140737488351232) :
    ∃ v, Ev (fun k => laws_szHoleSS.f k l n) v ∧ v ≤ n ∧ (¬ v < 0 → l.length ≤ 1048576 ∧ (∀ x ∈ l, x.length ≤ 1048576) ∧ totL l ≤ n) := by
  have hwr : wrap64 (n - (l.length : Int)) = n - (l.length : Int) := wrapS (by omega) (by omega)
  by_cases c : n - (l.length : Int) < 0
  · refine ⟨-1, Ev.congr (f := fun _ => some _) (fun k => ?_) (Ev.now _), by omega, fun h => absurd (by decide) h⟩
    rw [laws_szHoleSS.f, hwr, if_pos c]
  · obtain ⟨v, hv, hvn, hb⟩ := szHoleSS_l0 l [] (n - l.length) (by simp; omega) (by omega) (by omega) hw
    refine ⟨v, Ev.congr (fun k => ?_) hv, by omega, fun h => ⟨by omega, (hb h).1, by have := (hb h).2; omega⟩⟩
    rw [laws_szHoleSS.f, hwr, if_neg c]
    rfl

theorem areSheets_l0 (l : List (List S26)) (n : Int) (suf : List (List S26)) : ∀ pre : List (List S26), (pre ++ suf).length ≤ 1048576 → (∀ x ∈ suf, x.length ≤ 1048576) →
    Ev (fun k => impl_areSheets.l0 k l n (pre ++ suf) ((pre ++ suf).length : Int) (pre.length : Int)) (suf.all good && decide (1 ≤ (l.length : Int) ∧ (l.length : Int) ≤ n)) := by
  induction suf with
  | nil =>
    intro pre _ _
    refine ev_step (f := fun _ => some _) (Ev.now _) (fun k => ?_)
    rw [impl_areSheets.l0, if_neg (by simp)]
    by_cases c : (l.length : Int) ≥ 1
    · rw [if_pos c]; congr 1; simp only [List.all_nil, Bool.true_and]; exact decide_eq_decide.2 ⟨fun q => ⟨c, q⟩, fun q => q.2⟩
    · rw [if_neg c]; congr 1; simp only [List.all_nil, Bool.true_and]; exact (decide_eq_false (fun q => c q.1)).symm
  | cons x suf ih =>
    intro pre hl hx
    have hlp : pre.length ≤ 1048576 := by simp at hl; omega
    have h := ih (pre ++ [x]) (by simp at hl ⊢; omega) (fun y hy => hx y (List.mem_cons_of_mem _ hy))
    rw [snoc_app, snoc_leni] at h
    have hl' : (pre.length : Int) < ((pre ++ x :: suf).length : Int) := by simp; omega
    have hw : wrap64 ((pre.length : Int) + 1) = (pre.length : Int) + 1 := wrapS (by omega) (by omega)
    obtain ⟨K1, e1⟩ := isSheet_ok x (by have := hx x List.mem_cons_self; omega)
    obtain ⟨K2, e2⟩ := h
    dsimp only at e1 e2
    refine ⟨K1 + K2 + 1, fun k hk => ?_⟩
    obtain ⟨m, rfl⟩ : ∃ m, k = m + 1 := ⟨k - 1, by omega⟩
    dsimp only
    rw [impl_areSheets.l0, if_pos hl', if_pos (by omega), if_pos hl', rdHH_mid, e1 m (by omega)]
    simp only [Option.bind_some]
    rw [hw, e2 m (by omega)]
    cases g : good x <;> simp [g]
theorem areSheets_ok (l : List (List S26)) (n : Int) (hl : l.length ≤ 1048576) (hx : ∀ x ∈ l, x.length ≤ 1048576) : Ev (fun k => impl_areSheets.f k l n) (l.all good && decide (1 ≤ (l.length : Int) ∧ (l.length : Int) ≤ n)) :=
  Ev.congr (f := fun k => impl_areSheets.l0 k l n l (l.length : Int) 0) (fun _ => rfl) (areSheets_l0 l n l [] (by simpa using hl) hx)

/-! marks of holes -/
def mholes : Nat → Int → List S26
  | 0, _ => []
  | d + 1, a => (⟨a, a + 1, a + 1 + 1⟩ : S26) :: mholes d (a + 1 + 1 + 1)
theorem mholes_len (d : Nat) : ∀ a, (mholes d a).length = d := by
  induction d with
  | zero => intro a; rfl
  | succ d ih => intro a; simp [mholes, ih]
theorem markHoleS_l0 (suf : List S26) : ∀ (pre : List S26) (a : Int), (pre ++ suf).length ≤ 9000000 → 0 ≤ a → a ≤ 1000000000 + 3 * pre.length →
    Ev (fun k => laws_markHoleS.l0 k (pre ++ suf) a (pre.length : Int)) (a + 3 * suf.length, pre ++ mholes suf.length a) := by
  induction suf with
  | nil =>
    intro pre a _ _ _
    refine ev_step (f := fun _ => some _) (Ev.now _) (fun k => ?_)
    rw [laws_markHoleS.l0, if_neg (by simp)]; simp [mholes]
  | cons x suf ih =>
    intro pre a hl h0 h1
    have hlp : pre.length ≤ 9000000 := by simp at hl; omega
    have w1 : wrap64 (a + 1) = a + 1 := wrapS (by omega) (by omega)
    have w2 : wrap64 (a + 1 + 1) = a + 1 + 1 := wrapS (by omega) (by omega)
    have w3 : wrap64 (a + 1 + 1 + 1) = a + 1 + 1 + 1 := wrapS (by omega) (by omega)
    have w5 : wrap64 ((pre.length : Int) + 1) = (pre.length : Int) + 1 := wrapS (by omega) (by omega)
    have sR : ∀ y z : S26, (pre ++ y :: suf).set ((pre.length : Int)).toNat z = pre ++ z :: suf := fun y z => set_mid _ _ _ _ _ (by simp)
    have hl' : (pre.length : Int) < ((pre ++ x :: suf).length : Int) := by simp; omega
    have h := ih (pre ++ [(⟨a, a + 1, a + 1 + 1⟩ : S26)]) (a + 1 + 1 + 1) (by simp at hl ⊢; omega) (by omega) (by simp; omega)
    rw [snoc_app, snoc_app, snoc_leni] at h
    refine ev_step (ev_eq h ?_) (fun k => ?_)
    · simp only [mholes, List.length_cons]
      congr 1
      omega
    · rw [laws_markHoleS.l0, if_pos hl', if_pos (by omega)]
      simp only [rdH_mid, sR, w1, w2, w3, w5, Option.bind_some]
theorem markHoleS_all (l : List S26) (a : Int) (hl : l.length ≤ 9000000) (h0 : 0 ≤ a) (h1 : a ≤ 1000000000) : Ev (fun k => laws_markHoleS.f k l a) (a + 3 * l.length, mholes l.length a) :=
  Ev.congr (f := fun k => laws_markHoleS.l0 k l a 0) (fun _ => rfl) (by simpa using markHoleS_l0 l [] a (by simpa using hl) h0 (by simpa using h1))

/-! marks of rows of rows of holes -/
def tot : List (List S26) → Int
  | [] => 0
  | x :: l => (x.length : Int) + tot l
theorem tot_nn (l : List (List S26)) : 0 ≤ tot l := by
  induction l with
  | nil => exact Int.le_refl _
  | cons x l ih => rw [tot]; omega
def marksSS : List (List S26) → Int → List (List S26)
  | [], _ => []
  | x :: l, a => mholes x.length a :: marksSS l (a + 3 * x.length)
theorem marksSS_len (l : List (List S26)) : ∀ a, (marksSS l a).length = l.length := by
  induction l with
  | nil => intro a; rfl
  | cons x l ih => intro a; simp [marksSS, ih]
theorem markHoleSS_l0 (suf : List (List S26)) : ∀ (pre : List (List S26)) (a : Int), (pre ++ suf).length ≤ 9000000 → 0 ≤ a → a + 3 * tot suf ≤ 20000000 → (∀ x ∈ suf, x.length ≤ 9000000) →
    Ev (fun k => laws_markHoleSS.l0 k (pre ++ suf) a (pre.length : Int)) (a + 3 * tot suf, pre ++ marksSS suf a) := by
  induction suf with
  | nil =>
    intro pre a _ _ _ _
    refine ev_step (f := fun _ => some _) (Ev.now _) (fun k => ?_)
    rw [laws_markHoleSS.l0, if_neg (by simp)]; simp [tot, marksSS]
  | cons x suf ih =>
    intro pre a hl h0 h1 hx
    rw [tot] at h1
    have ht := tot_nn suf
    have hlp : pre.length + 1 ≤ 9000000 := by simp at hl; omega
    have hl' : (pre.length : Int) < ((pre ++ x :: suf).length : Int) := by simp; omega
    have hw : wrap64 ((pre.length : Int) + 1) = (pre.length : Int) + 1 := wrapS (by omega) (by omega)
    have hg : (pre ++ x :: suf).getD ((pre.length : Int)).toNat [] = x := getD_mid _ _ _ _ _ (by simp)
    have hs : ∀ y, (pre ++ x :: suf).set ((pre.length : Int)).toNat y = pre ++ y :: suf := fun y => set_mid _ _ _ _ _ (by simp)
    obtain ⟨K1, e1⟩ := markHoleS_all x a (hx x List.mem_cons_self) h0 (by omega)
    have h := ih (pre ++ [mholes x.length a]) (a + 3 * x.length) (by simp at hl ⊢; omega) (by omega) (by omega) (fun y hy => hx y (List.mem_cons_of_mem _ hy))
    rw [snoc_app, snoc_app, snoc_leni] at h
    obtain ⟨K2, e2⟩ := h
    dsimp only at e1 e2
    have et : a + 3 * tot (x :: suf) = a + 3 * (x.length : Int) + 3 * tot suf := by rw [tot]; omega
    refine ⟨K1 + K2 + 1, fun k hk => ?_⟩
    obtain ⟨m, rfl⟩ : ∃ m, k = m + 1 := ⟨k - 1, by omega⟩
    dsimp only
    rw [laws_markHoleSS.l0, if_pos hl', if_pos (by omega), hg, e1 m (by omega)]
    simp only [Option.bind_some]
    rw [hs, hw, e2 m (by omega), et]; rfl
theorem markHoleSS_all (l : List (List S26)) (a : Int) (hl : l.length ≤ 9000000) (h0 : 0 ≤ a) (h1 : a + 3 * tot l ≤ 20000000) (hx : ∀ x ∈ l, x.length ≤ 9000000) : Ev (fun k => laws_markHoleSS.f k l a) (a + 3 * tot l, marksSS l a) :=
  Ev.congr (f := fun k => laws_markHoleSS.l0 k l a 0) (fun _ => rfl) (by simpa using markHoleSS_l0 l [] a (by simpa using hl) h0 h1 hx)

/-! the copies that agree -/
def idxOf (v : Int) : List Int → Int → List Int
  | [], _ => []
  | x :: r, j => if x = v then j :: idxOf v r (j + 1) else idxOf v r (j + 1)
theorem idxOf_len (v : Int) (l : List Int) : ∀ j, (idxOf v l j).length ≤ l.length := by
  induction l with
  | nil => intro j; simp [idxOf]
  | cons x l ih =>
    intro j
    have := ih (j + 1)
    rw [idxOf]
    by_cases c : x = v
    · rw [if_pos c]; simp; omega
    · rw [if_neg c]; simp; omega
def better (a b : List Int) : List Int := if (a.length : Int) > (b.length : Int) then a else b
def bestOf (all : List Int) : List Int → List Int → List Int
  | acc, [] => acc
  | acc, v :: r => bestOf all (better (idxOf v all 0) acc) r
theorem bestOf_len (all : List Int) (r : List Int) : ∀ acc, acc.length ≤ all.length → (bestOf all acc r).length ≤ all.length := by
  induction r with
  | nil => intro acc h; exact h
  | cons v r ih =>
    intro acc h
    refine ih _ ?_
    unfold better
    by_cases c : ((idxOf v all 0).length : Int) > (acc.length : Int)
    · rw [if_pos c]; exact idxOf_len v all 0
    · rw [if_neg c]; exact h
theorem specAgree_l2 (all : List Int) (acc : List Int) (v : Int) (n : Int) (i : Nat) (hi : i + 1 ≤ 100) (R : List Int × Bool) (suf : List Int) : ∀ (pre own : List Int), (pre ++ suf).length ≤ 100 → own.length ≤ pre.length → all = pre ++ suf →
    Ev (fun k => spec_AgreeingCopies.l1 k all (better (own ++ idxOf v suf (pre.length : Int)) acc) all n ((i : Int) + 1)) R →
    Ev (fun k => spec_AgreeingCopies.l2 k all acc v own all n (i : Int) (pre ++ suf) ((pre ++ suf).length : Int) (pre.length : Int)) R := by
  induction suf with
  | nil =>
    intro pre own hl ho ha h
    have hw : wrap64 ((i : Int) + 1) = (i : Int) + 1 := wrapS (by omega) (by omega)
    rw [idxOf, List.append_nil] at h
    refine ev_step h (fun k => ?_)
    rw [spec_AgreeingCopies.l2, if_neg (by simp), hw]
    unfold better
    by_cases c : (own.length : Int) > (acc.length : Int)
    · rw [if_pos c, if_pos c]
    · rw [if_neg c, if_neg c]
  | cons x suf ih =>
    intro pre own hl ho ha h
    have hlp : pre.length + 1 ≤ 100 := by simp at hl; omega
    have hl' : (pre.length : Int) < ((pre ++ x :: suf).length : Int) := by simp; omega
    have hw : wrap64 ((pre.length : Int) + 1) = (pre.length : Int) + 1 := wrapS (by omega) (by omega)
    rw [idxOf] at h
    by_cases c : x = v
    · rw [if_pos c] at h
      have h2 := ih (pre ++ [x]) (own ++ [(pre.length : Int)]) (by simp at hl ⊢; omega) (by simp; omega) (by rw [snoc_app]; exact ha) (by rw [snoc_leni, List.append_assoc]; exact h)
      rw [snoc_app, snoc_leni] at h2
      refine ev_step h2 (fun k => ?_)
      rw [spec_AgreeingCopies.l2, if_pos hl', if_pos (by omega), if_pos hl', rd_mid, if_pos c, if_pos (by omega), hw]
    · rw [if_neg c] at h
      have h2 := ih (pre ++ [x]) own (by simp at hl ⊢; omega) (by simp; omega) (by rw [snoc_app]; exact ha) (by rw [snoc_leni]; exact h)
      rw [snoc_app, snoc_leni] at h2
      refine ev_step h2 (fun k => ?_)
      rw [spec_AgreeingCopies.l2, if_pos hl', if_pos (by omega), if_pos hl', rd_mid, if_neg c, hw]
theorem specAgree_l1 (all : List Int) (suf : List Int) : ∀ (pre acc : List Int), (pre ++ suf).length ≤ 90 → all = pre ++ suf →
    Ev (fun k => spec_AgreeingCopies.l1 k all acc (pre ++ suf) ((pre ++ suf).length : Int) (pre.length : Int)) (bestOf all acc suf, true) := by
  induction suf with
  | nil =>
    intro pre acc hl ha
    refine ev_step (f := fun _ => some _) (Ev.now _) (fun k => ?_)
    rw [spec_AgreeingCopies.l1, if_neg (by simp)]; rfl
  | cons v suf ih =>
    intro pre acc hl ha
    have hlp : pre.length + 1 ≤ 90 := by simp at hl; omega
    have hl' : (pre.length : Int) < ((pre ++ v :: suf).length : Int) := by simp; omega
    have h := ih (pre ++ [v]) (better (idxOf v all 0) acc) (by simp at hl ⊢; omega) (by rw [snoc_app]; exact ha)
    rw [snoc_app, snoc_leni, ← ha] at h
    have h2 := specAgree_l2 all acc v (all.length : Int) pre.length (by omega) _ all [] [] (by rw [ha]; simp at hl ⊢; omega) (by simp) (by simp) (by simpa using h)
    simp only [List.nil_append, List.length_nil, Int.natCast_zero] at h2
    refine ev_step (ev_eq h2 (by rw [bestOf])) (fun k => ?_)
    rw [spec_AgreeingCopies.l1, if_pos hl', if_pos (by omega), if_pos hl', rd_mid, ← ha]
def sumsOf (l : List (List S26)) : List Int := l.map (fun x => sumOf 1 x)
theorem specAgree_l0 (l : List (List S26)) (suf : List (List S26)) : ∀ (pre : List (List S26)) (out : List Int), (pre ++ suf).length ≤ 9 → out.length = pre.length → (∀ x ∈ suf, x.length ≤ 1048576) →
    Ev (fun k => spec_AgreeingCopies.l0 k out (pre ++ suf) ((pre ++ suf).length : Int) (pre.length : Int)) (if suf.all good = true then (bestOf (out ++ sumsOf suf) [] (out ++ sumsOf suf), true) else ([], false)) := by
  induction suf with
  | nil =>
    intro pre out hl ho hx
    simp only [List.append_nil] at hl
    have h := specAgree_l1 out out [] [] (by simp; omega) (by simp)
    simp only [List.nil_append, List.length_nil, Int.natCast_zero] at h
    refine ev_step (ev_eq h (by simp [sumsOf])) (fun k => ?_)
    rw [spec_AgreeingCopies.l0, if_neg (by simp)]
  | cons x suf ih =>
    intro pre out hl ho hx
    have hlp : pre.length + 1 ≤ 9 := by simp at hl; omega
    have hl' : (pre.length : Int) < ((pre ++ x :: suf).length : Int) := by simp; omega
    have hw : wrap64 ((pre.length : Int) + 1) = (pre.length : Int) + 1 := wrapS (by omega) (by omega)
    have hxl := hx x List.mem_cons_self
    obtain ⟨K1, e1⟩ := shGood_ok x (by omega)
    obtain ⟨K2, e2⟩ := ckSum_ok x (by omega)
    have h := ih (pre ++ [x]) (out ++ [sumOf 1 x]) (by simp at hl ⊢; omega) (by simp [ho]) (fun y hy => hx y (List.mem_cons_of_mem _ hy))
    rw [snoc_app, snoc_leni] at h
    obtain ⟨K3, e3⟩ := h
    dsimp only at e1 e2 e3
    refine ⟨K1 + K2 + K3 + 1, fun k hk => ?_⟩
    obtain ⟨m, rfl⟩ : ∃ m, k = m + 1 := ⟨k - 1, by omega⟩
    dsimp only
    rw [spec_AgreeingCopies.l0, if_pos hl', if_pos (by omega), if_pos hl', rdHH_mid, e1 m (by omega)]
    simp only [Option.bind_some]
    cases g : good x with
    | false => simp [g]
    | true =>
      simp only [if_true]
      rw [e2 m (by omega)]
      simp only [Option.bind_some]
      rw [if_pos (by omega), hw, e3 m (by omega)]
      simp [g, sumsOf]
theorem implAgree_l1 (l : List (List S26)) (hlx : ∀ x ∈ l, x.length ≤ 1048576) (acc : List Int) (y : List S26) (hy : y.length ≤ 1048576) (n : Int) (i : Nat) (hi : i + 1 ≤ 100) (R : List Int × Bool) (suf : List (List S26)) : ∀ (pre : List (List S26)) (own : List Int), (pre ++ suf).length ≤ 100 → own.length ≤ pre.length → l = pre ++ suf →
    Ev (fun k => impl_AgreeingCopies.l0 k l (better (own ++ idxOf (sumOf 1 y) (sumsOf suf) (pre.length : Int)) acc) l n ((i : Int) + 1)) R →
    Ev (fun k => impl_AgreeingCopies.l1 k l acc y own l n (i : Int) (pre ++ suf) ((pre ++ suf).length : Int) (pre.length : Int)) R := by
  induction suf with
  | nil =>
    intro pre own hl ho ha h
    have hw : wrap64 ((i : Int) + 1) = (i : Int) + 1 := wrapS (by omega) (by omega)
    rw [sumsOf, List.map_nil, idxOf, List.append_nil] at h
    refine ev_step h (fun k => ?_)
    rw [impl_AgreeingCopies.l1, if_neg (by simp), hw]
    unfold better
    by_cases c : (own.length : Int) > (acc.length : Int)
    · rw [if_pos c, if_pos c]
    · rw [if_neg c, if_neg c]
  | cons x suf ih =>
    intro pre own hl ho ha h
    have hlp : pre.length + 1 ≤ 100 := by simp at hl; omega
    have hl' : (pre.length : Int) < ((pre ++ x :: suf).length : Int) := by simp; omega
    have hw : wrap64 ((pre.length : Int) + 1) = (pre.length : Int) + 1 := wrapS (by omega) (by omega)
    have hxl : x.length ≤ 1048576 := hlx x (by rw [ha]; simp)
    obtain ⟨K1, e1⟩ := checksumOf_ok x (by omega)
    obtain ⟨K2, e2⟩ := checksumOf_ok y (by omega)
    rw [show sumsOf (x :: suf) = sumOf 1 x :: sumsOf suf from rfl, idxOf] at h
    by_cases c : sumOf 1 x = sumOf 1 y
    · rw [if_pos c] at h
      have h2 := ih (pre ++ [x]) (own ++ [(pre.length : Int)]) (by simp at hl ⊢; omega) (by simp; omega) (by rw [snoc_app]; exact ha) (by rw [snoc_leni, List.append_assoc]; exact h)
      rw [snoc_app, snoc_leni] at h2
      obtain ⟨K3, e3⟩ := h2
      dsimp only at e1 e2 e3
      refine ⟨K1 + K2 + K3 + 1, fun k hk => ?_⟩
      obtain ⟨m, rfl⟩ : ∃ m, k = m + 1 := ⟨k - 1, by omega⟩
      dsimp only
      rw [impl_AgreeingCopies.l1, if_pos hl', if_pos (by omega), if_pos hl', rdHH_mid, e1 m (by omega), e2 m (by omega)]
      simp only [Option.bind_some]
      rw [if_pos c, if_pos (by omega), hw, e3 m (by omega)]
    · rw [if_neg c] at h
      have h2 := ih (pre ++ [x]) own (by simp at hl ⊢; omega) (by simp; omega) (by rw [snoc_app]; exact ha) (by rw [snoc_leni]; exact h)
      rw [snoc_app, snoc_leni] at h2
      obtain ⟨K3, e3⟩ := h2
      dsimp only at e1 e2 e3
      refine ⟨K1 + K2 + K3 + 1, fun k hk => ?_⟩
      obtain ⟨m, rfl⟩ : ∃ m, k = m + 1 := ⟨k - 1, by omega⟩
      dsimp only
      rw [impl_AgreeingCopies.l1, if_pos hl', if_pos (by omega), if_pos hl', rdHH_mid, e1 m (by omega), e2 m (by omega)]
      simp only [Option.bind_some]
      rw [if_neg c, hw, e3 m (by omega)]
theorem implAgree_l0 (l : List (List S26)) (hlx : ∀ x ∈ l, x.length ≤ 1048576) (suf : List (List S26)) : ∀ (pre : List (List S26)) (acc : List Int), (pre ++ suf).length ≤ 9 → l = pre ++ suf →
    Ev (fun k => impl_AgreeingCopies.l0 k l acc (pre ++ suf) ((pre ++ suf).length : Int) (pre.length : Int)) (bestOf (sumsOf l) acc (sumsOf suf), true) := by
  induction suf with
  | nil =>
    intro pre acc hl ha
    refine ev_step (f := fun _ => some _) (Ev.now _) (fun k => ?_)
    rw [impl_AgreeingCopies.l0, if_neg (by simp)]; rfl
  | cons y suf ih =>
    intro pre acc hl ha
    have hlp : pre.length + 1 ≤ 9 := by simp at hl; omega
    have hl' : (pre.length : Int) < ((pre ++ y :: suf).length : Int) := by simp; omega
    have hyl : y.length ≤ 1048576 := hlx y (by rw [ha]; simp)
    have hll : l.length ≤ 9 := by rw [ha]; exact hl
    have h := ih (pre ++ [y]) (better (idxOf (sumOf 1 y) (sumsOf l) 0) acc) (by simp at hl ⊢; omega) (by rw [snoc_app]; exact ha)
    rw [snoc_app, snoc_leni, ← ha] at h
    have h2 := implAgree_l1 l hlx acc y hyl (l.length : Int) pre.length (by omega) _ l [] [] (by simp; omega) (by simp) (by simp) (by simpa using h)
    simp only [List.nil_append, List.length_nil, Int.natCast_zero] at h2
    refine ev_step (ev_eq h2 (by rw [show sumsOf (y :: suf) = sumOf 1 y :: sumsOf suf from rfl, bestOf])) (fun k => ?_)
    rw [impl_AgreeingCopies.l0, if_pos hl', if_pos (by omega), if_pos hl', rdHH_mid, ← ha]
def agreeR (l : List (List S26)) : List Int × Bool := if (l.all good && decide (1 ≤ (l.length : Int) ∧ (l.length : Int) ≤ 9)) = true then (bestOf (sumsOf l) [] (sumsOf l), true) else ([], false)
theorem agreeR_len (l : List (List S26)) : (agreeR l).1.length ≤ 9 := by
  unfold agreeR
  by_cases c : (l.all good && decide (1 ≤ (l.length : Int) ∧ (l.length : Int) ≤ 9)) = true
  · rw [if_pos c]
    have h1 := of_decide_eq_true (Bool.and_eq_true_iff.1 c).2
    have h2 := bestOf_len (sumsOf l) (sumsOf l) [] (by simp)
    have h3 : (sumsOf l).length = l.length := by unfold sumsOf; simp
    simp only; omega
  · rw [if_neg c]; simp
theorem specAgree_ok (l : List (List S26)) (hl : l.length ≤ 1048576) (hx : ∀ x ∈ l, x.length ≤ 1048576) : Ev (fun k => spec_AgreeingCopies.f k l) (agreeR l) := by
  have hc : spec_l1In.f (l.length : Int) 1 9 = some (decide (1 ≤ (l.length : Int) ∧ (l.length : Int) ≤ 9)) := by
    unfold spec_l1In.f
    by_cases h : (l.length : Int) ≥ 1
    · rw [if_pos h]; congr 1; exact decide_eq_decide.2 ⟨fun q => ⟨h, q⟩, fun q => q.2⟩
    · rw [if_neg h]; congr 1; exact (decide_eq_false (fun q => h q.1)).symm
  by_cases c : 1 ≤ (l.length : Int) ∧ (l.length : Int) ≤ 9
  · have h := specAgree_l0 l l [] [] (by simp; omega) (by simp) hx
    simp only [List.nil_append, List.length_nil, Int.natCast_zero] at h
    refine Ev.congr (fun k => ?_) (ev_eq h (by simp only [agreeR, decide_eq_true c, Bool.and_true]))
    rw [spec_AgreeingCopies.f, hc, decide_eq_true c]
    simp only [Option.bind_some, if_true]
  · refine Ev.congr (f := fun _ => some (agreeR l)) (fun k => ?_) (Ev.now _)
    rw [spec_AgreeingCopies.f, hc, decide_eq_false c]
    simp only [Option.bind_some, agreeR, decide_eq_false c, Bool.and_false, Bool.false_eq_true, if_false]
theorem implAgree_ok (l : List (List S26)) (hl : l.length ≤ 1048576) (hx : ∀ x ∈ l, x.length ≤ 1048576) : Ev (fun k => impl_AgreeingCopies.f k l) (agreeR l) := by
  refine Ev.bind (areSheets_ok l 9 hl hx) ?_
  cases ga : (l.all good && decide (1 ≤ (l.length : Int) ∧ (l.length : Int) ≤ 9)) with
  | false => exact ev_of_eq (fun _ => by simp only [agreeR, ga, Bool.false_eq_true, if_false])
  | true =>
    have hc := of_decide_eq_true (Bool.and_eq_true_iff.1 ga).2
    simp only [if_true]
    have h := implAgree_l0 l hx l [] [] (by simp; omega) (by simp)
    simp only [List.nil_append, List.length_nil, Int.natCast_zero] at h
    exact ev_eq h (by simp only [agreeR, ga, if_true])
theorem tot_map (l : List (List S23)) : tot (l.map (List.map toH)) = totL l := by
  induction l with
  | nil => rfl
  | cons x l ih => rw [List.map_cons, tot, totL, ih, List.length_map]
theorem FnExactAgreeingCopies (s : List (List S23)) (hsb : s.length * 24 ≤ 140737488351232) (hsw : ∀ y ∈ s, (y.length * 24 ≤ 140737488351232) ∧ ∀ z ∈ y, ((Lit.int .i64 z.f0).wf = true) ∧ ((Lit.int .i64 z.f1).wf = true) ∧ ((Lit.int .i64 z.f2).wf = true)) : ∃ k, laws_FnExactAgreeingCopies.f k s = some true := by
  obtain ⟨v, ⟨K0, e0⟩, hvn, hv⟩ := szHoleSS_ok s 1048576 (by omega) (by omega) (by omega) (fun x hx => by have := (hsw x hx).1; omega)
  dsimp only at e0
  by_cases d : v < 0
  · exact ⟨K0, by simp (disch := omega) only [laws_FnExactAgreeingCopies.f, e0, Option.bind_some, d, if_true, if_false]⟩
  obtain ⟨hs, hx, hT⟩ := hv d
  have hs2 : (s.map (List.map toH)).length ≤ 1048576 := by simpa using hs
  have hx2 : ∀ x ∈ s.map (List.map toH), x.length ≤ 1048576 := fun x h => by
    obtain ⟨y, hy, rfl⟩ := List.mem_map.1 h
    simpa using hx y hy
  have hx3 : ∀ x ∈ s.map (List.map toH), x.length ≤ 9000000 := fun x h => by have := hx2 x h; omega
  have hT2 : tot (s.map (List.map toH)) ≤ 1048576 := by rw [tot_map]; exact hT
  have hnn := tot_nn (s.map (List.map toH))
  have hr := agreeR_len (s.map (List.map toH))
  obtain ⟨K1, e1⟩ := toHoleSS_copy s hs hx
  obtain ⟨K2, e2⟩ := specAgree_ok (s.map (List.map toH)) hs2 hx2
  obtain ⟨K3, e3⟩ := implAgree_ok (s.map (List.map toH)) hs2 hx2
  obtain ⟨K4, e4⟩ := eqIntS_same (agreeR (s.map (List.map toH))).1 (by omega)
  obtain ⟨K5, e5⟩ := eqHoleSS_same (s.map (List.map toH)) hs2 hx2
  obtain ⟨K6, e6⟩ := markHoleSS_all (s.map (List.map toH)) 1 (by omega) (by omega) (by omega) hx3
  obtain ⟨K7, e7⟩ := markIntS_marks (agreeR (s.map (List.map toH))).1 1 (by omega) (by omega) (by omega)
  obtain ⟨K8, e8⟩ := heldIntS_marked (agreeR (s.map (List.map toH))).1.length 1 (by omega) (by omega) (by omega)
  have n2 : ¬ (1 + 3 * tot (s.map (List.map toH))) < 0 := by omega
  have n3 : ¬ (1 + ((agreeR (s.map (List.map toH))).1.length : Int)) < 0 := by omega
  dsimp only at e1 e2 e3 e4 e5 e6 e7 e8
  refine ⟨K0 + K1 + K2 + K3 + K4 + K5 + K6 + K7 + K8 + 6, ?_⟩
  simp (disch := omega) only [laws_FnExactAgreeingCopies.f, d, n2, n3, e0, e1, e2, e3, e4, e5, e6, e7, e8, if_false, if_true, Option.bind_some, bnot_ne, Bool.false_eq_true]
  simp (disch := omega) only [laws_FnExactAgreeingCopies.j0, d, n2, n3, e0, e1, e2, e3, e4, e5, e6, e7, e8, if_false, if_true, Option.bind_some, bnot_ne, Bool.false_eq_true]
  simp (disch := omega) only [laws_FnExactAgreeingCopies.j1, d, n2, n3, e0, e1, e2, e3, e4, e5, e6, e7, e8, if_false, if_true, Option.bind_some, bnot_ne, Bool.false_eq_true]
  simp (disch := omega) only [laws_FnExactAgreeingCopies.j2, d, n2, n3, e0, e1, e2, e3, e4, e5, e6, e7, e8, if_false, if_true, Option.bind_some, bnot_ne, Bool.false_eq_true]

end Go.Proofs.Ytlcobkldkcdhbaa.LAgreeingCopies
