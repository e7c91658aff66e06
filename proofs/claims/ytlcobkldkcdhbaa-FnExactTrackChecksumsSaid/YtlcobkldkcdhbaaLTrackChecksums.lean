/- For every input the law FnExactTrackChecksums answers true, after some number of rounds; the condition is the input's own bound. -/
import Derived.Test.YtlcobkldkcdhbaaQFnExactTrackChecksumsx7
import Derived.Test.YtlcobkldkcdhbaaBase
namespace Go.Proofs.Ytlcobkldkcdhbaa.LTrackChecksums
open Go Go.RowKit Go.Proofs.Ytlcobkldkcdhbaa.QFnExactTrackChecksums Go.Proofs.YtlcobkldkcdhbaaW.PrintWords Go.Proofs.YtlcobkldkcdhbaaW.PrintLast Go.Proofs.YtlcobkldkcdhbaaW.PrintMore Go.Proofs.Ytlcobkldkcdhbaa.Base
set_option linter.unusedVariables false
set_option linter.unusedSimpArgs false

/-! slices of ints: copied, held against each other, marked -/
theorem eqIntS_l0 (suf : List Int) : ∀ pre : List Int, (pre ++ suf).length ≤ 9223372036854775806 → Ev (fun k => laws_eqIntS.l0 k (pre ++ suf) (pre ++ suf) (pre.length : Int)) true := by
  induction suf with
  | nil =>
    intro pre _
    refine ev_step ev_const (fun k => ?_)
    rw [laws_eqIntS.l0, if_neg (by simp)]
  | cons x suf ih =>
    intro pre hl
    have h := ih (pre ++ [x]) (by simp at hl ⊢; omega)
    rw [snoc_app, snoc_leni] at h
    have hl' : (pre.length : Int) < ((pre ++ x :: suf).length : Int) := by simp; omega
    refine ev_step h (fun k => ?_)
    rw [laws_eqIntS.l0, if_pos hl', if_pos (by omega), if_pos hl', if_pos rfl, wrapS (by omega) (by simp at hl; omega)]

theorem eqIntS_same (l : List Int) (h : l.length ≤ 9223372036854775806) : Ev (fun k => laws_eqIntS.f k l l) true := by
  have := eqIntS_l0 l [] (by simpa using h)
  refine Ev.congr (fun k => ?_) this
  simp [laws_eqIntS.f]

/-- a, a + 1, .. -/
def countUp : Int → Nat → List Int
  | _, 0 => []
  | a, n + 1 => a :: countUp (a + 1) n
theorem countUp_length (n : Nat) : ∀ a, (countUp a n).length = n := by
  induction n with
  | zero => intro a; rfl
  | succ n ih => intro a; simp [countUp, ih]

theorem markIntS_l0 (suf : List Int) : ∀ (pre : List Int) (a : Int), (pre ++ suf).length ≤ 1048576000 → 0 ≤ a → a + suf.length ≤ 4000000000000 → Ev (fun k => laws_markIntS.l0 k (pre ++ suf) a (pre.length : Int)) (a + suf.length, pre ++ countUp a suf.length) := by
  induction suf with
  | nil =>
    intro pre a _ _ _
    refine ev_step ev_const (fun k => ?_)
    rw [laws_markIntS.l0, if_neg (by simp)]
    simp [countUp]
  | cons x suf ih =>
    intro pre a hl h0 h1
    simp only [List.length_cons] at h1
    have h := ih (pre ++ [a]) (a + 1) (by simp at hl ⊢; omega) (by omega) (by omega)
    rw [snoc_app, snoc_app, snoc_leni] at h
    have hl' : (pre.length : Int) < ((pre ++ x :: suf).length : Int) := by simp; omega
    refine ev_step (ev_eq h ?_) (fun k => ?_)
    · simp only [List.length_cons, countUp, Prod.mk.injEq, and_true]; omega
    · rw [laws_markIntS.l0, if_pos hl', if_pos (by omega), wrapS (x := (pre.length : Int) + 1) (by omega) (by simp at hl; omega), wrapS (x := a + 1) (by omega) (by omega), set_mid _ _ _ _ _ (by simp)]

theorem markIntS_marks (l : List Int) (a : Int) (hl : l.length ≤ 1048576000) (h0 : 0 ≤ a) (h1 : a ≤ 1000000000000) : Ev (fun k => laws_markIntS.f k l a) (a + l.length, countUp a l.length) := by
  have := markIntS_l0 l [] a (by simpa using hl) h0 (by omega)
  refine Ev.congr (f := fun k => laws_markIntS.l0 k l a 0) (fun k => rfl) (by simpa using this)

theorem heldIntS_l0 (n : Nat) : ∀ (pre : List Int) (a : Int), pre.length + n ≤ 1048576000 → 0 ≤ a → a + n ≤ 4000000000000 → Ev (fun k => laws_heldIntS.l0 k (pre ++ countUp a n) a (pre.length : Int)) (a + n) := by
  induction n with
  | zero =>
    intro pre a _ _ _
    refine ev_step ev_const (fun k => ?_)
    rw [laws_heldIntS.l0, if_neg (by simp [countUp])]
    simp
  | succ n ih =>
    intro pre a hl h0 h1
    have h := ih (pre ++ [a]) (a + 1) (by simp; omega) (by omega) (by omega)
    rw [snoc_app, snoc_leni] at h
    refine ev_step (ev_eq h (by omega)) (fun k => ?_)
    rw [laws_heldIntS.l0, countUp, if_pos (by simp; omega), if_pos (by omega), rd_mid, if_pos rfl, wrapS (x := (pre.length : Int) + 1) (by omega) (by omega), wrapS (x := a + 1) (by omega) (by omega)]

theorem heldIntS_marked (n : Nat) (a : Int) (hl : n ≤ 1048576000) (h0 : 0 ≤ a) (h1 : a ≤ 1000000000000) : Ev (fun k => laws_heldIntS.f k (countUp a n) a) (a + n) := by
  have := heldIntS_l0 n [] a (by simpa using hl) h0 (by omega)
  refine Ev.congr (f := fun k => laws_heldIntS.l0 k (countUp a n) a 0) (fun k => rfl) (by simpa using this)

/-! one hole: whether it is valid, its number -/
/-- A valid hole. -/
def holeOk (t a b : Int) : Bool := decide (0 ≤ t ∧ t ≤ 19 ∧ 0 ≤ a ∧ a ≤ 1999 ∧ a < b ∧ b ≤ 2000)

theorem shHole_ok (t a b : Int) : spec_shHole.f t a b = some (holeOk t a b) := by
  unfold spec_shHole.f spec_l1In.f holeOk
  by_cases h1 : 0 ≤ t
  · by_cases h2 : t ≤ 19
    · by_cases h3 : 0 ≤ a
      · by_cases h4 : a ≤ 1999
        · have hw : wrap64 (a + 1) = a + 1 := wrapS (by omega) (by omega)
          by_cases h5 : a + 1 ≤ b
          · simp [h1, h2, h3, h4, hw, h5, show a < b by omega]
          · simp [h1, h2, h3, h4, hw, h5, show ¬ a < b by omega]
        · simp [h1, h2, h3, h4]
      · simp [h1, h2, h3]
    · simp [h1, h2]
  · simp [h1]

theorem isHole_ok (t a b : Int) : impl_IsHole.f t a b = some (holeOk t a b) := by
  unfold impl_IsHole.f impl_isTrack.f holeOk
  by_cases h1 : 0 ≤ t
  · by_cases h2 : t < 20
    · by_cases h3 : 0 ≤ a
      · by_cases h4 : a < b
        · by_cases h5 : b ≤ 2000
          · simp [h1, h2, h3, h4, h5, show t ≤ 19 by omega, show a ≤ 1999 by omega]
          · simp [h1, h2, h3, h4, h5]
        · simp [h1, h2, h3, h4]
      · simp [h1, h2, h3]
    · simp [h1, h2, show ¬ t ≤ 19 by omega]
  · simp [h1]

theorem holeOk_bounds {t a b : Int} (h : holeOk t a b = true) : 0 ≤ t ∧ t ≤ 19 ∧ 0 ≤ a ∧ a ≤ 1999 ∧ a < b ∧ b ≤ 2000 := by
  simpa [holeOk] using h

/-! slices of holes: copied, held against each other; valid sheets -/
def toH (x : S23) : S26 := ⟨x.f0, x.f1, x.f2⟩
theorem rdL_mid (pre suf : List S23) (x : S23) : rd_T23 (pre ++ x :: suf) (pre.length : Int) = x := getD_mid _ _ _ _ _ (by simp)
theorem rdH_mid (pre suf : List S26) (x : S26) : rd_T26 (pre ++ x :: suf) (pre.length : Int) = x := getD_mid _ _ _ _ _ (by simp)

theorem toHoleS_l0 (suf : List S23) : ∀ pre : List S23, (pre ++ suf).length ≤ 9223372036854775806 →
    Ev (fun k => laws_toHoleS.l0 k (pre ++ suf) (pre.map toH ++ List.replicate suf.length z26) (pre.length : Int)) ((pre ++ suf).map toH) := by
  induction suf with
  | nil =>
    intro pre _
    refine ev_step ev_const (fun k => ?_)
    rw [laws_toHoleS.l0, if_neg (by simp)]
    simp
  | cons x suf ih =>
    intro pre hl
    have h := ih (pre ++ [x]) (by simp at hl ⊢; omega)
    rw [snoc_app, snoc_leni, List.map_append, List.map_cons, List.map_nil, snoc_app] at h
    have hl' : (pre.length : Int) < ((pre ++ x :: suf).length : Int) := by simp; omega
    refine ev_step h (fun k => ?_)
    rw [laws_toHoleS.l0, if_pos hl', if_pos (by omega), rdL_mid]
    simp only [laws_toHole.f, Option.bind_some]
    rw [if_pos (by simp; omega), wrapS (by omega) (by simp at hl; omega), List.length_cons, List.replicate_succ, set_mid _ _ _ _ _ (by simp)]
    rfl

theorem toHoleS_copy (l : List S23) (h : l.length ≤ 1048576) : Ev (fun k => laws_toHoleS.f k l) (l.map toH) := by
  have := toHoleS_l0 l [] (by simp; omega)
  refine Ev.congr (fun k => ?_) this
  rw [laws_toHoleS.f, if_pos (by omega), if_pos (by omega)]
  simp

theorem eqHoleS_l0 (suf : List S26) : ∀ pre : List S26, (pre ++ suf).length ≤ 9223372036854775806 → Ev (fun k => laws_eqHoleS.l0 k (pre ++ suf) (pre ++ suf) (pre.length : Int)) true := by
  induction suf with
  | nil =>
    intro pre _
    refine ev_step ev_const (fun k => ?_)
    rw [laws_eqHoleS.l0, if_neg (by simp)]
  | cons x suf ih =>
    intro pre hl
    have h := ih (pre ++ [x]) (by simp at hl ⊢; omega)
    rw [snoc_app, snoc_leni] at h
    have hl' : (pre.length : Int) < ((pre ++ x :: suf).length : Int) := by simp; omega
    refine ev_step h (fun k => ?_)
    rw [laws_eqHoleS.l0, if_pos hl', if_pos (by omega), if_pos hl']
    simp only [laws_eqHole.f, if_true, Option.bind_some]
    rw [wrapS (by omega) (by simp at hl; omega)]

theorem eqHoleS_same (l : List S26) (h : l.length ≤ 9223372036854775806) : Ev (fun k => laws_eqHoleS.f k l l) true := by
  have := eqHoleS_l0 l [] (by simpa using h)
  refine Ev.congr (fun k => ?_) this
  simp [laws_eqHoleS.f]

theorem szHoleS_in (l : List S23) (n : Int) (hn : n ≤ 9223372036854775807) (h : (l.length : Int) ≤ n) : laws_szHoleS.f l n = some (n - l.length) := by
  have hw : wrap64 (n - l.length) = n - l.length := wrapS (by omega) (by omega)
  rw [laws_szHoleS.f, hw, if_neg (by omega)]
theorem szHoleS_out (l : List S23) (n : Int) (hn : 0 ≤ n) (hl : l.length ≤ 9223372036854775807) (h : n < (l.length : Int)) : laws_szHoleS.f l n = some (-1) := by
  have hw : wrap64 (n - l.length) = n - l.length := wrapS (by omega) (by omega)
  rw [laws_szHoleS.f, hw, if_pos (by omega)]

/-- The hole x meets the earlier hole y. -/
def meets (x y : S26) : Bool := decide (x.f0 = y.f0 ∧ x.f1 ≤ y.f2)
def before (a b : S26) : Bool := decide (a.f1 < b.f1 ∨ (a.f1 = b.f1 ∧ a.f0 < b.f0))
def lastBefore (pre : List S26) (x : S26) : Bool := match pre.getLast? with | none => true | some p => before p x
def goodAt (pre : List S26) (x : S26) : Bool := holeOk x.f0 x.f1 x.f2 && (lastBefore pre x && !(pre.any (meets x)))
def goodFrom : List S26 → List S26 → Bool
  | _, [] => true
  | pre, x :: suf => goodAt pre x && goodFrom (pre ++ [x]) suf
/-- A valid sheet. -/
def good (l : List S26) : Bool := goodFrom [] l && decide (l.length ≤ 60)

theorem shBefore_ok (a b : S26) : spec_shBefore.f a.f0 a.f1 a.f2 b.f0 b.f1 b.f2 = some (before a b) := by
  unfold spec_shBefore.f before
  by_cases h : a.f1 < b.f1
  · simp [h]
  · by_cases h1 : a.f1 = b.f1
    · simp [h1]
    · simp [h, h1]
theorem holeLess_ok (a b : S26) : impl_holeLess.f a.f0 a.f1 a.f2 b.f0 b.f1 b.f2 = some (before a b) := by
  unfold impl_holeLess.f before
  by_cases h1 : a.f1 = b.f1
  · simp [h1]
  · simp [h1]

theorem shGood_l1 (x : S26) (l : List S26) (n i : Int) (r : Bool) (suf : List S26) : ∀ pre : List S26, (pre ++ suf).length ≤ 9223372036854775806 →
    (suf.any (meets x) = true → r = false) → (suf.any (meets x) = false → Ev (fun k => spec_shGood.l0 k l l n (wrap64 (i + 1))) r) →
    Ev (fun k => spec_shGood.l1 k l l n i (pre ++ suf) ((pre ++ suf).length : Int) (pre.length : Int) x.f0 x.f1 x.f2) r := by
  induction suf with
  | nil =>
    intro pre _ _ h
    refine ev_step (h rfl) (fun k => ?_)
    rw [spec_shGood.l1, if_neg (by simp)]
  | cons y suf ih =>
    intro pre hl h1 h2
    have hl' : (pre.length : Int) < ((pre ++ y :: suf).length : Int) := by simp; omega
    have hw : wrap64 ((pre.length : Int) + 1) = (pre.length : Int) + 1 := wrapS (by omega) (by simp at hl; omega)
    by_cases hm : meets x y = true
    · have e : r = false := h1 (by simp [hm])
      subst e
      simp only [meets, decide_eq_true_eq] at hm
      refine ev_step ev_const (fun k => ?_)
      rw [spec_shGood.l1, if_pos hl', if_pos (by omega), if_pos hl', rdH_mid, if_pos hm.1, if_pos hm.2]
    · replace hm : meets x y = false := by simpa using hm
      have h := ih (pre ++ [y]) (by simp at hl ⊢; omega) (fun e => h1 (by simp [e])) (fun e => h2 (by simp [hm, e]))
      rw [snoc_app, snoc_leni] at h
      simp only [meets, decide_eq_false_iff_not] at hm
      refine ev_step h (fun k => ?_)
      rw [spec_shGood.l1, if_pos hl', if_pos (by omega), if_pos hl', rdH_mid, hw]
      by_cases e : x.f0 = y.f0
      · rw [if_pos e, if_neg (fun e2 => hm ⟨e, e2⟩)]
      · rw [if_neg e]

theorem shGood_j1 (x : S26) (pre suf : List S26) (n : Int) (b r : Bool) (hl : (pre ++ suf).length ≤ 9223372036854775806) (hb : b = true → r = false) (h1 : b = false → pre.any (meets x) = true → r = false)
    (h2 : b = false → pre.any (meets x) = false → Ev (fun k => spec_shGood.l0 k (pre ++ suf) (pre ++ suf) n (wrap64 ((pre.length : Int) + 1))) r) :
    Ev (fun k => spec_shGood.j1 k (pre ++ suf) (pre.length : Int) (pre ++ suf) n (pre.length : Int) b x.f0 x.f1 x.f2) r := by
  cases b with
  | true =>
    obtain rfl := hb rfl
    refine ev_step ev_const (fun k => ?_)
    rw [spec_shGood.j1, if_pos rfl]
  | false =>
    have h := shGood_l1 x (pre ++ suf) n (pre.length : Int) r pre [] (by simp at hl ⊢; omega) (h1 rfl) (h2 rfl)
    refine ev_step h (fun k => ?_)
    rw [spec_shGood.j1, if_neg (by decide), if_pos (by omega), if_pos (by simp; omega)]
    simp

theorem shGood_l0 (suf : List S26) : ∀ pre : List S26, (pre ++ suf).length ≤ 9223372036854775806 →
    Ev (fun k => spec_shGood.l0 k (pre ++ suf) (pre ++ suf) ((pre ++ suf).length : Int) (pre.length : Int)) (goodFrom pre suf && decide ((pre ++ suf).length ≤ 60)) := by
  induction suf with
  | nil =>
    intro pre _
    refine ev_step (Ev.now _) (fun k => ?_)
    rw [spec_shGood.l0, if_neg (by simp)]
    simp [goodFrom]
    omega
  | cons x suf ih =>
    intro pre hl
    have h := ih (pre ++ [x]) (by simp at hl ⊢; omega)
    rw [snoc_app, snoc_leni] at h
    have hl' : (pre.length : Int) < ((pre ++ x :: suf).length : Int) := by simp; omega
    have hw : wrap64 ((pre.length : Int) + 1) = (pre.length : Int) + 1 := wrapS (by omega) (by simp at hl; omega)
    have J : ∀ b, (b = !(holeOk x.f0 x.f1 x.f2 && lastBefore pre x)) → Ev (fun k => spec_shGood.j1 k (pre ++ x :: suf) (pre.length : Int) (pre ++ x :: suf) ((pre ++ x :: suf).length : Int) (pre.length : Int) b x.f0 x.f1 x.f2) (goodFrom pre (x :: suf) && decide ((pre ++ x :: suf).length ≤ 60)) := by
      intro b hb
      refine shGood_j1 x pre (x :: suf) _ b _ hl (fun e => ?_) (fun e e2 => ?_) (fun e e2 => ?_)
      · simp only [goodFrom, goodAt]
        cases h1 : holeOk x.f0 x.f1 x.f2 <;> cases h2 : lastBefore pre x <;> simp_all
      · simp [goodFrom, goodAt, e2]
      · rw [hw]
        have e3 : goodFrom pre (x :: suf) = goodFrom (pre ++ [x]) suf := by
          simp only [goodFrom, goodAt, e2]
          cases h1 : holeOk x.f0 x.f1 x.f2 <;> cases h2 : lastBefore pre x <;> simp_all
        rw [e3]
        exact h
    cases ho : holeOk x.f0 x.f1 x.f2 with
    | false =>
      refine ev_step (J true (by simp [ho])) (fun k => ?_)
      rw [spec_shGood.l0, if_pos hl', if_pos (by omega), if_pos hl', rdH_mid, shHole_ok, ho]
      simp
    | true =>
      rcases List.eq_nil_or_concat pre with rfl | ⟨pre', p, rfl⟩
      · refine ev_step (J false (by simp [ho, lastBefore])) (fun k => ?_)
        rw [spec_shGood.l0, if_pos hl', if_pos (by omega), if_pos hl', rdH_mid, shHole_ok, ho]
        simp
      · refine ev_step (J (!(before p x)) (by simp [ho, lastBefore])) (fun k => ?_)
        have e1 : ((pre' ++ [p]).length : Int) = (pre'.length : Int) + 1 := by simp
        have hw2 : wrap64 (((pre' ++ [p]).length : Int) - 1) = (pre'.length : Int) := by
          rw [e1, wrapS (by omega) (by simp at hl; omega)]; omega
        have e2 : rd_T26 (pre' ++ [p] ++ x :: suf) (pre'.length : Int) = p := by
          rw [snoc_app]; exact rdH_mid _ _ _
        rw [spec_shGood.l0, if_pos hl', if_pos (by omega), if_pos hl', rdH_mid, shHole_ok, ho]
        simp only [List.concat_eq_append] at *
        simp only [Option.bind_some, if_true]
        rw [if_pos (by omega), hw2, if_pos (by omega), if_pos (by simp; omega), e2, shBefore_ok]
        simp only [Option.bind_some]

theorem shGood_ok (l : List S26) (h : l.length ≤ 9223372036854775806) : Ev (fun k => spec_shGood.f k l) (good l) :=
  Ev.congr (fun _ => rfl) (shGood_l0 l [] (by simpa using h))

theorem isSheet_l1 (x : S26) (l : List S26) (n i : Int) (r : Bool) (suf : List S26) : ∀ pre : List S26, (pre ++ suf).length ≤ 9223372036854775806 →
    (suf.any (meets x) = true → r = false) → (suf.any (meets x) = false → Ev (fun k => impl_IsSheet.l0 k l l n (wrap64 (i + 1))) r) →
    Ev (fun k => impl_IsSheet.l1 k l l n i (pre ++ suf) ((pre ++ suf).length : Int) (pre.length : Int) x.f0 x.f1 x.f2) r := by
  induction suf with
  | nil =>
    intro pre _ _ h
    refine ev_step (h rfl) (fun k => ?_)
    rw [impl_IsSheet.l1, if_neg (by simp)]
  | cons y suf ih =>
    intro pre hl h1 h2
    have hl' : (pre.length : Int) < ((pre ++ y :: suf).length : Int) := by simp; omega
    have hw : wrap64 ((pre.length : Int) + 1) = (pre.length : Int) + 1 := wrapS (by omega) (by simp at hl; omega)
    by_cases hm : meets x y = true
    · have e : r = false := h1 (by simp [hm])
      subst e
      simp only [meets, decide_eq_true_eq] at hm
      refine ev_step ev_const (fun k => ?_)
      rw [impl_IsSheet.l1, if_pos hl', if_pos (by omega), if_pos hl', rdH_mid, if_pos hm.1.symm, if_pos hm.2]
    · replace hm : meets x y = false := by simpa using hm
      have h := ih (pre ++ [y]) (by simp at hl ⊢; omega) (fun e => h1 (by simp [e])) (fun e => h2 (by simp [hm, e]))
      rw [snoc_app, snoc_leni] at h
      simp only [meets, decide_eq_false_iff_not] at hm
      refine ev_step h (fun k => ?_)
      rw [impl_IsSheet.l1, if_pos hl', if_pos (by omega), if_pos hl', rdH_mid, hw]
      by_cases e : x.f0 = y.f0
      · rw [if_pos e.symm, if_neg (fun e2 => hm ⟨e, e2⟩)]
      · rw [if_neg (fun e2 => e e2.symm)]

theorem isSheet_j1 (x : S26) (pre suf : List S26) (n : Int) (b r : Bool) (hl : (pre ++ suf).length ≤ 9223372036854775806) (hb : b = true → r = false) (h1 : b = false → pre.any (meets x) = true → r = false)
    (h2 : b = false → pre.any (meets x) = false → Ev (fun k => impl_IsSheet.l0 k (pre ++ suf) (pre ++ suf) n (wrap64 ((pre.length : Int) + 1))) r) :
    Ev (fun k => impl_IsSheet.j1 k (pre ++ suf) (pre.length : Int) (pre ++ suf) n (pre.length : Int) b x.f0 x.f1 x.f2) r := by
  cases b with
  | true =>
    obtain rfl := hb rfl
    refine ev_step ev_const (fun k => ?_)
    rw [impl_IsSheet.j1, if_pos rfl]
  | false =>
    have h := isSheet_l1 x (pre ++ suf) n (pre.length : Int) r pre [] (by simp at hl ⊢; omega) (h1 rfl) (h2 rfl)
    refine ev_step h (fun k => ?_)
    rw [impl_IsSheet.j1, if_neg (by decide), if_pos (by omega), if_pos (by simp; omega)]
    simp

theorem isSheet_l0 (suf : List S26) : ∀ pre : List S26, (pre ++ suf).length ≤ 9223372036854775806 →
    Ev (fun k => impl_IsSheet.l0 k (pre ++ suf) (pre ++ suf) ((pre ++ suf).length : Int) (pre.length : Int)) (goodFrom pre suf) := by
  induction suf with
  | nil =>
    intro pre _
    refine ev_step (Ev.now _) (fun k => ?_)
    rw [impl_IsSheet.l0, if_neg (by simp)]
    simp [goodFrom]
  | cons x suf ih =>
    intro pre hl
    have h := ih (pre ++ [x]) (by simp at hl ⊢; omega)
    rw [snoc_app, snoc_leni] at h
    have hl' : (pre.length : Int) < ((pre ++ x :: suf).length : Int) := by simp; omega
    have hw : wrap64 ((pre.length : Int) + 1) = (pre.length : Int) + 1 := wrapS (by omega) (by simp at hl; omega)
    have J : ∀ b, (b = !(holeOk x.f0 x.f1 x.f2 && lastBefore pre x)) → Ev (fun k => impl_IsSheet.j1 k (pre ++ x :: suf) (pre.length : Int) (pre ++ x :: suf) ((pre ++ x :: suf).length : Int) (pre.length : Int) b x.f0 x.f1 x.f2) (goodFrom pre (x :: suf)) := by
      intro b hb
      refine isSheet_j1 x pre (x :: suf) _ b _ hl (fun e => ?_) (fun e e2 => ?_) (fun e e2 => ?_)
      · simp only [goodFrom, goodAt]
        cases h1 : holeOk x.f0 x.f1 x.f2 <;> cases h2 : lastBefore pre x <;> simp_all
      · simp [goodFrom, goodAt, e2]
      · rw [hw]
        have e3 : goodFrom pre (x :: suf) = goodFrom (pre ++ [x]) suf := by
          simp only [goodFrom, goodAt, e2]
          cases h1 : holeOk x.f0 x.f1 x.f2 <;> cases h2 : lastBefore pre x <;> simp_all
        rw [e3]
        exact h
    cases ho : holeOk x.f0 x.f1 x.f2 with
    | false =>
      refine ev_step (J true (by simp [ho])) (fun k => ?_)
      rw [impl_IsSheet.l0, if_pos hl', if_pos (by omega), if_pos hl', rdH_mid, isHole_ok, ho]
      simp
    | true =>
      rcases List.eq_nil_or_concat pre with rfl | ⟨pre', p, rfl⟩
      · refine ev_step (J false (by simp [ho, lastBefore])) (fun k => ?_)
        rw [impl_IsSheet.l0, if_pos hl', if_pos (by omega), if_pos hl', rdH_mid, isHole_ok, ho]
        simp
      · refine ev_step (J (!(before p x)) (by simp [ho, lastBefore])) (fun k => ?_)
        have e1 : ((pre' ++ [p]).length : Int) = (pre'.length : Int) + 1 := by simp
        have hw2 : wrap64 (((pre' ++ [p]).length : Int) - 1) = (pre'.length : Int) := by
          rw [e1, wrapS (by omega) (by simp at hl; omega)]; omega
        have e2 : rd_T26 (pre' ++ [p] ++ x :: suf) (pre'.length : Int) = p := by
          rw [snoc_app]; exact rdH_mid _ _ _
        rw [impl_IsSheet.l0, if_pos hl', if_pos (by omega), if_pos hl', rdH_mid, isHole_ok, ho]
        simp only [List.concat_eq_append] at *
        simp only [Option.bind_some, if_true]
        rw [if_pos (by omega), hw2, if_pos (by omega), if_pos (by simp; omega), e2, holeLess_ok]
        simp only [Option.bind_some]

theorem isSheet_ok (l : List S26) (h : l.length ≤ 9223372036854775806) : Ev (fun k => impl_IsSheet.f k l) (good l) := by
  by_cases h6 : (l.length : Int) > 60
  · refine Ev.congr (f := fun _ => some (good l)) (fun k => ?_) ev_const
    rw [impl_IsSheet.f, if_pos h6]
    have : ¬ l.length ≤ 60 := by omega
    simp [good, this]
  · refine Ev.congr (fun k => ?_) (ev_eq (isSheet_l0 l [] (by simpa using h)) ?_)
    · rw [impl_IsSheet.f, if_neg h6]
      rfl
    · have : l.length ≤ 60 := by omega
      simp [good, this]

/-! checksums -/
def ck (s t a b : Int) : Int := Int.tmod (wrap64 (wrap64 (31 * s) + wrap64 (wrap64 (wrap64 (4004001 * t) + wrap64 (2001 * a)) + b))) 1000003
theorem ckExtend_ok (s t a b : Int) : spec_ckExtend.f s t a b = some (ck s t a b) := rfl
theorem extend_ok (s t a b : Int) : impl_extendChecksum.f s t a b = some (ck s t a b) := by
  simp only [impl_extendChecksum.f, impl_holeNumber.f, Option.bind_some, Int.mul_comm t, Int.mul_comm a]
  rfl
def sumOf : Int → List S26 → Int
  | s, [] => s
  | s, x :: l => sumOf (ck s x.f0 x.f1 x.f2) l

theorem ckSum_l0 (suf : List S26) : ∀ (pre : List S26) (s : Int), (pre ++ suf).length ≤ 9223372036854775806 →
    Ev (fun k => spec_ckSum.l0 k s (pre ++ suf) ((pre ++ suf).length : Int) (pre.length : Int)) (sumOf s suf) := by
  induction suf with
  | nil =>
    intro pre s _
    refine ev_step (Ev.now _) (fun k => ?_)
    rw [spec_ckSum.l0, if_neg (by simp)]
    rfl
  | cons x suf ih =>
    intro pre s hl
    have h := ih (pre ++ [x]) (ck s x.f0 x.f1 x.f2) (by simp at hl ⊢; omega)
    rw [snoc_app, snoc_leni] at h
    have hl' : (pre.length : Int) < ((pre ++ x :: suf).length : Int) := by simp; omega
    have hw : wrap64 ((pre.length : Int) + 1) = (pre.length : Int) + 1 := wrapS (by omega) (by simp at hl; omega)
    refine ev_step h (fun k => ?_)
    rw [spec_ckSum.l0, if_pos hl', if_pos (by omega), if_pos hl', rdH_mid, ckExtend_ok, hw]
    simp only [Option.bind_some]

theorem ckSum_ok (l : List S26) (h : l.length ≤ 9223372036854775806) : Ev (fun k => spec_ckSum.f k l) (sumOf 1 l) :=
  Ev.congr (fun _ => rfl) (ckSum_l0 l [] 1 (by simpa using h))

theorem checksumOf_l0 (suf : List S26) : ∀ (pre : List S26) (s : Int), (pre ++ suf).length ≤ 9223372036854775806 →
    Ev (fun k => impl_checksumOf.l0 k s (pre ++ suf) ((pre ++ suf).length : Int) (pre.length : Int)) (sumOf s suf) := by
  induction suf with
  | nil =>
    intro pre s _
    refine ev_step (Ev.now _) (fun k => ?_)
    rw [impl_checksumOf.l0, if_neg (by simp)]
    rfl
  | cons x suf ih =>
    intro pre s hl
    have h := ih (pre ++ [x]) (ck s x.f0 x.f1 x.f2) (by simp at hl ⊢; omega)
    rw [snoc_app, snoc_leni] at h
    have hl' : (pre.length : Int) < ((pre ++ x :: suf).length : Int) := by simp; omega
    have hw : wrap64 ((pre.length : Int) + 1) = (pre.length : Int) + 1 := wrapS (by omega) (by simp at hl; omega)
    refine ev_step h (fun k => ?_)
    rw [impl_checksumOf.l0, if_pos hl', if_pos (by omega), if_pos hl', rdH_mid, extend_ok, hw]
    simp only [Option.bind_some]

theorem checksumOf_ok (l : List S26) (h : l.length ≤ 9223372036854775806) : Ev (fun k => impl_checksumOf.f k l) (sumOf 1 l) :=
  Ev.congr (fun _ => rfl) (checksumOf_l0 l [] 1 (by simpa using h))

/-! marks of holes -/
def mholes : Nat → Int → List S26
  | 0, _ => []
  | d + 1, a => (⟨a, a + 1, a + 1 + 1⟩ : S26) :: mholes d (a + 1 + 1 + 1)
theorem mholes_len (d : Nat) : ∀ a, (mholes d a).length = d := by
  induction d with
  | zero => intro a; rfl
  | succ d ih => intro a; simp [mholes, ih]
theorem markHoleS_l0 (suf : List S26) : ∀ (pre : List S26) (a : Int), (pre ++ suf).length ≤ 9000000 → 0 ≤ a → a ≤ 1000000000 + 3 * pre.length →
    Ev (fun k => laws_markHoleS.l0 k (pre ++ suf) a (pre.length : Int)) (a + 3 * suf.length, pre ++ mholes suf.length a) := by
  induction suf with
  | nil =>
    intro pre a _ _ _
    refine ev_step (f := fun _ => some _) (Ev.now _) (fun k => ?_)
    rw [laws_markHoleS.l0, if_neg (by simp)]; simp [mholes]
  | cons x suf ih =>
    intro pre a hl h0 h1
    have hlp : pre.length ≤ 9000000 := by simp at hl; omega
    have w1 : wrap64 (a + 1) = a + 1 := wrapS (by omega) (by omega)
    have w2 : wrap64 (a + 1 + 1) = a + 1 + 1 := wrapS (by omega) (by omega)
    have w3 : wrap64 (a + 1 + 1 + 1) = a + 1 + 1 + 1 := wrapS (by omega) (by omega)
    have w5 : wrap64 ((pre.length : Int) + 1) = (pre.length : Int) + 1 := wrapS (by omega) (by omega)
    have sR : ∀ y z : S26, (pre ++ y :: suf).set ((pre.length : Int)).toNat z = pre ++ z :: suf := fun y z => set_mid _ _ _ _ _ (by simp)
    have hl' : (pre.length : Int) < ((pre ++ x :: suf).length : Int) := by simp; omega
    have h := ih (pre ++ [(⟨a, a + 1, a + 1 + 1⟩ : S26)]) (a + 1 + 1 + 1) (by simp at hl ⊢; omega) (by omega) (by simp; omega)
    rw [snoc_app, snoc_app, snoc_leni] at h
    refine ev_step (ev_eq h ?_) (fun k => ?_)
    · simp only [mholes, List.length_cons]
      congr 1
      omega
    · rw [laws_markHoleS.l0, if_pos hl', if_pos (by omega)]
      simp only [rdH_mid, sR, w1, w2, w3, w5, Option.bind_some]
theorem markHoleS_all (l : List S26) (a : Int) (hl : l.length ≤ 9000000) (h0 : 0 ≤ a) (h1 : a ≤ 1000000000) : Ev (fun k => laws_markHoleS.f k l a) (a + 3 * l.length, mholes l.length a) :=
  Ev.congr (f := fun k => laws_markHoleS.l0 k l a 0) (fun _ => rfl) (by simpa using markHoleS_l0 l [] a (by simpa using hl) h0 (by simpa using h1))

/-! the checksum of each track's holes -/
def ownOf (t : Int) (l : List S26) : List S26 := l.filter fun x => !impl_TrackChecksums.out t x
theorem ownOf_nil (t : Int) : ownOf t [] = [] := rfl
theorem ownOf_cons (t : Int) (x : S26) (l : List S26) : ownOf t (x :: l) = (if x.f0 = t then [x] else []) ++ ownOf t l := by
  unfold ownOf
  by_cases c : x.f0 = t
  · rw [List.filter_cons_of_pos (by simp [impl_TrackChecksums.out, c]), if_pos c]; rfl
  · rw [List.filter_cons_of_neg (by simp [impl_TrackChecksums.out, c]), if_neg c]; rfl
theorem ownOf_len (t : Int) (l : List S26) : (ownOf t l).length ≤ l.length := List.length_filter_le _ _
def trackSums (l : List S26) : Nat → Int → List Int
  | 0, _ => []
  | d + 1, t => sumOf 1 (ownOf t l) :: trackSums l d (t + 1)
theorem trackSums_len (l : List S26) (d : Nat) : ∀ t, (trackSums l d t).length = d := by
  induction d with
  | zero => intro t; rfl
  | succ d ih => intro t; simp [trackSums, ih]
theorem specTracks_l1 (l : List S26) (out : List Int) (ho : out.length ≤ 1000) (t : Int) (h0 : 0 ≤ t) (h1 : t < 20) (R : List Int × Bool) (suf : List S26) : ∀ (pre own : List S26), (pre ++ suf).length ≤ 1048576 → own.length ≤ pre.length →
    Ev (fun k => spec_TrackChecksums.l0 k l (out ++ [sumOf 1 (own ++ ownOf t suf)]) (t + 1)) R →
    Ev (fun k => spec_TrackChecksums.l1 k l out t own (pre ++ suf) ((pre ++ suf).length : Int) (pre.length : Int)) R := by
  induction suf with
  | nil =>
    intro pre own hl hw h
    simp only [List.append_nil] at hl
    rw [ownOf_nil, List.append_nil] at h
    obtain ⟨K1, e1⟩ := ckSum_ok own (by omega)
    obtain ⟨K2, e2⟩ := h
    dsimp only at e1 e2
    have w : wrap64 (t + 1) = t + 1 := wrapS (by omega) (by omega)
    refine ⟨K1 + K2 + 1, fun k hk => ?_⟩
    obtain ⟨m, rfl⟩ : ∃ m, k = m + 1 := ⟨k - 1, by omega⟩
    dsimp only
    rw [spec_TrackChecksums.l1, if_neg (by simp), e1 m (by omega)]
    simp only [Option.bind_some]
    rw [if_pos (by omega), w, e2 m (by omega)]
  | cons x suf ih =>
    intro pre own hl hw h
    have hlp : pre.length + 1 ≤ 1048576 := by simp at hl; omega
    have hl' : (pre.length : Int) < ((pre ++ x :: suf).length : Int) := by simp; omega
    have w : wrap64 ((pre.length : Int) + 1) = (pre.length : Int) + 1 := wrapS (by omega) (by omega)
    rw [ownOf_cons] at h
    by_cases c : x.f0 = t
    · rw [if_pos c, ← List.append_assoc] at h
      have h2 := ih (pre ++ [x]) (own ++ [x]) (by simp at hl ⊢; omega) (by simp; omega) h
      rw [snoc_app, snoc_leni] at h2
      refine ev_step h2 (fun k => ?_)
      rw [spec_TrackChecksums.l1, if_pos hl', if_pos (by omega), if_pos hl', rdH_mid, if_pos c, if_pos (by omega), w]
    · rw [if_neg c, List.nil_append] at h
      have h2 := ih (pre ++ [x]) own (by simp at hl ⊢; omega) (by simp; omega) h
      rw [snoc_app, snoc_leni] at h2
      refine ev_step h2 (fun k => ?_)
      rw [spec_TrackChecksums.l1, if_pos hl', if_pos (by omega), if_pos hl', rdH_mid, if_neg c, w]
theorem specTracks_l0 (l : List S26) (hl : l.length ≤ 1048576) (d : Nat) : ∀ (out : List Int) (t : Int), 0 ≤ t → t + d = 20 → out.length ≤ 100 - d →
    Ev (fun k => spec_TrackChecksums.l0 k l out t) (out ++ trackSums l d t, true) := by
  induction d with
  | zero =>
    intro out t h0 h1 ho
    refine ev_step (f := fun _ => some _) (Ev.now _) (fun k => ?_)
    rw [spec_TrackChecksums.l0, if_neg (by omega), trackSums, List.append_nil]
  | succ d ih =>
    intro out t h0 h1 ho
    have h := ih (out ++ [sumOf 1 (ownOf t l)]) (t + 1) (by omega) (by omega) (by simp; omega)
    have h2 := specTracks_l1 l out (by omega) t h0 (by omega) _ l [] [] (by simpa using hl) (by simp) h
    simp only [List.nil_append, List.length_nil, Int.natCast_zero] at h2
    refine ev_step (ev_eq h2 (by rw [trackSums]; simp)) (fun k => ?_)
    rw [spec_TrackChecksums.l0, if_pos (by omega)]
theorem implTracks_l0 (l : List S26) (hl : l.length ≤ 1048576) (d : Nat) : ∀ (out : List Int) (t : Int), 0 ≤ t → t + d = 20 → out.length ≤ 100 - d →
    Ev (fun k => impl_TrackChecksums.l0 k l out t) (out ++ trackSums l d t) := by
  induction d with
  | zero =>
    intro out t h0 h1 ho
    refine ev_step (f := fun _ => some _) (Ev.now _) (fun k => ?_)
    rw [impl_TrackChecksums.l0, if_neg (by omega), trackSums, List.append_nil]
  | succ d ih =>
    intro out t h0 h1 ho
    have h := ih (out ++ [sumOf 1 (ownOf t l)]) (t + 1) (by omega) (by omega) (by simp; omega)
    obtain ⟨K1, e1⟩ := checksumOf_ok (ownOf t l) (by have := ownOf_len t l; omega)
    obtain ⟨K2, e2⟩ := h
    dsimp only at e1 e2
    have w : wrap64 (t + 1) = t + 1 := wrapS (by omega) (by omega)
    have et : out ++ trackSums l (d + 1) t = (out ++ [sumOf 1 (ownOf t l)]) ++ trackSums l d (t + 1) := by rw [trackSums]; simp
    refine ⟨K1 + K2 + 1, fun k hk => ?_⟩
    obtain ⟨m, rfl⟩ : ∃ m, k = m + 1 := ⟨k - 1, by omega⟩
    have q1 := e1 m (by omega)
    unfold ownOf at q1
    dsimp only
    rw [impl_TrackChecksums.l0, if_pos (by omega), q1]
    simp only [Option.bind_some]
    rw [if_pos (by omega), w, et]
    exact e2 m (by omega)
def tracksR (l : List S26) : List Int × Bool := if good l = true then (trackSums l 20 0, true) else ([], false)
theorem tracksR_len (l : List S26) : (tracksR l).1.length ≤ 20 := by
  unfold tracksR
  by_cases c : good l = true
  · rw [if_pos c]; simp [trackSums_len]
  · rw [if_neg c]; simp
theorem specTracks_ok (l : List S26) (hl : l.length ≤ 1048576) : Ev (fun k => spec_TrackChecksums.f k l) (tracksR l) := by
  refine Ev.bind (shGood_ok l (by omega)) ?_
  cases g : good l with
  | false => exact ev_of_eq (fun _ => by simp only [tracksR, g, Bool.false_eq_true, if_false])
  | true =>
    simp only [if_true]
    exact ev_eq (specTracks_l0 l hl 20 [] 0 (by omega) (by omega) (by simp)) (by simp only [tracksR, g, if_true, List.nil_append])
theorem implTracks_ok (l : List S26) (hl : l.length ≤ 1048576) : Ev (fun k => impl_TrackChecksums.f k l) (tracksR l) := by
  refine Ev.bind (isSheet_ok l (by omega)) ?_
  cases g : good l with
  | false => exact ev_of_eq (fun _ => by simp only [tracksR, g, Bool.false_eq_true, if_false])
  | true =>
    have c : l.length < 1000000000 := by omega
    simp only [if_true, c]
    exact Ev.bind (implTracks_l0 l hl 20 [] 0 (by omega) (by omega) (by simp)) (ev_of_eq (fun _ => by simp only [tracksR, g, if_true, List.nil_append]))
theorem FnExactTrackChecksums (l : List S23) (hb : l.length * 24 ≤ 140737488351232) (hw : ∀ y ∈ l, ((Lit.int .i64 y.f0).wf = true) ∧ ((Lit.int .i64 y.f1).wf = true) ∧ ((Lit.int .i64 y.f2).wf = true)) : ∃ k, laws_FnExactTrackChecksums.f k l = some true := by
  have m1 : (-1 : Int) < 0 := by omega
  by_cases c : 1048576 < (l.length : Int)
  · exact ⟨0, by simp only [laws_FnExactTrackChecksums.f, szHoleS_out l 1048576 (by omega) (by omega) c, Option.bind_some, m1, if_true]⟩
  have z0 := szHoleS_in l 1048576 (by omega) (by omega)
  have n0 : ¬ (1048576 - (l.length : Int)) < 0 := by omega
  have hl : l.length ≤ 1048576 := by omega
  have hl2 : (l.map toH).length ≤ 1048576 := by simpa using hl
  have hr := tracksR_len (l.map toH)
  obtain ⟨K1, e1⟩ := toHoleS_copy l hl
  obtain ⟨K3, e3⟩ := specTracks_ok (l.map toH) hl2
  obtain ⟨K4, e4⟩ := implTracks_ok (l.map toH) hl2
  obtain ⟨K5, e5⟩ := eqHoleS_same (l.map toH) (by omega)
  obtain ⟨K7, e7⟩ := eqIntS_same (tracksR (l.map toH)).1 (by omega)
  obtain ⟨K8, e8⟩ := markHoleS_all (l.map toH) 1 (by omega) (by omega) (by omega)
  obtain ⟨K10, e10⟩ := markIntS_marks (tracksR (l.map toH)).1 1 (by omega) (by omega) (by omega)
  obtain ⟨K11, e11⟩ := heldIntS_marked (tracksR (l.map toH)).1.length 1 (by omega) (by omega) (by omega)
  have n2 : ¬ (1 + 3 * ((l.map toH).length : Int)) < 0 := by omega
  have n3 : ¬ (1 + ((tracksR (l.map toH)).1.length : Int)) < 0 := by omega
  dsimp only at e1 e3 e4 e5 e7 e8 e10 e11
  refine ⟨K1 + K3 + K4 + K5 + K7 + K8 + K10 + K11 + 6, ?_⟩
  simp (disch := omega) only [laws_FnExactTrackChecksums.f, z0, n0, n2, n3, e1, e3, e4, e5, e7, e8, e10, e11, if_false, if_true, Option.bind_some, bnot_ne, Bool.false_eq_true]
  simp (disch := omega) only [laws_FnExactTrackChecksums.j0, z0, n0, n2, n3, e1, e3, e4, e5, e7, e8, e10, e11, if_false, if_true, Option.bind_some, bnot_ne, Bool.false_eq_true]
  simp (disch := omega) only [laws_FnExactTrackChecksums.j1, z0, n0, n2, n3, e1, e3, e4, e5, e7, e8, e10, e11, if_false, if_true, Option.bind_some, bnot_ne, Bool.false_eq_true]
  simp (disch := omega) only [laws_FnExactTrackChecksums.j2, z0, n0, n2, n3, e1, e3, e4, e5, e7, e8, e10, e11, if_false, if_true, Option.bind_some, bnot_ne, Bool.false_eq_true]

end Go.Proofs.Ytlcobkldkcdhbaa.LTrackChecksums
