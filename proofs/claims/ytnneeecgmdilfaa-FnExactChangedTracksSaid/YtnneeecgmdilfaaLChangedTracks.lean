/- For every input the law FnExactChangedTracks answers true, after some number of rounds; the conditions are the input's own bounds. -/
import Derived.Test.YtnneeecgmdilfaaQFnExactChangedTracksx14
import Derived.Test.YtnneeecgmdilfaaBase
namespace Go.Proofs.Ytnneeecgmdilfaa.LChangedTracks
open Go Go.RowKit Go.Proofs.Ytnneeecgmdilfaa.QFnExactChangedTracks Go.Proofs.YtnneeecgmdilfaaW.PrintWords Go.Proofs.YtnneeecgmdilfaaW.PrintLast Go.Proofs.YtnneeecgmdilfaaW.PrintMore Go.Proofs.Ytnneeecgmdilfaa.Base
set_option linter.unusedVariables false
set_option linter.unusedSimpArgs false

/-! slices of ints: copied, held against each other, marked -/
theorem eqIntS_l0 (suf : List Int) : ∀ pre : List Int, (pre ++ suf).length ≤ 9223372036854775806 → Ev (fun k => laws_eqIntS.l0 k (pre ++ suf) (pre ++ suf) (pre.length : Int)) true := by
  induction suf with
  | nil =>
    intro pre _
    refine ev_step ev_const (fun k => ?_)
    rw [laws_eqIntS.l0, if_neg (by simp)]
  | cons x suf ih =>
    intro pre hl
    have h := ih (pre ++ [x]) (by simp at hl ⊢; omega)
    rw [snoc_app, snoc_leni] at h
    have hl' : (pre.length : Int) < ((pre ++ x :: suf).length : Int) := by simp; omega
    refine ev_step h (fun k => ?_)
    rw [laws_eqIntS.l0, if_pos hl', if_pos (by omega), if_pos hl', if_pos rfl, wrapS (by omega) (by simp at hl; omega)]

theorem eqIntS_same (l : List Int) (h : l.length ≤ 9223372036854775806) : Ev (fun k => laws_eqIntS.f k l l) true := by
  have := eqIntS_l0 l [] (by simpa using h)
  refine Ev.congr (fun k => ?_) this
  simp [laws_eqIntS.f]

/-- a, a + 1, .. -/
def countUp : Int → Nat → List Int
  | _, 0 => []
  | a, n + 1 => a :: countUp (a + 1) n
theorem countUp_length (n : Nat) : ∀ a, (countUp a n).length = n := by
  induction n with
  | zero => intro a; rfl
  | succ n ih => intro a; simp [countUp, ih]

theorem markIntS_l0 (suf : List Int) : ∀ (pre : List Int) (a : Int), (pre ++ suf).length ≤ 1048576000 → 0 ≤ a → a + suf.length ≤ 4000000000000 → Ev (fun k => laws_markIntS.l0 k (pre ++ suf) a (pre.length : Int)) (a + suf.length, pre ++ countUp a suf.length) := by
  induction suf with
  | nil =>
    intro pre a _ _ _
    refine ev_step ev_const (fun k => ?_)
    rw [laws_markIntS.l0, if_neg (by simp)]
    simp [countUp]
  | cons x suf ih =>
    intro pre a hl h0 h1
    simp only [List.length_cons] at h1
    have h := ih (pre ++ [a]) (a + 1) (by simp at hl ⊢; omega) (by omega) (by omega)
    rw [snoc_app, snoc_app, snoc_leni] at h
    have hl' : (pre.length : Int) < ((pre ++ x :: suf).length : Int) := by simp; omega
    refine ev_step (ev_eq h ?_) (fun k => ?_)
    · simp only [List.length_cons, countUp, Prod.mk.injEq, and_true]; omega
    · rw [laws_markIntS.l0, if_pos hl', if_pos (by omega), wrapS (x := (pre.length : Int) + 1) (by omega) (by simp at hl; omega), wrapS (x := a + 1) (by omega) (by omega), set_mid _ _ _ _ _ (by simp)]

theorem markIntS_marks (l : List Int) (a : Int) (hl : l.length ≤ 1048576000) (h0 : 0 ≤ a) (h1 : a ≤ 1000000000000) : Ev (fun k => laws_markIntS.f k l a) (a + l.length, countUp a l.length) := by
  have := markIntS_l0 l [] a (by simpa using hl) h0 (by omega)
  refine Ev.congr (f := fun k => laws_markIntS.l0 k l a 0) (fun k => rfl) (by simpa using this)

theorem heldIntS_l0 (n : Nat) : ∀ (pre : List Int) (a : Int), pre.length + n ≤ 1048576000 → 0 ≤ a → a + n ≤ 4000000000000 → Ev (fun k => laws_heldIntS.l0 k (pre ++ countUp a n) a (pre.length : Int)) (a + n) := by
  induction n with
  | zero =>
    intro pre a _ _ _
    refine ev_step ev_const (fun k => ?_)
    rw [laws_heldIntS.l0, if_neg (by simp [countUp])]
    simp
  | succ n ih =>
    intro pre a hl h0 h1
    have h := ih (pre ++ [a]) (a + 1) (by simp; omega) (by omega) (by omega)
    rw [snoc_app, snoc_leni] at h
    refine ev_step (ev_eq h (by omega)) (fun k => ?_)
    rw [laws_heldIntS.l0, countUp, if_pos (by simp; omega), if_pos (by omega), rd_mid, if_pos rfl, wrapS (x := (pre.length : Int) + 1) (by omega) (by omega), wrapS (x := a + 1) (by omega) (by omega)]

theorem heldIntS_marked (n : Nat) (a : Int) (hl : n ≤ 1048576000) (h0 : 0 ≤ a) (h1 : a ≤ 1000000000000) : Ev (fun k => laws_heldIntS.f k (countUp a n) a) (a + n) := by
  have := heldIntS_l0 n [] a (by simpa using hl) h0 (by omega)
  refine Ev.congr (f := fun k => laws_heldIntS.l0 k (countUp a n) a 0) (fun k => rfl) (by simpa using this)

/-! one hole: whether it is valid, its number -/
/-- A valid hole. -/
def holeOk (t a b : Int) : Bool := decide (0 ≤ t ∧ t ≤ 19 ∧ 0 ≤ a ∧ a ≤ 1999 ∧ a < b ∧ b ≤ 2000)

theorem shHole_ok (t a b : Int) : spec_shHole.f t a b = some (holeOk t a b) := by
  unfold spec_shHole.f spec_l1In.f holeOk
  by_cases h1 : 0 ≤ t
  · by_cases h2 : t ≤ 19
    · by_cases h3 : 0 ≤ a
      · by_cases h4 : a ≤ 1999
        · have hw : wrap64 (a + 1) = a + 1 := wrapS (by omega) (by omega)
          by_cases h5 : a + 1 ≤ b
          · simp [h1, h2, h3, h4, hw, h5, show a < b by omega]
          · simp [h1, h2, h3, h4, hw, h5, show ¬ a < b by omega]
        · simp [h1, h2, h3, h4]
      · simp [h1, h2, h3]
    · simp [h1, h2]
  · simp [h1]

theorem isHole_ok (t a b : Int) : impl_IsHole.f t a b = some (holeOk t a b) := by
  unfold impl_IsHole.f impl_isTrack.f holeOk
  by_cases h1 : 0 ≤ t
  · by_cases h2 : t < 20
    · by_cases h3 : 0 ≤ a
      · by_cases h4 : a < b
        · by_cases h5 : b ≤ 2000
          · simp [h1, h2, h3, h4, h5, show t ≤ 19 by omega, show a ≤ 1999 by omega]
          · simp [h1, h2, h3, h4, h5]
        · simp [h1, h2, h3, h4]
      · simp [h1, h2, h3]
    · simp [h1, h2, show ¬ t ≤ 19 by omega]
  · simp [h1]

theorem holeOk_bounds {t a b : Int} (h : holeOk t a b = true) : 0 ≤ t ∧ t ≤ 19 ∧ 0 ≤ a ∧ a ≤ 1999 ∧ a < b ∧ b ≤ 2000 := by
  simpa [holeOk] using h

/-! slices of holes: copied, held against each other; valid sheets -/
def toH (x : S64) : S60 := ⟨x.f0, x.f1, x.f2⟩
theorem rdL_mid (pre suf : List S64) (x : S64) : rd_T64 (pre ++ x :: suf) (pre.length : Int) = x := getD_mid _ _ _ _ _ (by simp)
theorem rdH_mid (pre suf : List S60) (x : S60) : rd_T60 (pre ++ x :: suf) (pre.length : Int) = x := getD_mid _ _ _ _ _ (by simp)

theorem toHoleS_l0 (suf : List S64) : ∀ pre : List S64, (pre ++ suf).length ≤ 9223372036854775806 →
    Ev (fun k => laws_toHoleS.l0 k (pre ++ suf) (pre.map toH ++ List.replicate suf.length z60) (pre.length : Int)) ((pre ++ suf).map toH) := by
  induction suf with
  | nil =>
    intro pre _
    refine ev_step ev_const (fun k => ?_)
    rw [laws_toHoleS.l0, if_neg (by simp)]
    simp
  | cons x suf ih =>
    intro pre hl
    have h := ih (pre ++ [x]) (by simp at hl ⊢; omega)
    rw [snoc_app, snoc_leni, List.map_append, List.map_cons, List.map_nil, snoc_app] at h
    have hl' : (pre.length : Int) < ((pre ++ x :: suf).length : Int) := by simp; omega
    refine ev_step h (fun k => ?_)
    rw [laws_toHoleS.l0, if_pos hl', if_pos (by omega), rdL_mid]
    simp only [laws_toHole.f, Option.bind_some]
    rw [if_pos (by simp; omega), wrapS (by omega) (by simp at hl; omega), List.length_cons, List.replicate_succ, set_mid _ _ _ _ _ (by simp)]
    rfl

theorem toHoleS_copy (l : List S64) (h : l.length ≤ 1048576) : Ev (fun k => laws_toHoleS.f k l) (l.map toH) := by
  have := toHoleS_l0 l [] (by simp; omega)
  refine Ev.congr (fun k => ?_) this
  rw [laws_toHoleS.f, if_pos (by omega), if_pos (by omega)]
  simp

theorem eqHoleS_l0 (suf : List S60) : ∀ pre : List S60, (pre ++ suf).length ≤ 9223372036854775806 → Ev (fun k => laws_eqHoleS.l0 k (pre ++ suf) (pre ++ suf) (pre.length : Int)) true := by
  induction suf with
  | nil =>
    intro pre _
    refine ev_step ev_const (fun k => ?_)
    rw [laws_eqHoleS.l0, if_neg (by simp)]
  | cons x suf ih =>
    intro pre hl
    have h := ih (pre ++ [x]) (by simp at hl ⊢; omega)
    rw [snoc_app, snoc_leni] at h
    have hl' : (pre.length : Int) < ((pre ++ x :: suf).length : Int) := by simp; omega
    refine ev_step h (fun k => ?_)
    rw [laws_eqHoleS.l0, if_pos hl', if_pos (by omega), if_pos hl']
    simp only [laws_eqHole.f, if_true, Option.bind_some]
    rw [wrapS (by omega) (by simp at hl; omega)]

theorem eqHoleS_same (l : List S60) (h : l.length ≤ 9223372036854775806) : Ev (fun k => laws_eqHoleS.f k l l) true := by
  have := eqHoleS_l0 l [] (by simpa using h)
  refine Ev.congr (fun k => ?_) this
  simp [laws_eqHoleS.f]

theorem szHoleS_in (l : List S64) (n : Int) (hn : n ≤ 9223372036854775807) (h : (l.length : Int) ≤ n) : laws_szHoleS.f l n = some (n - l.length) := by
  have hw : wrap64 (n - l.length) = n - l.length := wrapS (by omega) (by omega)
  rw [laws_szHoleS.f, hw, if_neg (by omega)]
theorem szHoleS_out (l : List S64) (n : Int) (hn : 0 ≤ n) (hl : l.length ≤ 9223372036854775807) (h : n < (l.length : Int)) : laws_szHoleS.f l n = some (-1) := by
  have hw : wrap64 (n - l.length) = n - l.length := wrapS (by omega) (by omega)
  rw [laws_szHoleS.f, hw, if_pos (by omega)]

/-- The hole x meets the earlier hole y. -/
def meets (x y : S60) : Bool := decide (x.f0 = y.f0 ∧ x.f1 ≤ y.f2)
def before (a b : S60) : Bool := decide (a.f1 < b.f1 ∨ (a.f1 = b.f1 ∧ a.f0 < b.f0))
def lastBefore (pre : List S60) (x : S60) : Bool := match pre.getLast? with | none => true | some p => before p x
def goodAt (pre : List S60) (x : S60) : Bool := holeOk x.f0 x.f1 x.f2 && (lastBefore pre x && !(pre.any (meets x)))
def goodFrom : List S60 → List S60 → Bool
  | _, [] => true
  | pre, x :: suf => goodAt pre x && goodFrom (pre ++ [x]) suf
/-- A valid sheet. -/
def good (l : List S60) : Bool := goodFrom [] l && decide (l.length ≤ 60)

theorem shBefore_ok (a b : S60) : spec_shBefore.f a.f0 a.f1 a.f2 b.f0 b.f1 b.f2 = some (before a b) := by
  unfold spec_shBefore.f before
  by_cases h : a.f1 < b.f1
  · simp [h]
  · by_cases h1 : a.f1 = b.f1
    · simp [h1]
    · simp [h, h1]
theorem holeLess_ok (a b : S60) : impl_holeLess.f a.f0 a.f1 a.f2 b.f0 b.f1 b.f2 = some (before a b) := by
  unfold impl_holeLess.f before
  by_cases h1 : a.f1 = b.f1
  · simp [h1]
  · simp [h1]

theorem shGood_l1 (x : S60) (l : List S60) (n i : Int) (r : Bool) (suf : List S60) : ∀ pre : List S60, (pre ++ suf).length ≤ 9223372036854775806 →
    (suf.any (meets x) = true → r = false) → (suf.any (meets x) = false → Ev (fun k => spec_shGood.l0 k l l n (wrap64 (i + 1))) r) →
    Ev (fun k => spec_shGood.l1 k l l n i (pre ++ suf) ((pre ++ suf).length : Int) (pre.length : Int) x.f0 x.f1 x.f2) r := by
  induction suf with
  | nil =>
    intro pre _ _ h
    refine ev_step (h rfl) (fun k => ?_)
    rw [spec_shGood.l1, if_neg (by simp)]
  | cons y suf ih =>
    intro pre hl h1 h2
    have hl' : (pre.length : Int) < ((pre ++ y :: suf).length : Int) := by simp; omega
    have hw : wrap64 ((pre.length : Int) + 1) = (pre.length : Int) + 1 := wrapS (by omega) (by simp at hl; omega)
    by_cases hm : meets x y = true
    · have e : r = false := h1 (by simp [hm])
      subst e
      simp only [meets, decide_eq_true_eq] at hm
      refine ev_step ev_const (fun k => ?_)
      rw [spec_shGood.l1, if_pos hl', if_pos (by omega), if_pos hl', rdH_mid, if_pos hm.1, if_pos hm.2]
    · replace hm : meets x y = false := by simpa using hm
      have h := ih (pre ++ [y]) (by simp at hl ⊢; omega) (fun e => h1 (by simp [e])) (fun e => h2 (by simp [hm, e]))
      rw [snoc_app, snoc_leni] at h
      simp only [meets, decide_eq_false_iff_not] at hm
      refine ev_step h (fun k => ?_)
      rw [spec_shGood.l1, if_pos hl', if_pos (by omega), if_pos hl', rdH_mid, hw]
      by_cases e : x.f0 = y.f0
      · rw [if_pos e, if_neg (fun e2 => hm ⟨e, e2⟩)]
      · rw [if_neg e]

theorem shGood_j1 (x : S60) (pre suf : List S60) (n : Int) (b r : Bool) (hl : (pre ++ suf).length ≤ 9223372036854775806) (hb : b = true → r = false) (h1 : b = false → pre.any (meets x) = true → r = false)
    (h2 : b = false → pre.any (meets x) = false → Ev (fun k => spec_shGood.l0 k (pre ++ suf) (pre ++ suf) n (wrap64 ((pre.length : Int) + 1))) r) :
    Ev (fun k => spec_shGood.j1 k (pre ++ suf) (pre.length : Int) (pre ++ suf) n (pre.length : Int) b x.f0 x.f1 x.f2) r := by
  cases b with
  | true =>
    obtain rfl := hb rfl
    refine ev_step ev_const (fun k => ?_)
    rw [spec_shGood.j1, if_pos rfl]
  | false =>
    have h := shGood_l1 x (pre ++ suf) n (pre.length : Int) r pre [] (by simp at hl ⊢; omega) (h1 rfl) (h2 rfl)
    refine ev_step h (fun k => ?_)
    rw [spec_shGood.j1, if_neg (by decide), if_pos (by omega), if_pos (by simp; omega)]
    simp

theorem shGood_l0 (suf : List S60) : ∀ pre : List S60, (pre ++ suf).length ≤ 9223372036854775806 →
    Ev (fun k => spec_shGood.l0 k (pre ++ suf) (pre ++ suf) ((pre ++ suf).length : Int) (pre.length : Int)) (goodFrom pre suf && decide ((pre ++ suf).length ≤ 60)) := by
  induction suf with
  | nil =>
    intro pre _
    refine ev_step (Ev.now _) (fun k => ?_)
    rw [spec_shGood.l0, if_neg (by simp)]
    simp [goodFrom]
    omega
  | cons x suf ih =>
    intro pre hl
    have h := ih (pre ++ [x]) (by simp at hl ⊢; omega)
    rw [snoc_app, snoc_leni] at h
    have hl' : (pre.length : Int) < ((pre ++ x :: suf).length : Int) := by simp; omega
    have hw : wrap64 ((pre.length : Int) + 1) = (pre.length : Int) + 1 := wrapS (by omega) (by simp at hl; omega)
    have J : ∀ b, (b = !(holeOk x.f0 x.f1 x.f2 && lastBefore pre x)) → Ev (fun k => spec_shGood.j1 k (pre ++ x :: suf) (pre.length : Int) (pre ++ x :: suf) ((pre ++ x :: suf).length : Int) (pre.length : Int) b x.f0 x.f1 x.f2) (goodFrom pre (x :: suf) && decide ((pre ++ x :: suf).length ≤ 60)) := by
      intro b hb
      refine shGood_j1 x pre (x :: suf) _ b _ hl (fun e => ?_) (fun e e2 => ?_) (fun e e2 => ?_)
      · simp only [goodFrom, goodAt]
        cases h1 : holeOk x.f0 x.f1 x.f2 <;> cases h2 : lastBefore pre x <;> simp_all
      · simp [goodFrom, goodAt, e2]
      · rw [hw]
        have e3 : goodFrom pre (x :: suf) = goodFrom (pre ++ [x]) suf := by
          simp only [goodFrom, goodAt, e2]
          cases h1 : holeOk x.f0 x.f1 x.f2 <;> cases h2 : lastBefore pre x <;> simp_all
        rw [e3]
        exact h
    cases ho : holeOk x.f0 x.f1 x.f2 with
    | false =>
      refine ev_step (J true (by simp [ho])) (fun k => ?_)
      rw [spec_shGood.l0, if_pos hl', if_pos (by omega), if_pos hl', rdH_mid, shHole_ok, ho]
      simp
    | true =>
      rcases List.eq_nil_or_concat pre with rfl | ⟨pre', p, rfl⟩
      · refine ev_step (J false (by simp [ho, lastBefore])) (fun k => ?_)
        rw [spec_shGood.l0, if_pos hl', if_pos (by omega), if_pos hl', rdH_mid, shHole_ok, ho]
        simp
      · refine ev_step (J (!(before p x)) (by simp [ho, lastBefore])) (fun k => ?_)
        have e1 : ((pre' ++ [p]).length : Int) = (pre'.length : Int) + 1 := by simp
        have hw2 : wrap64 (((pre' ++ [p]).length : Int) - 1) = (pre'.length : Int) := by
          rw [e1, wrapS (by omega) (by simp at hl; omega)]; omega
        have e2 : rd_T60 (pre' ++ [p] ++ x :: suf) (pre'.length : Int) = p := by
          rw [snoc_app]; exact rdH_mid _ _ _
        rw [spec_shGood.l0, if_pos hl', if_pos (by omega), if_pos hl', rdH_mid, shHole_ok, ho]
        simp only [List.concat_eq_append] at *
        simp only [Option.bind_some, if_true]
        rw [if_pos (by omega), hw2, if_pos (by omega), if_pos (by simp; omega), e2, shBefore_ok]
        simp only [Option.bind_some]

theorem shGood_ok (l : List S60) (h : l.length ≤ 9223372036854775806) : Ev (fun k => spec_shGood.f k l) (good l) :=
  Ev.congr (fun _ => rfl) (shGood_l0 l [] (by simpa using h))

theorem isSheet_l1 (x : S60) (l : List S60) (n i : Int) (r : Bool) (suf : List S60) : ∀ pre : List S60, (pre ++ suf).length ≤ 9223372036854775806 →
    (suf.any (meets x) = true → r = false) → (suf.any (meets x) = false → Ev (fun k => impl_IsSheet.l0 k l l n (wrap64 (i + 1))) r) →
    Ev (fun k => impl_IsSheet.l1 k l l n i (pre ++ suf) ((pre ++ suf).length : Int) (pre.length : Int) x.f0 x.f1 x.f2) r := by
  induction suf with
  | nil =>
    intro pre _ _ h
    refine ev_step (h rfl) (fun k => ?_)
    rw [impl_IsSheet.l1, if_neg (by simp)]
  | cons y suf ih =>
    intro pre hl h1 h2
    have hl' : (pre.length : Int) < ((pre ++ y :: suf).length : Int) := by simp; omega
    have hw : wrap64 ((pre.length : Int) + 1) = (pre.length : Int) + 1 := wrapS (by omega) (by simp at hl; omega)
    by_cases hm : meets x y = true
    · have e : r = false := h1 (by simp [hm])
      subst e
      simp only [meets, decide_eq_true_eq] at hm
      refine ev_step ev_const (fun k => ?_)
      rw [impl_IsSheet.l1, if_pos hl', if_pos (by omega), if_pos hl', rdH_mid, if_pos hm.1.symm, if_pos hm.2]
    · replace hm : meets x y = false := by simpa using hm
      have h := ih (pre ++ [y]) (by simp at hl ⊢; omega) (fun e => h1 (by simp [e])) (fun e => h2 (by simp [hm, e]))
      rw [snoc_app, snoc_leni] at h
      simp only [meets, decide_eq_false_iff_not] at hm
      refine ev_step h (fun k => ?_)
      rw [impl_IsSheet.l1, if_pos hl', if_pos (by omega), if_pos hl', rdH_mid, hw]
      by_cases e : x.f0 = y.f0
      · rw [if_pos e.symm, if_neg (fun e2 => hm ⟨e, e2⟩)]
      · rw [if_neg (fun e2 => e e2.symm)]

theorem isSheet_j1 (x : S60) (pre suf : List S60) (n : Int) (b r : Bool) (hl : (pre ++ suf).length ≤ 9223372036854775806) (hb : b = true → r = false) (h1 : b = false → pre.any (meets x) = true → r = false)
    (h2 : b = false → pre.any (meets x) = false → Ev (fun k => impl_IsSheet.l0 k (pre ++ suf) (pre ++ suf) n (wrap64 ((pre.length : Int) + 1))) r) :
    Ev (fun k => impl_IsSheet.j1 k (pre ++ suf) (pre.length : Int) (pre ++ suf) n (pre.length : Int) b x.f0 x.f1 x.f2) r := by
  cases b with
  | true =>
    obtain rfl := hb rfl
    refine ev_step ev_const (fun k => ?_)
    rw [impl_IsSheet.j1, if_pos rfl]
  | false =>
    have h := isSheet_l1 x (pre ++ suf) n (pre.length : Int) r pre [] (by simp at hl ⊢; omega) (h1 rfl) (h2 rfl)
    refine ev_step h (fun k => ?_)
    rw [impl_IsSheet.j1, if_neg (by decide), if_pos (by omega), if_pos (by simp; omega)]
    simp

theorem isSheet_l0 (suf : List S60) : ∀ pre : List S60, (pre ++ suf).length ≤ 9223372036854775806 →
    Ev (fun k => impl_IsSheet.l0 k (pre ++ suf) (pre ++ suf) ((pre ++ suf).length : Int) (pre.length : Int)) (goodFrom pre suf) := by
  induction suf with
  | nil =>
    intro pre _
    refine ev_step (Ev.now _) (fun k => ?_)
    rw [impl_IsSheet.l0, if_neg (by simp)]
    simp [goodFrom]
  | cons x suf ih =>
    intro pre hl
    have h := ih (pre ++ [x]) (by simp at hl ⊢; omega)
    rw [snoc_app, snoc_leni] at h
    have hl' : (pre.length : Int) < ((pre ++ x :: suf).length : Int) := by simp; omega
    have hw : wrap64 ((pre.length : Int) + 1) = (pre.length : Int) + 1 := wrapS (by omega) (by simp at hl; omega)
    have J : ∀ b, (b = !(holeOk x.f0 x.f1 x.f2 && lastBefore pre x)) → Ev (fun k => impl_IsSheet.j1 k (pre ++ x :: suf) (pre.length : Int) (pre ++ x :: suf) ((pre ++ x :: suf).length : Int) (pre.length : Int) b x.f0 x.f1 x.f2) (goodFrom pre (x :: suf)) := by
      intro b hb
      refine isSheet_j1 x pre (x :: suf) _ b _ hl (fun e => ?_) (fun e e2 => ?_) (fun e e2 => ?_)
      · simp only [goodFrom, goodAt]
        cases h1 : holeOk x.f0 x.f1 x.f2 <;> cases h2 : lastBefore pre x <;> simp_all
      · simp [goodFrom, goodAt, e2]
      · rw [hw]
        have e3 : goodFrom pre (x :: suf) = goodFrom (pre ++ [x]) suf := by
          simp only [goodFrom, goodAt, e2]
          cases h1 : holeOk x.f0 x.f1 x.f2 <;> cases h2 : lastBefore pre x <;> simp_all
        rw [e3]
        exact h
    cases ho : holeOk x.f0 x.f1 x.f2 with
    | false =>
      refine ev_step (J true (by simp [ho])) (fun k => ?_)
      rw [impl_IsSheet.l0, if_pos hl', if_pos (by omega), if_pos hl', rdH_mid, isHole_ok, ho]
      simp
    | true =>
      rcases List.eq_nil_or_concat pre with rfl | ⟨pre', p, rfl⟩
      · refine ev_step (J false (by simp [ho, lastBefore])) (fun k => ?_)
        rw [impl_IsSheet.l0, if_pos hl', if_pos (by omega), if_pos hl', rdH_mid, isHole_ok, ho]
        simp
      · refine ev_step (J (!(before p x)) (by simp [ho, lastBefore])) (fun k => ?_)
        have e1 : ((pre' ++ [p]).length : Int) = (pre'.length : Int) + 1 := by simp
        have hw2 : wrap64 (((pre' ++ [p]).length : Int) - 1) = (pre'.length : Int) := by
          rw [e1, wrapS (by omega) (by simp at hl; omega)]; omega
        have e2 : rd_T60 (pre' ++ [p] ++ x :: suf) (pre'.length : Int) = p := by
          rw [snoc_app]; exact rdH_mid _ _ _
        rw [impl_IsSheet.l0, if_pos hl', if_pos (by omega), if_pos hl', rdH_mid, isHole_ok, ho]
        simp only [List.concat_eq_append] at *
        simp only [Option.bind_some, if_true]
        rw [if_pos (by omega), hw2, if_pos (by omega), if_pos (by simp; omega), e2, holeLess_ok]
        simp only [Option.bind_some]

theorem isSheet_ok (l : List S60) (h : l.length ≤ 9223372036854775806) : Ev (fun k => impl_IsSheet.f k l) (good l) := by
  by_cases h6 : (l.length : Int) > 60
  · refine Ev.congr (f := fun _ => some (good l)) (fun k => ?_) ev_const
    rw [impl_IsSheet.f, if_pos h6]
    have : ¬ l.length ≤ 60 := by omega
    simp [good, this]
  · refine Ev.congr (fun k => ?_) (ev_eq (isSheet_l0 l [] (by simpa using h)) ?_)
    · rw [impl_IsSheet.f, if_neg h6]
      rfl
    · have : l.length ≤ 60 := by omega
      simp [good, this]

/-! holes that are in one slice and not in the other -/
def sameH (x y : S60) : Bool := x.f0 == y.f0 && (x.f1 == y.f1 && (x.f2 == y.f2))
def hasH (l : List S60) (x : S60) : Bool := l.any (sameH x)
def less (l b : List S60) : List S60 := l.filter fun x => !hasH b x
theorem sameH_eq (x y : S60) : sameH x y = true ↔ x = y := by
  obtain ⟨a, b, c⟩ := x
  obtain ⟨d, e, f⟩ := y
  simp [sameH]
theorem hasH_mem (l : List S60) (x : S60) : hasH l x = true ↔ x ∈ l := by
  simp only [hasH, List.any_eq_true]
  constructor
  · rintro ⟨y, hy, h⟩; rw [(sameH_eq x y).1 h]; exact hy
  · intro h; exact ⟨x, h, (sameH_eq x x).2 rfl⟩
theorem less_len (l b : List S60) : (less l b).length ≤ l.length := List.length_filter_le _ _
theorem mgHas_l0 (x : S60) (suf : List S60) : ∀ pre : List S60, (pre ++ suf).length ≤ 1048576 →
    Ev (fun k => spec_mgHas.l0 k (pre ++ suf) ((pre ++ suf).length : Int) (pre.length : Int) x.f0 x.f1 x.f2) (hasH suf x) := by
  induction suf with
  | nil =>
    intro pre _
    refine ev_step (f := fun _ => some _) (Ev.now _) (fun k => ?_)
    rw [spec_mgHas.l0, if_neg (by simp)]; rfl
  | cons y suf ih =>
    intro pre hl
    have hlp : pre.length ≤ 1048576 := by simp at hl; omega
    have h := ih (pre ++ [y]) (by simp at hl ⊢; omega)
    rw [snoc_app, snoc_leni] at h
    have hl' : (pre.length : Int) < ((pre ++ y :: suf).length : Int) := by simp; omega
    have hw : wrap64 ((pre.length : Int) + 1) = (pre.length : Int) + 1 := wrapS (by omega) (by omega)
    cases c : sameH x y with
    | true =>
      refine ev_step (f := fun _ => some _) (Ev.now _) (fun k => ?_)
      rw [spec_mgHas.l0, if_pos hl', if_pos (by omega), if_pos hl', rdH_mid, if_pos (show (x.f0 == y.f0 && (x.f1 == y.f1 && (x.f2 == y.f2))) = true from c)]
      simp [hasH, c]
    | false =>
      refine ev_step (ev_eq h (by simp [hasH, c])) (fun k => ?_)
      rw [spec_mgHas.l0, if_pos hl', if_pos (by omega), if_pos hl', rdH_mid, if_neg (by rw [show (x.f0 == y.f0 && (x.f1 == y.f1 && (x.f2 == y.f2))) = false from c]; decide), hw]
theorem mgHas_ok (l : List S60) (x : S60) (h : l.length ≤ 1048576) : Ev (fun k => spec_mgHas.f k l x.f0 x.f1 x.f2) (hasH l x) :=
  Ev.congr (f := fun k => spec_mgHas.l0 k l (l.length : Int) 0 x.f0 x.f1 x.f2) (fun _ => rfl) (mgHas_l0 x l [] (by simpa using h))
theorem mgLess_l0 (b : List S60) (hb : b.length ≤ 1048576) (suf : List S60) : ∀ (pre out : List S60), (pre ++ suf).length ≤ 1048576 → out.length ≤ pre.length →
    Ev (fun k => spec_mgLess.l0 k b out (pre ++ suf) ((pre ++ suf).length : Int) (pre.length : Int)) (out ++ less suf b) := by
  induction suf with
  | nil =>
    intro pre out _ _
    refine ev_step (f := fun _ => some _) (Ev.now _) (fun k => ?_)
    rw [spec_mgLess.l0, if_neg (by simp)]; simp [less]
  | cons x suf ih =>
    intro pre out hl ho
    have hlp : pre.length ≤ 1048576 := by simp at hl; omega
    have hl' : (pre.length : Int) < ((pre ++ x :: suf).length : Int) := by simp; omega
    have hw : wrap64 ((pre.length : Int) + 1) = (pre.length : Int) + 1 := wrapS (by omega) (by omega)
    obtain ⟨K1, e1⟩ := mgHas_ok b x hb
    have h := ih (pre ++ [x]) (if hasH b x = true then out else out ++ [x]) (by simp at hl ⊢; omega) (by split <;> simp <;> omega)
    rw [snoc_app, snoc_leni] at h
    obtain ⟨K2, e2⟩ := h
    dsimp only at e1 e2
    refine ⟨K1 + K2 + 1, fun k hk => ?_⟩
    obtain ⟨m, rfl⟩ : ∃ m, k = m + 1 := ⟨k - 1, by omega⟩
    dsimp only
    rw [spec_mgLess.l0, if_pos hl', if_pos (by omega), if_pos hl', rdH_mid, e1 m (by omega)]
    simp only [Option.bind_some]
    rw [if_pos (show out.length < 5864062014805 by omega), hw]
    have e3 := e2 m (by omega)
    cases c : hasH b x with
    | true => rw [c] at e3; simp only [if_true] at e3 ⊢; rw [e3]; simp [less, c]
    | false => rw [c] at e3; simp only [Bool.false_eq_true, if_false] at e3 ⊢; rw [e3]; simp [less, c]
theorem mgLess_ok (l b : List S60) (h : l.length ≤ 1048576) (hb : b.length ≤ 1048576) : Ev (fun k => spec_mgLess.f k l b) (less l b) :=
  Ev.congr (f := fun k => spec_mgLess.l0 k b [] l (l.length : Int) 0) (fun _ => rfl) (ev_eq (mgLess_l0 b hb l [] [] (by simpa using h) (by simp)) (by simp))

theorem lessHoles_ok (l b : List S60) (h : l.length ≤ 1048576) : impl_lessHoles.f l b = some (less l b) := by
  rw [impl_lessHoles.f, if_pos (by omega)]; rfl

theorem mgTwo_ok (a b : List S60) (ha : a.length ≤ 1048576) (hb : b.length ≤ 1048576) : Ev (fun k => spec_mgTwo.f k a b) (good a && good b) := by
  obtain ⟨K1, e1⟩ := shGood_ok a (by omega)
  obtain ⟨K2, e2⟩ := shGood_ok b (by omega)
  dsimp only at e1 e2
  refine ⟨K1 + K2, fun k hk => ?_⟩
  dsimp only
  rw [spec_mgTwo.f, e1 k (by omega), e2 k (by omega)]
  cases good a <;> cases good b <;> rfl

/-! sets of numbers: in order, each once -/
def putS : List Int → Int → List Int
  | [], n => [n]
  | x :: l, n => if x < n then x :: putS l n else if x = n then x :: l else n :: x :: l
theorem mem_putS (n y : Int) (l : List Int) : y ∈ putS l n ↔ y = n ∨ y ∈ l := by
  induction l with
  | nil => simp [putS]
  | cons x l ih =>
    rw [putS]
    by_cases c : x < n
    · rw [if_pos c, List.mem_cons, ih, List.mem_cons]; constructor
      · rintro (h | h | h) <;> simp [h]
      · rintro (h | h | h) <;> simp [h]
    · rw [if_neg c]
      by_cases e : x = n
      · rw [if_pos e, List.mem_cons]; subst e; simp
      · rw [if_neg e, List.mem_cons]
theorem putS_len (n : Int) (l : List Int) : (putS l n).length ≤ l.length + 1 := by
  induction l with
  | nil => simp [putS]
  | cons x l ih =>
    rw [putS]
    by_cases c : x < n
    · rw [if_pos c, List.length_cons, List.length_cons]; omega
    · rw [if_neg c]
      by_cases e : x = n
      · rw [if_pos e]; omega
      · rw [if_neg e]; simp
theorem sorted_putS (n : Int) (l : List Int) (h : l.Pairwise (· < ·)) : (putS l n).Pairwise (· < ·) := by
  induction l with
  | nil => simp [putS]
  | cons x l ih =>
    obtain ⟨hx, hl⟩ := List.pairwise_cons.1 h
    rw [putS]
    by_cases c : x < n
    · rw [if_pos c]
      refine List.pairwise_cons.2 ⟨fun y hy => ?_, ih hl⟩
      rcases (mem_putS n y l).1 hy with rfl | hy
      · exact c
      · exact hx y hy
    · rw [if_neg c]
      by_cases e : x = n
      · rw [if_pos e]; exact h
      · rw [if_neg e]
        refine List.pairwise_cons.2 ⟨fun y hy => ?_, h⟩
        rcases List.mem_cons.1 hy with rfl | hy
        · omega
        · have := hx y hy; omega
theorem sorted_ext : ∀ (l m : List Int), l.Pairwise (· < ·) → m.Pairwise (· < ·) → (∀ x, x ∈ l ↔ x ∈ m) → l = m
  | [], [], _, _, _ => rfl
  | [], y :: m, _, _, h => absurd ((h y).2 List.mem_cons_self) (by simp)
  | x :: l, [], _, _, h => absurd ((h x).1 List.mem_cons_self) (by simp)
  | x :: l, y :: m, hl, hm, h => by
    obtain ⟨hx, hl1⟩ := List.pairwise_cons.1 hl
    obtain ⟨hy, hm1⟩ := List.pairwise_cons.1 hm
    have e : x = y := by
      rcases List.mem_cons.1 ((h x).1 List.mem_cons_self) with e | h1
      · exact e
      · rcases List.mem_cons.1 ((h y).2 List.mem_cons_self) with e | h2
        · exact e.symm
        · have := hy x h1; have := hx y h2; omega
    subst e
    rw [sorted_ext l m hl1 hm1 (fun z => ?_)]
    constructor
    · intro hz
      rcases List.mem_cons.1 ((h z).1 (List.mem_cons_of_mem _ hz)) with e | h1
      · have := hx z hz; omega
      · exact h1
    · intro hz
      rcases List.mem_cons.1 ((h z).2 (List.mem_cons_of_mem _ hz)) with e | h1
      · have := hy z hz; omega
      · exact h1
theorem comp_inv (d : Array Int) (hs : ∀ i j, i < j → j < d.size → d[i]! ≤ d[j]!) (m : Nat) : m ≤ d.size → (Go.Lib.compactUpTo d m).Pairwise (· < ·) ∧ ∀ x, x ∈ Go.Lib.compactUpTo d m ↔ ∃ j, j < m ∧ d[j]! = x := by
  induction m with
  | zero => intro _; exact ⟨by simp [Go.Lib.compactUpTo], fun x => by simp [Go.Lib.compactUpTo]⟩
  | succ m ih =>
    intro hm
    obtain ⟨h1, h2⟩ := ih (by omega)
    rw [Go.Lib.compactUpTo_succ]
    by_cases c : m = 0 ∨ d[m]! ≠ d[m - 1]!
    · have hk : Go.Lib.keeps d m = true := by
        rcases c with c | c
        · exact Go.Lib.keeps_lt_one d m (by omega)
        · exact Go.Lib.keeps_pos c
      rw [hk, if_pos rfl]
      constructor
      · refine List.pairwise_append.2 ⟨h1, List.pairwise_singleton _ _, fun a ha b hb => ?_⟩
        rw [List.mem_singleton.1 hb]
        obtain ⟨j, hj, rfl⟩ := (h2 a).1 ha
        have h3 := hs (m - 1) m (by omega) (by omega)
        have h4 : d[j]! ≤ d[m - 1]! := by
          rcases Nat.lt_or_ge j (m - 1) with g | g
          · exact hs j (m - 1) g (by omega)
          · rw [show j = m - 1 by omega]; exact Int.le_refl _
        rcases c with c | c
        · omega
        · omega
      · intro x
        rw [List.mem_append, h2, List.mem_singleton]
        constructor
        · rintro (⟨j, hj, e⟩ | e)
          · exact ⟨j, by omega, e⟩
          · exact ⟨m, by omega, e.symm⟩
        · rintro ⟨j, hj, e⟩
          rcases Nat.lt_or_ge j m with g | g
          · exact .inl ⟨j, g, e⟩
          · rw [show j = m by omega] at e; exact .inr e.symm
    · have hm0 : 0 < m := by omega
      have he : d[m]! = d[m - 1]! := by
        rcases Classical.em (d[m]! = d[m - 1]!) with e | e
        · exact e
        · exact absurd (.inr e) c
      rw [Go.Lib.keeps_neg hm0 he, if_neg (by decide), List.append_nil]
      refine ⟨h1, fun x => ?_⟩
      rw [h2]
      constructor
      · rintro ⟨j, hj, e⟩; exact ⟨j, by omega, e⟩
      · rintro ⟨j, hj, e⟩
        rcases Nat.lt_or_ge j m with g | g
        · exact ⟨j, g, e⟩
        · rw [show j = m by omega, he] at e; exact ⟨m - 1, by omega, e⟩
def setOf (l : List Int) : List Int := Go.Lib.compact (l.mergeSort fun x y => decide (x ≤ y))
theorem setOf_sorted (l : List Int) : (setOf l).Pairwise (· < ·) ∧ ∀ x, x ∈ setOf l ↔ x ∈ l := by
  have hp : (l.mergeSort fun x y => decide (x ≤ y)).Pairwise (fun x y => decide (x ≤ y) = true) := List.pairwise_mergeSort (fun a b c h1 h2 => by simp at *; omega) (fun a b => by simp; omega) l
  have hmem : ∀ x, x ∈ (l.mergeSort fun x y => decide (x ≤ y)) ↔ x ∈ l := fun x => List.mem_mergeSort
  unfold setOf Go.Lib.compact
  generalize (l.mergeSort fun x y => decide (x ≤ y)) = s at hp hmem
  have hs : ∀ i j, i < j → j < s.toArray.size → s.toArray[i]! ≤ s.toArray[j]! := fun i j hij hj => by
    have h := List.pairwise_iff_getElem.1 hp i j (by simp at hj; omega) (by simpa using hj) hij
    simp only [decide_eq_true_eq] at h
    rw [getElem!_pos _ i (by omega), getElem!_pos _ j hj]
    simpa using h
  obtain ⟨h1, h2⟩ := comp_inv s.toArray hs s.length (by simp)
  refine ⟨h1, fun x => (h2 x).trans ((Iff.intro ?_ ?_).trans (hmem x))⟩
  · rintro ⟨j, hj, e⟩
    rw [getElem!_pos _ j (by simpa using hj)] at e
    rw [← e]; simp
  · intro hx
    obtain ⟨j, hj, e⟩ := List.getElem_of_mem hx
    exact ⟨j, hj, by rw [getElem!_pos _ j (by simpa using hj)]; simpa using e⟩
theorem setOf_len (l : List Int) : (setOf l).length ≤ l.length := by
  unfold setOf Go.Lib.compact Go.Lib.compactUpTo
  rw [List.length_map]
  refine Nat.le_trans (List.length_filter_le _ _) ?_
  simp
def putsS : List Int → List Int → List Int
  | o, [] => o
  | o, x :: l => putsS (putS o x) l
theorem putsS_sorted (l : List Int) : ∀ o : List Int, o.Pairwise (· < ·) → (putsS o l).Pairwise (· < ·) ∧ ∀ x, x ∈ putsS o l ↔ x ∈ o ∨ x ∈ l := by
  induction l with
  | nil => intro o h; exact ⟨h, fun x => by simp [putsS]⟩
  | cons y l ih =>
    intro o h
    obtain ⟨h1, h2⟩ := ih (putS o y) (sorted_putS y o h)
    refine ⟨h1, fun x => ?_⟩
    rw [putsS, h2, mem_putS, List.mem_cons]
    constructor
    · rintro ((h | h) | h) <;> simp [h]
    · rintro (h | h | h) <;> simp [h]
theorem putsS_eq (l : List Int) : putsS [] l = setOf l := by
  obtain ⟨h1, h2⟩ := putsS_sorted l [] List.Pairwise.nil
  obtain ⟨h3, h4⟩ := setOf_sorted l
  exact sorted_ext _ _ h1 h3 (fun x => by rw [h2, h4]; simp)
theorem l1Put_l0 (n : Int) (suf : List Int) : ∀ pre : List Int, (pre ++ suf).length ≤ 1000000000 →
    Ev (fun k => spec_l1Put.l0 k (pre ++ suf) n (pre.length : Int)) (pre ++ putS suf n) := by
  induction suf with
  | nil =>
    intro pre hl
    simp only [List.append_nil] at hl ⊢
    refine ev_step (f := fun _ => some _) (Ev.now _) (fun k => ?_)
    rw [spec_l1Put.l0, if_neg (by omega)]
    simp only [Option.bind_some]
    rw [if_pos (by omega), if_pos (by omega)]
    simp only [Int.toNat_natCast, List.take_length, List.drop_length, List.nil_append, List.length_nil, List.append_nil, putS]
    rw [if_pos (by omega), if_pos (by omega), if_pos (by simp; omega)]
  | cons x suf ih =>
    intro pre hl
    have hlp : pre.length + 1 ≤ 1000000000 := by simp at hl; omega
    have hl' : (pre.length : Int) < ((pre ++ x :: suf).length : Int) := by simp; omega
    have hw : wrap64 ((pre.length : Int) + 1) = (pre.length : Int) + 1 := wrapS (by omega) (by omega)
    by_cases c : x < n
    · have h := ih (pre ++ [x]) (by simp at hl ⊢; omega)
      rw [snoc_app, snoc_app, snoc_leni] at h
      refine ev_step (ev_eq h (by rw [putS, if_pos c])) (fun k => ?_)
      rw [spec_l1Put.l0, if_pos hl', if_pos (by omega), rd_mid, if_pos c, hw]
    · refine ev_step (f := fun _ => some _) (Ev.now _) (fun k => ?_)
      rw [spec_l1Put.l0, if_pos hl', if_pos (by omega), rd_mid, if_neg c, putS, if_neg c]
      by_cases e : x = n
      · rw [if_pos e, if_pos e]
      · rw [if_neg e, if_neg e]
        have ht : (pre ++ x :: suf).take pre.length = pre := List.take_left
        have hd : (pre ++ x :: suf).drop pre.length = x :: suf := List.drop_left
        simp only [Option.bind_some, Int.toNat_natCast, ht, hd, List.nil_append, List.length_nil]
        rw [if_pos (by omega), if_pos (by omega), if_pos (by omega), if_pos (by simp at hl ⊢; omega)]
        simp
theorem l1Put_ok (l : List Int) (n : Int) (h : l.length ≤ 1000000000) : Ev (fun k => spec_l1Put.f k l n) (putS l n) :=
  Ev.congr (f := fun k => spec_l1Put.l0 k l n 0) (fun _ => rfl) (by simpa using l1Put_l0 n l [] (by simpa using h))

/-! marks of holes -/
def mholes : Nat → Int → List S60
  | 0, _ => []
  | d + 1, a => (⟨a, a + 1, a + 1 + 1⟩ : S60) :: mholes d (a + 1 + 1 + 1)
theorem mholes_len (d : Nat) : ∀ a, (mholes d a).length = d := by
  induction d with
  | zero => intro a; rfl
  | succ d ih => intro a; simp [mholes, ih]
theorem markHoleS_l0 (suf : List S60) : ∀ (pre : List S60) (a : Int), (pre ++ suf).length ≤ 9000000 → 0 ≤ a → a ≤ 1000000000 + 3 * pre.length →
    Ev (fun k => laws_markHoleS.l0 k (pre ++ suf) a (pre.length : Int)) (a + 3 * suf.length, pre ++ mholes suf.length a) := by
  induction suf with
  | nil =>
    intro pre a _ _ _
    refine ev_step (f := fun _ => some _) (Ev.now _) (fun k => ?_)
    rw [laws_markHoleS.l0, if_neg (by simp)]; simp [mholes]
  | cons x suf ih =>
    intro pre a hl h0 h1
    have hlp : pre.length ≤ 9000000 := by simp at hl; omega
    have w1 : wrap64 (a + 1) = a + 1 := wrapS (by omega) (by omega)
    have w2 : wrap64 (a + 1 + 1) = a + 1 + 1 := wrapS (by omega) (by omega)
    have w3 : wrap64 (a + 1 + 1 + 1) = a + 1 + 1 + 1 := wrapS (by omega) (by omega)
    have w5 : wrap64 ((pre.length : Int) + 1) = (pre.length : Int) + 1 := wrapS (by omega) (by omega)
    have sR : ∀ y z : S60, (pre ++ y :: suf).set ((pre.length : Int)).toNat z = pre ++ z :: suf := fun y z => set_mid _ _ _ _ _ (by simp)
    have hl' : (pre.length : Int) < ((pre ++ x :: suf).length : Int) := by simp; omega
    have h := ih (pre ++ [(⟨a, a + 1, a + 1 + 1⟩ : S60)]) (a + 1 + 1 + 1) (by simp at hl ⊢; omega) (by omega) (by simp; omega)
    rw [snoc_app, snoc_app, snoc_leni] at h
    refine ev_step (ev_eq h ?_) (fun k => ?_)
    · simp only [mholes, List.length_cons]
      congr 1
      omega
    · rw [laws_markHoleS.l0, if_pos hl', if_pos (by omega)]
      simp only [rdH_mid, sR, w1, w2, w3, w5, Option.bind_some]
theorem markHoleS_all (l : List S60) (a : Int) (hl : l.length ≤ 9000000) (h0 : 0 ≤ a) (h1 : a ≤ 1000000000) : Ev (fun k => laws_markHoleS.f k l a) (a + 3 * l.length, mholes l.length a) :=
  Ev.congr (f := fun k => laws_markHoleS.l0 k l a 0) (fun _ => rfl) (by simpa using markHoleS_l0 l [] a (by simpa using hl) h0 (by simpa using h1))

/-! the tracks in which two sheets differ -/
theorem sortedSet_ok (l : List Int) (h : l.length < 1000000000) : impl_sortedSet.f l = some (setOf l) := by
  rw [impl_sortedSet.f, if_pos h]; rfl
theorem tracksUsed_l0 (suf : List S60) : ∀ (pre : List S60) (out : List Int), (pre ++ suf).length ≤ 4000000 → out.length ≤ pre.length →
    Ev (fun k => impl_tracksUsed.l0 k out (pre ++ suf) ((pre ++ suf).length : Int) (pre.length : Int)) (setOf (out ++ suf.map (fun x => x.f0))) := by
  induction suf with
  | nil =>
    intro pre out hl ho
    simp only [List.append_nil] at hl
    refine ev_step (f := fun _ => some _) (Ev.now _) (fun k => ?_)
    rw [impl_tracksUsed.l0, if_neg (by simp), sortedSet_ok out (by omega)]
    simp
  | cons x suf ih =>
    intro pre out hl ho
    have hlp : pre.length + 1 ≤ 4000000 := by simp at hl; omega
    have hl' : (pre.length : Int) < ((pre ++ x :: suf).length : Int) := by simp; omega
    have hw : wrap64 ((pre.length : Int) + 1) = (pre.length : Int) + 1 := wrapS (by omega) (by omega)
    have h := ih (pre ++ [x]) (out ++ [x.f0]) (by simp at hl ⊢; omega) (by simp; omega)
    rw [snoc_app, snoc_leni] at h
    refine ev_step (ev_eq h (by simp)) (fun k => ?_)
    rw [impl_tracksUsed.l0, if_pos hl', if_pos (by omega), if_pos hl', if_pos (by omega), rdH_mid, hw]
theorem tracksUsed_ok (l : List S60) (h : l.length ≤ 4000000) : Ev (fun k => impl_tracksUsed.f k l) (setOf (l.map (fun x => x.f0))) :=
  Ev.congr (f := fun k => impl_tracksUsed.l0 k [] l (l.length : Int) 0) (fun _ => rfl) (by simpa using tracksUsed_l0 l [] [] (by simpa using h) (by simp))
theorem specTracks_l0 (suf : List S60) : ∀ (pre : List S60) (out : List Int), (pre ++ suf).length ≤ 4000000 → out.length ≤ pre.length →
    Ev (fun k => spec_ChangedTracks.l0 k out (pre ++ suf) ((pre ++ suf).length : Int) (pre.length : Int)) (putsS out (suf.map (fun x => x.f0)), true) := by
  induction suf with
  | nil =>
    intro pre out hl ho
    refine ev_step (f := fun _ => some _) (Ev.now _) (fun k => ?_)
    rw [spec_ChangedTracks.l0, if_neg (by simp)]; rfl
  | cons x suf ih =>
    intro pre out hl ho
    have hlp : pre.length + 1 ≤ 4000000 := by simp at hl; omega
    have hl' : (pre.length : Int) < ((pre ++ x :: suf).length : Int) := by simp; omega
    have hw : wrap64 ((pre.length : Int) + 1) = (pre.length : Int) + 1 := wrapS (by omega) (by omega)
    obtain ⟨K1, e1⟩ := l1Put_ok out x.f0 (by omega)
    have h := ih (pre ++ [x]) (putS out x.f0) (by simp at hl ⊢; omega) (by have := putS_len x.f0 out; simp; omega)
    rw [snoc_app, snoc_leni] at h
    obtain ⟨K2, e2⟩ := h
    dsimp only at e1 e2
    refine ⟨K1 + K2 + 1, fun k hk => ?_⟩
    obtain ⟨m, rfl⟩ : ∃ m, k = m + 1 := ⟨k - 1, by omega⟩
    dsimp only
    rw [spec_ChangedTracks.l0, if_pos hl', if_pos (by omega), if_pos hl', rdH_mid, e1 m (by omega)]
    simp only [Option.bind_some]
    rw [hw, e2 m (by omega)]; rfl
def changedR (a b : List S60) : List Int × Bool := if (good a && good b) = true then (setOf ((less a b ++ less b a).map (fun x => x.f0)), true) else ([], false)
theorem changedR_len (a b : List S60) (ha : a.length ≤ 1048576) (hb : b.length ≤ 1048576) : (changedR a b).1.length ≤ 4000000 := by
  have h1 := less_len a b
  have h2 := less_len b a
  have h3 := setOf_len ((less a b ++ less b a).map (fun x => x.f0))
  simp only [List.length_map, List.length_append] at h3
  unfold changedR
  by_cases c : (good a && good b) = true
  · rw [if_pos c]; simp only; omega
  · rw [if_neg c]; simp
theorem specChanged_ok (a b : List S60) (ha : a.length ≤ 1048576) (hb : b.length ≤ 1048576) : Ev (fun k => spec_ChangedTracks.f k a b) (changedR a b) := by
  refine Ev.bind (mgTwo_ok a b ha hb) ?_
  cases g : (good a && good b) with
  | false => exact ev_of_eq (fun _ => by simp only [changedR, g, Bool.false_eq_true, if_false])
  | true =>
    simp only [if_true]
    have h1 := less_len a b
    have h2 := less_len b a
    refine Ev.bind (mgLess_ok a b ha hb) (Ev.bind (mgLess_ok b a hb ha) ?_)
    have h := specTracks_l0 (less a b ++ less b a) [] [] (by simp; omega) (by simp)
    simp only [List.nil_append, List.length_nil, Int.natCast_zero] at h
    refine Ev.congr (fun k => ?_) (ev_eq h (by simp only [changedR, g, if_true, putsS_eq]))
    rw [if_pos (show (less a b).length + (less b a).length < 5864062014805 by omega)]
    simp only [Option.bind_some]
theorem implChanged_ok (a b : List S60) (ha : a.length ≤ 1048576) (hb : b.length ≤ 1048576) : Ev (fun k => impl_ChangedTracks.f k a b) (changedR a b) := by
  have h1 := less_len a b
  have h2 := less_len b a
  obtain ⟨K1, e1⟩ := isSheet_ok a (by omega)
  obtain ⟨K2, e2⟩ := isSheet_ok b (by omega)
  obtain ⟨K3, e3⟩ := tracksUsed_ok (less a b ++ less b a) (by simp; omega)
  dsimp only at e1 e2 e3
  refine ⟨K1 + K2 + K3 + 1, fun k hk => ?_⟩
  obtain ⟨m, rfl⟩ : ∃ m, k = m + 1 := ⟨k - 1, by omega⟩
  dsimp only
  rw [impl_ChangedTracks.f, e1 (m + 1) (by omega), e2 (m + 1) (by omega)]
  have hj : impl_ChangedTracks.j0 (m + 1) a b false = some (setOf ((less a b ++ less b a).map (fun x => x.f0)), true) := by
    rw [impl_ChangedTracks.j0, if_neg (by decide), lessHoles_ok a b ha, lessHoles_ok b a hb]
    simp only [Option.bind_some]
    rw [if_pos (by omega), e3 m (by omega)]
    simp only [Option.bind_some]
  have hj2 : impl_ChangedTracks.j0 (m + 1) a b true = some ([], false) := by
    rw [impl_ChangedTracks.j0, if_pos rfl]
  unfold changedR
  cases good a
  · simp only [Option.bind_some, Bool.false_and, Bool.false_eq_true, if_false]; exact hj2
  · cases good b
    · simp only [Option.bind_some, Bool.true_and, Bool.false_eq_true, if_false, if_true, Bool.not_false]; exact hj2
    · simp only [Option.bind_some, Bool.true_and, if_true, Bool.not_true]; exact hj
theorem FnExactChangedTracks (l p : List S64) (hb : l.length * 24 ≤ 140737488351232) (hw : ∀ y ∈ l, ((Lit.int .i64 y.f0).wf = true) ∧ ((Lit.int .i64 y.f1).wf = true) ∧ ((Lit.int .i64 y.f2).wf = true)) (hpb : p.length * 24 ≤ 140737488351232) (hpw : ∀ y ∈ p, ((Lit.int .i64 y.f0).wf = true) ∧ ((Lit.int .i64 y.f1).wf = true) ∧ ((Lit.int .i64 y.f2).wf = true)) : ∃ k, laws_FnExactChangedTracks.f k l p = some true := by
  have m1 : (-1 : Int) < 0 := by omega
  by_cases c : 1048576 < (l.length : Int)
  · exact ⟨0, by simp only [laws_FnExactChangedTracks.f, szHoleS_out l 1048576 (by omega) (by omega) c, Option.bind_some, m1, if_true]⟩
  have z0 := szHoleS_in l 1048576 (by omega) (by omega)
  have n0 : ¬ (1048576 - (l.length : Int)) < 0 := by omega
  by_cases d : 1048576 - (l.length : Int) < (p.length : Int)
  · exact ⟨0, by simp only [laws_FnExactChangedTracks.f, z0, n0, szHoleS_out p (1048576 - l.length) (by omega) (by omega) d, Option.bind_some, m1, if_true, if_false]⟩
  have z1 := szHoleS_in p (1048576 - l.length) (by omega) (by omega)
  have n1 : ¬ (1048576 - (l.length : Int) - (p.length : Int)) < 0 := by omega
  have hl : l.length ≤ 1048576 := by omega
  have hp : p.length ≤ 1048576 := by omega
  have hl2 : (l.map toH).length ≤ 1048576 := by simpa using hl
  have hp2 : (p.map toH).length ≤ 1048576 := by simpa using hp
  have hr := changedR_len (l.map toH) (p.map toH) hl2 hp2
  obtain ⟨K1, e1⟩ := toHoleS_copy l hl
  obtain ⟨K2, e2⟩ := toHoleS_copy p hp
  obtain ⟨K3, e3⟩ := specChanged_ok (l.map toH) (p.map toH) hl2 hp2
  obtain ⟨K4, e4⟩ := implChanged_ok (l.map toH) (p.map toH) hl2 hp2
  obtain ⟨K5, e5⟩ := eqHoleS_same (l.map toH) (by omega)
  obtain ⟨K6, e6⟩ := eqHoleS_same (p.map toH) (by omega)
  obtain ⟨K7, e7⟩ := eqIntS_same (changedR (l.map toH) (p.map toH)).1 (by omega)
  obtain ⟨K8, e8⟩ := markHoleS_all (l.map toH) 1 (by omega) (by omega) (by omega)
  obtain ⟨K9, e9⟩ := markHoleS_all (p.map toH) (1 + 3 * ((l.map toH).length : Int)) (by omega) (by omega) (by omega)
  obtain ⟨K10, e10⟩ := markIntS_marks (changedR (l.map toH) (p.map toH)).1 1 (by omega) (by omega) (by omega)
  obtain ⟨K11, e11⟩ := heldIntS_marked (changedR (l.map toH) (p.map toH)).1.length 1 (by omega) (by omega) (by omega)
  have n2 : ¬ (1 + 3 * ((l.map toH).length : Int) + 3 * ((p.map toH).length : Int)) < 0 := by omega
  have n3 : ¬ (1 + ((changedR (l.map toH) (p.map toH)).1.length : Int)) < 0 := by omega
  dsimp only at e1 e2 e3 e4 e5 e6 e7 e8 e9 e10 e11
  refine ⟨K1 + K2 + K3 + K4 + K5 + K6 + K7 + K8 + K9 + K10 + K11 + 6, ?_⟩
  simp (disch := omega) only [laws_FnExactChangedTracks.f, z0, z1, n0, n1, n2, n3, e1, e2, e3, e4, e5, e6, e7, e8, e9, e10, e11, if_false, if_true, Option.bind_some, bnot_ne, Bool.false_eq_true]
  simp (disch := omega) only [laws_FnExactChangedTracks.j0, z0, z1, n0, n1, n2, n3, e1, e2, e3, e4, e5, e6, e7, e8, e9, e10, e11, if_false, if_true, Option.bind_some, bnot_ne, Bool.false_eq_true]
  simp (disch := omega) only [laws_FnExactChangedTracks.j1, z0, z1, n0, n1, n2, n3, e1, e2, e3, e4, e5, e6, e7, e8, e9, e10, e11, if_false, if_true, Option.bind_some, bnot_ne, Bool.false_eq_true]
  simp (disch := omega) only [laws_FnExactChangedTracks.j2, z0, z1, n0, n1, n2, n3, e1, e2, e3, e4, e5, e6, e7, e8, e9, e10, e11, if_false, if_true, Option.bind_some, bnot_ne, Bool.false_eq_true]

end Go.Proofs.Ytnneeecgmdilfaa.LChangedTracks
