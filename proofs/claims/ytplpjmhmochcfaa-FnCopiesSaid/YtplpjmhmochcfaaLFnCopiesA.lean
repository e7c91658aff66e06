/- Plain lemmas on what the printed functions of this law compute; each with the conditions that it names. -/
import Derived.Test.YtplpjmhmochcfaaQFnCopiesx1
import Derived.Test.YtplpjmhmochcfaaQFnCopiesx2
import Derived.Test.YtplpjmhmochcfaaQFnCopiesx3
import Derived.Test.YtplpjmhmochcfaaQFnCopiesx4
import Derived.Test.YtplpjmhmochcfaaQFnCopiesx5
import Derived.Test.YtplpjmhmochcfaaQFnCopiesx6
import Derived.Test.YtplpjmhmochcfaaQFnCopiesx7
import Derived.Test.YtplpjmhmochcfaaQFnCopiesx8
import Derived.Test.YtplpjmhmochcfaaQFnCopiesx9
import Derived.Test.YtplpjmhmochcfaaQFnCopiesx10
import Derived.Test.YtplpjmhmochcfaaQFnCopiesx11
import Derived.Test.YtplpjmhmochcfaaQFnCopiesx12
import Derived.Test.YtplpjmhmochcfaaQFnCopiesx13
import Derived.Test.YtplpjmhmochcfaaQFnCopiesx14
import Derived.Test.YtplpjmhmochcfaaBaseC
import Derived.Laws.Bits64b
namespace Go.Proofs.Ytplpjmhmochcfaa.LFnCopiesA
open Go Go.RowKit Go.Proofs.Ytplpjmhmochcfaa.QFnCopies Go.Proofs.YtplpjmhmochcfaaW.PrintWords Go.Proofs.YtplpjmhmochcfaaW.PrintLast Go.Proofs.YtplpjmhmochcfaaW.PrintMore Go.Proofs.Ytplpjmhmochcfaa.Base
set_option linter.unusedVariables false
set_option linter.unusedSimpArgs false

/-! one hole: whether it is valid, its number -/
/-- A valid hole. -/
def holeOk (t a b : Int) : Bool := decide (0 ≤ t ∧ t ≤ 19 ∧ 0 ≤ a ∧ a ≤ 1999 ∧ a < b ∧ b ≤ 2000)

theorem shHole_ok (t a b : Int) : spec_shHole.f t a b = some (holeOk t a b) := by
  unfold spec_shHole.f spec_l1In.f holeOk
  by_cases h1 : 0 ≤ t
  · by_cases h2 : t ≤ 19
    · by_cases h3 : 0 ≤ a
      · by_cases h4 : a ≤ 1999
        · have hw : wrap64 (a + 1) = a + 1 := wrapS (by omega) (by omega)
          by_cases h5 : a + 1 ≤ b
          · simp [h1, h2, h3, h4, hw, h5, show a < b by omega]
          · simp [h1, h2, h3, h4, hw, h5, show ¬ a < b by omega]
        · simp [h1, h2, h3, h4]
      · simp [h1, h2, h3]
    · simp [h1, h2]
  · simp [h1]

theorem isHole_ok (t a b : Int) : impl_IsHole.f t a b = some (holeOk t a b) := by
  unfold impl_IsHole.f impl_isTrack.f holeOk
  by_cases h1 : 0 ≤ t
  · by_cases h2 : t < 20
    · by_cases h3 : 0 ≤ a
      · by_cases h4 : a < b
        · by_cases h5 : b ≤ 2000
          · simp [h1, h2, h3, h4, h5, show t ≤ 19 by omega, show a ≤ 1999 by omega]
          · simp [h1, h2, h3, h4, h5]
        · simp [h1, h2, h3, h4]
      · simp [h1, h2, h3]
    · simp [h1, h2, show ¬ t ≤ 19 by omega]
  · simp [h1]

theorem holeOk_bounds {t a b : Int} (h : holeOk t a b = true) : 0 ≤ t ∧ t ≤ 19 ∧ 0 ≤ a ∧ a ≤ 1999 ∧ a < b ∧ b ≤ 2000 := by
  simpa [holeOk] using h

/-! slices of holes: copied, held against each other; valid sheets -/
theorem rdH_mid (pre suf : List S42) (x : S42) : rd_T42 (pre ++ x :: suf) (pre.length : Int) = x := getD_mid _ _ _ _ _ (by simp)

/-- The hole x meets the earlier hole y. -/
def meets (x y : S42) : Bool := decide (x.f0 = y.f0 ∧ x.f1 ≤ y.f2)
def before (a b : S42) : Bool := decide (a.f1 < b.f1 ∨ (a.f1 = b.f1 ∧ a.f0 < b.f0))
def lastBefore (pre : List S42) (x : S42) : Bool := match pre.getLast? with | none => true | some p => before p x
def goodAt (pre : List S42) (x : S42) : Bool := holeOk x.f0 x.f1 x.f2 && (lastBefore pre x && !(pre.any (meets x)))
def goodFrom : List S42 → List S42 → Bool
  | _, [] => true
  | pre, x :: suf => goodAt pre x && goodFrom (pre ++ [x]) suf
/-- A valid sheet. -/
def good (l : List S42) : Bool := goodFrom [] l && decide (l.length ≤ 60)

theorem shBefore_ok (a b : S42) : spec_shBefore.f a.f0 a.f1 a.f2 b.f0 b.f1 b.f2 = some (before a b) := by
  unfold spec_shBefore.f before
  by_cases h : a.f1 < b.f1
  · simp [h]
  · by_cases h1 : a.f1 = b.f1
    · simp [h1]
    · simp [h, h1]
theorem holeLess_ok (a b : S42) : impl_holeLess.f a.f0 a.f1 a.f2 b.f0 b.f1 b.f2 = some (before a b) := by
  unfold impl_holeLess.f before
  by_cases h1 : a.f1 = b.f1
  · simp [h1]
  · simp [h1]

theorem shGood_l1 (x : S42) (l : List S42) (n i : Int) (r : Bool) (suf : List S42) : ∀ pre : List S42, (pre ++ suf).length ≤ 9223372036854775806 →
    (suf.any (meets x) = true → r = false) → (suf.any (meets x) = false → Ev (fun k => spec_shGood.l0 k l l n (wrap64 (i + 1))) r) →
    Ev (fun k => spec_shGood.l1 k l l n i (pre ++ suf) ((pre ++ suf).length : Int) (pre.length : Int) x.f0 x.f1 x.f2) r := by
  induction suf with
  | nil =>
    intro pre _ _ h
    refine ev_step (h rfl) (fun k => ?_)
    rw [spec_shGood.l1, if_neg (by simp)]
  | cons y suf ih =>
    intro pre hl h1 h2
    have hl' : (pre.length : Int) < ((pre ++ y :: suf).length : Int) := by simp; omega
    have hw : wrap64 ((pre.length : Int) + 1) = (pre.length : Int) + 1 := wrapS (by omega) (by simp at hl; omega)
    by_cases hm : meets x y = true
    · have e : r = false := h1 (by simp [hm])
      subst e
      simp only [meets, decide_eq_true_eq] at hm
      refine ev_step ev_const (fun k => ?_)
      rw [spec_shGood.l1, if_pos hl', if_pos (by omega), if_pos hl', rdH_mid, if_pos hm.1, if_pos hm.2]
    · replace hm : meets x y = false := by simpa using hm
      have h := ih (pre ++ [y]) (by simp at hl ⊢; omega) (fun e => h1 (by simp [e])) (fun e => h2 (by simp [hm, e]))
      rw [snoc_app, snoc_leni] at h
      simp only [meets, decide_eq_false_iff_not] at hm
      refine ev_step h (fun k => ?_)
      rw [spec_shGood.l1, if_pos hl', if_pos (by omega), if_pos hl', rdH_mid, hw]
      by_cases e : x.f0 = y.f0
      · rw [if_pos e, if_neg (fun e2 => hm ⟨e, e2⟩)]
      · rw [if_neg e]

theorem shGood_j1 (x : S42) (pre suf : List S42) (n : Int) (b r : Bool) (hl : (pre ++ suf).length ≤ 9223372036854775806) (hb : b = true → r = false) (h1 : b = false → pre.any (meets x) = true → r = false)
    (h2 : b = false → pre.any (meets x) = false → Ev (fun k => spec_shGood.l0 k (pre ++ suf) (pre ++ suf) n (wrap64 ((pre.length : Int) + 1))) r) :
    Ev (fun k => spec_shGood.j1 k (pre ++ suf) (pre.length : Int) (pre ++ suf) n (pre.length : Int) b x.f0 x.f1 x.f2) r := by
  cases b with
  | true =>
    obtain rfl := hb rfl
    refine ev_step ev_const (fun k => ?_)
    rw [spec_shGood.j1, if_pos rfl]
  | false =>
    have h := shGood_l1 x (pre ++ suf) n (pre.length : Int) r pre [] (by simp at hl ⊢; omega) (h1 rfl) (h2 rfl)
    refine ev_step h (fun k => ?_)
    rw [spec_shGood.j1, if_neg (by decide), if_pos (by omega), if_pos (by simp; omega)]
    simp

theorem shGood_l0 (suf : List S42) : ∀ pre : List S42, (pre ++ suf).length ≤ 9223372036854775806 →
    Ev (fun k => spec_shGood.l0 k (pre ++ suf) (pre ++ suf) ((pre ++ suf).length : Int) (pre.length : Int)) (goodFrom pre suf && decide ((pre ++ suf).length ≤ 60)) := by
  induction suf with
  | nil =>
    intro pre _
    refine ev_step (Ev.now _) (fun k => ?_)
    rw [spec_shGood.l0, if_neg (by simp)]
    simp [goodFrom]
    omega
  | cons x suf ih =>
    intro pre hl
    have h := ih (pre ++ [x]) (by simp at hl ⊢; omega)
    rw [snoc_app, snoc_leni] at h
    have hl' : (pre.length : Int) < ((pre ++ x :: suf).length : Int) := by simp; omega
    have hw : wrap64 ((pre.length : Int) + 1) = (pre.length : Int) + 1 := wrapS (by omega) (by simp at hl; omega)
    have J : ∀ b, (b = !(holeOk x.f0 x.f1 x.f2 && lastBefore pre x)) → Ev (fun k => spec_shGood.j1 k (pre ++ x :: suf) (pre.length : Int) (pre ++ x :: suf) ((pre ++ x :: suf).length : Int) (pre.length : Int) b x.f0 x.f1 x.f2) (goodFrom pre (x :: suf) && decide ((pre ++ x :: suf).length ≤ 60)) := by
      intro b hb
      refine shGood_j1 x pre (x :: suf) _ b _ hl (fun e => ?_) (fun e e2 => ?_) (fun e e2 => ?_)
      · simp only [goodFrom, goodAt]
        cases h1 : holeOk x.f0 x.f1 x.f2 <;> cases h2 : lastBefore pre x <;> simp_all
      · simp [goodFrom, goodAt, e2]
      · rw [hw]
        have e3 : goodFrom pre (x :: suf) = goodFrom (pre ++ [x]) suf := by
          simp only [goodFrom, goodAt, e2]
          cases h1 : holeOk x.f0 x.f1 x.f2 <;> cases h2 : lastBefore pre x <;> simp_all
        rw [e3]
        exact h
    cases ho : holeOk x.f0 x.f1 x.f2 with
    | false =>
      refine ev_step (J true (by simp [ho])) (fun k => ?_)
      rw [spec_shGood.l0, if_pos hl', if_pos (by omega), if_pos hl', rdH_mid, shHole_ok, ho]
      simp
    | true =>
      rcases List.eq_nil_or_concat pre with rfl | ⟨pre', p, rfl⟩
      · refine ev_step (J false (by simp [ho, lastBefore])) (fun k => ?_)
        rw [spec_shGood.l0, if_pos hl', if_pos (by omega), if_pos hl', rdH_mid, shHole_ok, ho]
        simp
      · refine ev_step (J (!(before p x)) (by simp [ho, lastBefore])) (fun k => ?_)
        have e1 : ((pre' ++ [p]).length : Int) = (pre'.length : Int) + 1 := by simp
        have hw2 : wrap64 (((pre' ++ [p]).length : Int) - 1) = (pre'.length : Int) := by
          rw [e1, wrapS (by omega) (by simp at hl; omega)]; omega
        have e2 : rd_T42 (pre' ++ [p] ++ x :: suf) (pre'.length : Int) = p := by
          rw [snoc_app]; exact rdH_mid _ _ _
        rw [spec_shGood.l0, if_pos hl', if_pos (by omega), if_pos hl', rdH_mid, shHole_ok, ho]
        simp only [List.concat_eq_append] at *
        simp only [Option.bind_some, if_true]
        rw [if_pos (by omega), hw2, if_pos (by omega), if_pos (by simp; omega), e2, shBefore_ok]
        simp only [Option.bind_some]

theorem shGood_ok (l : List S42) (h : l.length ≤ 9223372036854775806) : Ev (fun k => spec_shGood.f k l) (good l) :=
  Ev.congr (fun _ => rfl) (shGood_l0 l [] (by simpa using h))

theorem isSheet_l1 (x : S42) (l : List S42) (n i : Int) (r : Bool) (suf : List S42) : ∀ pre : List S42, (pre ++ suf).length ≤ 9223372036854775806 →
    (suf.any (meets x) = true → r = false) → (suf.any (meets x) = false → Ev (fun k => impl_IsSheet.l0 k l l n (wrap64 (i + 1))) r) →
    Ev (fun k => impl_IsSheet.l1 k l l n i (pre ++ suf) ((pre ++ suf).length : Int) (pre.length : Int) x.f0 x.f1 x.f2) r := by
  induction suf with
  | nil =>
    intro pre _ _ h
    refine ev_step (h rfl) (fun k => ?_)
    rw [impl_IsSheet.l1, if_neg (by simp)]
  | cons y suf ih =>
    intro pre hl h1 h2
    have hl' : (pre.length : Int) < ((pre ++ y :: suf).length : Int) := by simp; omega
    have hw : wrap64 ((pre.length : Int) + 1) = (pre.length : Int) + 1 := wrapS (by omega) (by simp at hl; omega)
    by_cases hm : meets x y = true
    · have e : r = false := h1 (by simp [hm])
      subst e
      simp only [meets, decide_eq_true_eq] at hm
      refine ev_step ev_const (fun k => ?_)
      rw [impl_IsSheet.l1, if_pos hl', if_pos (by omega), if_pos hl', rdH_mid, if_pos hm.1.symm, if_pos hm.2]
    · replace hm : meets x y = false := by simpa using hm
      have h := ih (pre ++ [y]) (by simp at hl ⊢; omega) (fun e => h1 (by simp [e])) (fun e => h2 (by simp [hm, e]))
      rw [snoc_app, snoc_leni] at h
      simp only [meets, decide_eq_false_iff_not] at hm
      refine ev_step h (fun k => ?_)
      rw [impl_IsSheet.l1, if_pos hl', if_pos (by omega), if_pos hl', rdH_mid, hw]
      by_cases e : x.f0 = y.f0
      · rw [if_pos e.symm, if_neg (fun e2 => hm ⟨e, e2⟩)]
      · rw [if_neg (fun e2 => e e2.symm)]

theorem isSheet_j1 (x : S42) (pre suf : List S42) (n : Int) (b r : Bool) (hl : (pre ++ suf).length ≤ 9223372036854775806) (hb : b = true → r = false) (h1 : b = false → pre.any (meets x) = true → r = false)
    (h2 : b = false → pre.any (meets x) = false → Ev (fun k => impl_IsSheet.l0 k (pre ++ suf) (pre ++ suf) n (wrap64 ((pre.length : Int) + 1))) r) :
    Ev (fun k => impl_IsSheet.j1 k (pre ++ suf) (pre.length : Int) (pre ++ suf) n (pre.length : Int) b x.f0 x.f1 x.f2) r := by
  cases b with
  | true =>
    obtain rfl := hb rfl
    refine ev_step ev_const (fun k => ?_)
    rw [impl_IsSheet.j1, if_pos rfl]
  | false =>
    have h := isSheet_l1 x (pre ++ suf) n (pre.length : Int) r pre [] (by simp at hl ⊢; omega) (h1 rfl) (h2 rfl)
    refine ev_step h (fun k => ?_)
    rw [impl_IsSheet.j1, if_neg (by decide), if_pos (by omega), if_pos (by simp; omega)]
    simp

theorem isSheet_l0 (suf : List S42) : ∀ pre : List S42, (pre ++ suf).length ≤ 9223372036854775806 →
    Ev (fun k => impl_IsSheet.l0 k (pre ++ suf) (pre ++ suf) ((pre ++ suf).length : Int) (pre.length : Int)) (goodFrom pre suf) := by
  induction suf with
  | nil =>
    intro pre _
    refine ev_step (Ev.now _) (fun k => ?_)
    rw [impl_IsSheet.l0, if_neg (by simp)]
    simp [goodFrom]
  | cons x suf ih =>
    intro pre hl
    have h := ih (pre ++ [x]) (by simp at hl ⊢; omega)
    rw [snoc_app, snoc_leni] at h
    have hl' : (pre.length : Int) < ((pre ++ x :: suf).length : Int) := by simp; omega
    have hw : wrap64 ((pre.length : Int) + 1) = (pre.length : Int) + 1 := wrapS (by omega) (by simp at hl; omega)
    have J : ∀ b, (b = !(holeOk x.f0 x.f1 x.f2 && lastBefore pre x)) → Ev (fun k => impl_IsSheet.j1 k (pre ++ x :: suf) (pre.length : Int) (pre ++ x :: suf) ((pre ++ x :: suf).length : Int) (pre.length : Int) b x.f0 x.f1 x.f2) (goodFrom pre (x :: suf)) := by
      intro b hb
      refine isSheet_j1 x pre (x :: suf) _ b _ hl (fun e => ?_) (fun e e2 => ?_) (fun e e2 => ?_)
      · simp only [goodFrom, goodAt]
        cases h1 : holeOk x.f0 x.f1 x.f2 <;> cases h2 : lastBefore pre x <;> simp_all
      · simp [goodFrom, goodAt, e2]
      · rw [hw]
        have e3 : goodFrom pre (x :: suf) = goodFrom (pre ++ [x]) suf := by
          simp only [goodFrom, goodAt, e2]
          cases h1 : holeOk x.f0 x.f1 x.f2 <;> cases h2 : lastBefore pre x <;> simp_all
        rw [e3]
        exact h
    cases ho : holeOk x.f0 x.f1 x.f2 with
    | false =>
      refine ev_step (J true (by simp [ho])) (fun k => ?_)
      rw [impl_IsSheet.l0, if_pos hl', if_pos (by omega), if_pos hl', rdH_mid, isHole_ok, ho]
      simp
    | true =>
      rcases List.eq_nil_or_concat pre with rfl | ⟨pre', p, rfl⟩
      · refine ev_step (J false (by simp [ho, lastBefore])) (fun k => ?_)
        rw [impl_IsSheet.l0, if_pos hl', if_pos (by omega), if_pos hl', rdH_mid, isHole_ok, ho]
        simp
      · refine ev_step (J (!(before p x)) (by simp [ho, lastBefore])) (fun k => ?_)
        have e1 : ((pre' ++ [p]).length : Int) = (pre'.length : Int) + 1 := by simp
        have hw2 : wrap64 (((pre' ++ [p]).length : Int) - 1) = (pre'.length : Int) := by
          rw [e1, wrapS (by omega) (by simp at hl; omega)]; omega
        have e2 : rd_T42 (pre' ++ [p] ++ x :: suf) (pre'.length : Int) = p := by
          rw [snoc_app]; exact rdH_mid _ _ _
        rw [impl_IsSheet.l0, if_pos hl', if_pos (by omega), if_pos hl', rdH_mid, isHole_ok, ho]
        simp only [List.concat_eq_append] at *
        simp only [Option.bind_some, if_true]
        rw [if_pos (by omega), hw2, if_pos (by omega), if_pos (by simp; omega), e2, holeLess_ok]
        simp only [Option.bind_some]

theorem isSheet_ok (l : List S42) (h : l.length ≤ 9223372036854775806) : Ev (fun k => impl_IsSheet.f k l) (good l) := by
  by_cases h6 : (l.length : Int) > 60
  · refine Ev.congr (f := fun _ => some (good l)) (fun k => ?_) ev_const
    rw [impl_IsSheet.f, if_pos h6]
    have : ¬ l.length ≤ 60 := by omega
    simp [good, this]
  · refine Ev.congr (fun k => ?_) (ev_eq (isSheet_l0 l [] (by simpa using h)) ?_)
    · rw [impl_IsSheet.f, if_neg h6]
      rfl
    · have : l.length ≤ 60 := by omega
      simp [good, this]

/-! holes that are in one slice and not in the other -/
def sameH (x y : S42) : Bool := x.f0 == y.f0 && (x.f1 == y.f1 && (x.f2 == y.f2))
def hasH (l : List S42) (x : S42) : Bool := l.any (sameH x)
def less (l b : List S42) : List S42 := l.filter fun x => !hasH b x
theorem sameH_eq (x y : S42) : sameH x y = true ↔ x = y := by
  obtain ⟨a, b, c⟩ := x
  obtain ⟨d, e, f⟩ := y
  simp [sameH]
theorem hasH_mem (l : List S42) (x : S42) : hasH l x = true ↔ x ∈ l := by
  simp only [hasH, List.any_eq_true]
  constructor
  · rintro ⟨y, hy, h⟩; rw [(sameH_eq x y).1 h]; exact hy
  · intro h; exact ⟨x, h, (sameH_eq x x).2 rfl⟩
theorem less_len (l b : List S42) : (less l b).length ≤ l.length := List.length_filter_le _ _

theorem lessHoles_ok (l b : List S42) (h : l.length ≤ 1048576) : impl_lessHoles.f l b = some (less l b) := by
  rw [impl_lessHoles.f, if_pos (by omega)]; rfl

def dist (a b : List S42) : Int := wrap64 (((less a b).length : Int) + ((less b a).length : Int))
theorem distanceOf_ok (a b : List S42) (ha : a.length ≤ 1048576) (hb : b.length ≤ 1048576) : impl_distanceOf.f a b = some (dist a b) := by
  rw [impl_distanceOf.f, lessHoles_ok a b ha, lessHoles_ok b a hb]; rfl

/-! checksums -/
def ck (s t a b : Int) : Int := Int.tmod (wrap64 (wrap64 (31 * s) + wrap64 (wrap64 (wrap64 (4004001 * t) + wrap64 (2001 * a)) + b))) 1000003
theorem ckExtend_ok (s t a b : Int) : spec_ckExtend.f s t a b = some (ck s t a b) := rfl
theorem extend_ok (s t a b : Int) : impl_extendChecksum.f s t a b = some (ck s t a b) := by
  simp only [impl_extendChecksum.f, impl_holeNumber.f, Option.bind_some, Int.mul_comm t, Int.mul_comm a]
  rfl
def sumOf : Int → List S42 → Int
  | s, [] => s
  | s, x :: l => sumOf (ck s x.f0 x.f1 x.f2) l

theorem ckSum_l0 (suf : List S42) : ∀ (pre : List S42) (s : Int), (pre ++ suf).length ≤ 9223372036854775806 →
    Ev (fun k => spec_ckSum.l0 k s (pre ++ suf) ((pre ++ suf).length : Int) (pre.length : Int)) (sumOf s suf) := by
  induction suf with
  | nil =>
    intro pre s _
    refine ev_step (Ev.now _) (fun k => ?_)
    rw [spec_ckSum.l0, if_neg (by simp)]
    rfl
  | cons x suf ih =>
    intro pre s hl
    have h := ih (pre ++ [x]) (ck s x.f0 x.f1 x.f2) (by simp at hl ⊢; omega)
    rw [snoc_app, snoc_leni] at h
    have hl' : (pre.length : Int) < ((pre ++ x :: suf).length : Int) := by simp; omega
    have hw : wrap64 ((pre.length : Int) + 1) = (pre.length : Int) + 1 := wrapS (by omega) (by simp at hl; omega)
    refine ev_step h (fun k => ?_)
    rw [spec_ckSum.l0, if_pos hl', if_pos (by omega), if_pos hl', rdH_mid, ckExtend_ok, hw]
    simp only [Option.bind_some]

theorem ckSum_ok (l : List S42) (h : l.length ≤ 9223372036854775806) : Ev (fun k => spec_ckSum.f k l) (sumOf 1 l) :=
  Ev.congr (fun _ => rfl) (ckSum_l0 l [] 1 (by simpa using h))

theorem checksumOf_l0 (suf : List S42) : ∀ (pre : List S42) (s : Int), (pre ++ suf).length ≤ 9223372036854775806 →
    Ev (fun k => impl_checksumOf.l0 k s (pre ++ suf) ((pre ++ suf).length : Int) (pre.length : Int)) (sumOf s suf) := by
  induction suf with
  | nil =>
    intro pre s _
    refine ev_step (Ev.now _) (fun k => ?_)
    rw [impl_checksumOf.l0, if_neg (by simp)]
    rfl
  | cons x suf ih =>
    intro pre s hl
    have h := ih (pre ++ [x]) (ck s x.f0 x.f1 x.f2) (by simp at hl ⊢; omega)
    rw [snoc_app, snoc_leni] at h
    have hl' : (pre.length : Int) < ((pre ++ x :: suf).length : Int) := by simp; omega
    have hw : wrap64 ((pre.length : Int) + 1) = (pre.length : Int) + 1 := wrapS (by omega) (by simp at hl; omega)
    refine ev_step h (fun k => ?_)
    rw [impl_checksumOf.l0, if_pos hl', if_pos (by omega), if_pos hl', rdH_mid, extend_ok, hw]
    simp only [Option.bind_some]

theorem checksumOf_ok (l : List S42) (h : l.length ≤ 9223372036854775806) : Ev (fun k => impl_checksumOf.f k l) (sumOf 1 l) :=
  Ev.congr (fun _ => rfl) (checksumOf_l0 l [] 1 (by simpa using h))

/-! holes put in order: insertion, for laws in which the program sorts no holes -/
theorem b_irrefl (x : S42) : before x x = false := by simp [before]
theorem b_trans (x y z : S42) (h1 : before x y = true) (h2 : before y z = true) : before x z = true := by
  simp only [before, decide_eq_true_eq] at *; omega
theorem b_ntrans (x y z : S42) (h1 : before x y = false) (h2 : before y z = false) : before x z = false := by
  simp only [before, decide_eq_false_iff_not] at *; omega
theorem b_asymm {x y : S42} (h : before x y = true) : before y x = false := by
  simp only [before, decide_eq_true_eq, decide_eq_false_iff_not] at *; omega
def is_Sorts (xs ys : List S42) : Prop := ys.Perm xs ∧ ys.Pairwise (fun a b => before b a = false)
theorem is_unique : ∀ (ys zs : List S42), ys.Perm zs → ys.Pairwise (fun a b => before b a = false) → zs.Pairwise (fun a b => before a b = true) → ys = zs
  | [], zs, p, _, _ => (List.Perm.nil_eq p)
  | y :: ys, [], p, _, _ => by simp at p
  | y :: ys, z :: zs, p, h1, h2 => by
    have e : y = z := by
      rcases List.mem_cons.1 (p.mem_iff.1 List.mem_cons_self) with e | hy
      · exact e
      · rcases List.mem_cons.1 (p.mem_iff.2 (List.mem_cons_self (a := z) (l := zs))) with e | hz
        · exact e.symm
        · have a1 := List.rel_of_pairwise_cons h2 hy
          have a2 := List.rel_of_pairwise_cons h1 hz
          rw [a1] at a2; cases a2
    subst e
    rw [is_unique ys zs (List.perm_cons y |>.1 p) (List.Pairwise.of_cons h1) (List.Pairwise.of_cons h2)]
def is_ins (x : S42) : List S42 → List S42
  | [] => [x]
  | y :: r => if before x y = true then x :: y :: r else y :: is_ins x r
def is_srt (l : List S42) : List S42 := l.foldl (fun out x => is_ins x out) []
theorem is_ins_perm (x : S42) : ∀ l : List S42, (is_ins x l).Perm (x :: l)
  | [] => List.Perm.refl _
  | y :: r => by
    rw [is_ins]
    by_cases c : before x y = true
    · rw [if_pos c]
    · rw [if_neg c]; exact ((is_ins_perm x r).cons y).trans (List.Perm.swap x y r)
theorem is_ins_sorted (x : S42) : ∀ l : List S42, l.Pairwise (fun a b => before b a = false) → (is_ins x l).Pairwise (fun a b => before b a = false)
  | [], _ => by simp [is_ins]
  | y :: r, h => by
    rw [is_ins]
    by_cases c : before x y = true
    · rw [if_pos c]
      refine List.Pairwise.cons ?_ h
      intro z hz
      rcases List.mem_cons.1 hz with rfl | hz
      · exact b_asymm c
      · cases e : before z x with
        | false => rfl
        | true => have := b_trans _ _ _ e c; rw [List.rel_of_pairwise_cons h hz] at this; cases this
    · rw [if_neg c]
      refine List.Pairwise.cons ?_ (is_ins_sorted x r (List.Pairwise.of_cons h))
      intro z hz
      rcases List.mem_cons.1 ((is_ins_perm x r).mem_iff.1 hz) with rfl | hz
      · simpa using c
      · exact List.rel_of_pairwise_cons h hz
theorem is_fold (l : List S42) : ∀ out : List S42, out.Pairwise (fun a b => before b a = false) → (l.foldl (fun out x => is_ins x out) out).Perm (out ++ l) ∧ (l.foldl (fun out x => is_ins x out) out).Pairwise (fun a b => before b a = false) := by
  induction l with
  | nil => intro out h; simpa using h
  | cons x l ih =>
    intro out h
    obtain ⟨h1, h2⟩ := ih (is_ins x out) (is_ins_sorted x out h)
    refine ⟨h1.trans (((is_ins_perm x out).append_right l).trans ?_), h2⟩
    exact List.perm_middle.symm
theorem is_srt_sorts (l : List S42) : is_Sorts l (is_srt l) := by
  have := is_fold l [] List.Pairwise.nil
  simpa [is_Sorts, is_srt] using this

/-! holes put in order -/
def srt (l : List S42) : List S42 := is_srt l
/-- The sheet of holes, if there is one. -/
def sortedR (l : List S42) : List S42 × Bool := if good (srt l) = true then (srt l, true) else ([], false)
theorem srt_perm (l : List S42) : (srt l).Perm l := (is_srt_sorts l).1
theorem srt_len (l : List S42) : (srt l).length = l.length := (srt_perm l).length_eq
theorem good_len (l : List S42) (h : good l = true) : l.length ≤ 60 := by
  simp only [good, Bool.and_eq_true, decide_eq_true_eq] at h; exact h.2
theorem ins_app (x : S42) (B : List S42) (hB : ∀ b ∈ B, before x b = true) : ∀ A : List S42, (∀ a ∈ A, before x a = false) → is_ins x (A ++ B) = A ++ x :: B
  | [], _ => by
    cases B with
    | nil => rfl
    | cons b B => rw [List.nil_append, is_ins, if_pos (show before x b = true from hB b List.mem_cons_self)]; rfl
  | a :: A, h => by
    rw [List.cons_append, is_ins, if_neg (by rw [show before x a = before x a from rfl, h a List.mem_cons_self]; decide), ins_app x B hB A (fun a ha => h a (List.mem_cons_of_mem _ ha))]; rfl
theorem shSorted_put (k : Nat) (x : S42) (A B l : List S42) (n i : Int) (hl : (A ++ B).length ≤ 4000000) :
    ((some (([] : List S42) : List S42)).bind fun y => (if 0 ≤ (A.length : Int) then (if (A.length : Int) ≤ ((A ++ B).length : Int) then ((some ((A ++ B).take ((A.length : Int)).toNat : List S42)).bind fun y1 => (if y.length + y1.length < 5864062014805 then ((some (y ++ y1 : List S42)).bind fun y2 => ((some (([(⟨x.f0, x.f1, x.f2⟩ : S42)] : List S42) : List S42)).bind fun y3 => (if y2.length + y3.length < 5864062014805 then ((some (y2 ++ y3 : List S42)).bind fun y4 => ((some ((A ++ B).drop ((A.length : Int)).toNat : List S42)).bind fun y5 => (if y4.length + y5.length < 5864062014805 then (spec_shSorted.l0 k (y4 ++ y5) l n (wrap64 (i + 1))) else (none)))) else (none)))) else (none))) else (none)) else (none)))
      = spec_shSorted.l0 k (A ++ x :: B) l n (wrap64 (i + 1)) := by
  have h1 : (A ++ B).take ((A.length : Int)).toNat = A := by simp
  have h2 : (A ++ B).drop ((A.length : Int)).toNat = B := by simp
  simp only [List.length_append] at hl
  simp only [Option.bind_some, h1, h2]
  rw [if_pos (by omega), if_pos (by rw [List.length_append]; omega), if_pos (by simp; omega), if_pos (by simp; omega), if_pos (by simp; omega)]
  simp
theorem shSorted_l1 (x : S42) (l : List S42) (n i : Int) (r : List S42 × Bool) (R : List S42) : ∀ B : List S42, (R.reverse ++ B).length ≤ 4000000 → (∀ b ∈ B, before x b = true) → (R.reverse ++ B).Pairwise (fun a b => before b a = false) →
    Ev (fun k => spec_shSorted.l0 k (is_ins x (R.reverse ++ B)) l n (wrap64 (i + 1))) r →
    Ev (fun k => spec_shSorted.l1 k (R.reverse ++ B) (R.length : Int) l n i x.f0 x.f1 x.f2) r := by
  induction R with
  | nil =>
    intro B hl hB hs h
    rw [ins_app x B hB ([] : List S42).reverse (by simp)] at h
    refine ev_step h (fun k => ?_)
    have e := shSorted_put k x ([] : List S42).reverse B l n i hl
    rw [spec_shSorted.l1, if_neg (by simp)]
    exact e
  | cons a R ih =>
    intro B hl hB hs h
    have hlr : (a :: R).reverse.length = R.length + 1 := by simp
    have hl2 := hl
    simp only [List.length_append] at hl2
    have e0 : (a :: R).reverse ++ B = R.reverse ++ a :: B := by simp
    have hw : wrap64 ((((a :: R).length : Nat) : Int) - 1) = (R.length : Int) := by
      show wrap64 (((R.length + 1 : Nat) : Int) - 1) = _
      rw [wrapS (by omega) (by omega)]; omega
    have e1 : rd_T42 ((a :: R).reverse ++ B) (R.length : Int) = a := by
      have := rdH_mid R.reverse B a
      rw [List.length_reverse] at this
      rw [e0]; exact this
    cases c : before x a with
    | true =>
      have h2 := ih (a :: B) (by rw [← e0]; exact hl) (fun b hb => (List.mem_cons.1 hb).elim (fun e => by rw [e]; exact c) (hB b)) (by rw [← e0]; exact hs) (by rw [← e0]; exact h)
      refine ev_step h2 (fun k => ?_)
      rw [spec_shSorted.l1, if_pos (by simp), hw, if_pos (by omega), if_pos (by simp; omega), e1, shBefore_ok, c]
      simp only [Option.bind_some, if_true]
      rw [e0]
    | false =>
      have hA : ∀ y ∈ (a :: R).reverse, before x y = false := by
        intro y hy
        rw [List.reverse_cons, List.mem_append, List.mem_singleton] at hy
        rcases hy with hy | rfl
        · have h3 : before a y = false := by
            rw [e0] at hs
            exact (List.pairwise_append.1 hs).2.2 y hy a List.mem_cons_self
          exact b_ntrans x a y c h3
        · exact c
      rw [ins_app x B hB _ hA] at h
      refine ev_step h (fun k => ?_)
      have e := shSorted_put k x (a :: R).reverse B l n i hl
      rw [List.length_reverse] at e
      rw [spec_shSorted.l1, if_pos (by simp), hw, if_pos (by omega), if_pos (by simp; omega), e1, shBefore_ok, c]
      simp only [Option.bind_some, Bool.false_eq_true, if_false] at e ⊢
      exact e
theorem ins_len (x : S42) (l : List S42) : (is_ins x l).length = l.length + 1 := by
  rw [(is_ins_perm x l).length_eq]; rfl
theorem shSorted_l0 (suf : List S42) : ∀ (pre out : List S42), (pre ++ suf).length ≤ 4000000 → out.length = pre.length → out.Pairwise (fun a b => before b a = false) →
    Ev (fun k => spec_shSorted.l0 k out (pre ++ suf) ((pre ++ suf).length : Int) (pre.length : Int)) (if good (suf.foldl (fun o x => is_ins x o) out) = true then (suf.foldl (fun o x => is_ins x o) out, true) else ([], false)) := by
  induction suf with
  | nil =>
    intro pre out hl ho hs
    have hp : pre.length ≤ 4000000 := by simpa using hl
    obtain ⟨K, e⟩ := shGood_ok out (by omega)
    refine ⟨K + 1, fun k hk => ?_⟩
    obtain ⟨m, rfl⟩ : ∃ m, k = m + 1 := ⟨k - 1, by omega⟩
    have e1 := e m (by omega)
    dsimp only at e1 ⊢
    rw [spec_shSorted.l0, if_neg (by simp), e1]
    show (if good out = true then some (out, true) else some ([], false)) = some (if good out = true then (out, true) else ([], false))
    cases good out <;> rfl
  | cons x suf ih =>
    intro pre out hl ho hs
    have hlp : pre.length + 1 ≤ 4000000 := by simp at hl; omega
    have hl' : (pre.length : Int) < ((pre ++ x :: suf).length : Int) := by simp; omega
    have hw : wrap64 ((pre.length : Int) + 1) = (pre.length : Int) + 1 := wrapS (by omega) (by omega)
    have h := ih (pre ++ [x]) (is_ins x out) (by simp at hl ⊢; omega) (by rw [ins_len]; simp; omega) (is_ins_sorted x out hs)
    rw [snoc_app, snoc_leni, ← hw] at h
    have h2 := shSorted_l1 x (pre ++ x :: suf) ((pre ++ x :: suf).length : Int) (pre.length : Int) _ out.reverse [] (by simp; omega) (by simp) (by simpa using hs) (by simpa using h)
    simp only [List.reverse_reverse, List.append_nil, List.length_reverse] at h2
    refine ev_step h2 (fun k => ?_)
    rw [spec_shSorted.l0, if_pos hl', if_pos (by omega), if_pos hl', rdH_mid]
theorem shSorted_ok (l : List S42) (h : l.length ≤ 4000000) : Ev (fun k => spec_shSorted.f k l) (sortedR l) :=
  Ev.congr (f := fun k => spec_shSorted.l0 k [] l (l.length : Int) 0) (fun _ => rfl) (shSorted_l0 l [] [] (by simpa using h) rfl List.Pairwise.nil)
theorem sortedR_len (l : List S42) : (sortedR l).1.length ≤ 60 := by
  unfold sortedR
  by_cases c : good (srt l) = true
  · rw [if_pos c]; exact good_len _ c
  · rw [if_neg c]; simp
theorem shWith_ok (l : List S42) (x : S42) (h : l.length ≤ 60) : Ev (fun k => spec_shWith.f k l x.f0 x.f1 x.f2) (sortedR (l ++ [x])) := by
  obtain ⟨K, e⟩ := shSorted_ok (l ++ [x]) (by simp; omega)
  refine ⟨K, fun k hk => ?_⟩
  have f := e k hk
  dsimp only at f ⊢
  have m1 : (([] : List S42).length + l.length) < 5864062014805 := by simp; omega
  have m2 : (([] ++ l : List S42).length + ([(⟨x.f0, x.f1, x.f2⟩ : S42)] : List S42).length) < 5864062014805 := by simp; omega
  rw [spec_shWith.f]
  simp only [Option.bind_some, m1, m2, if_true]
  rw [List.nil_append, show (l ++ [(⟨x.f0, x.f1, x.f2⟩ : S42)]) = l ++ [x] from rfl, f]
  rfl

/-! sheets, said pair by pair; holes of a sheet are a sheet -/
def okR (y x : S42) : Prop := before y x = true ∧ meets x y = false
theorem before_trans (a b c : S42) (h1 : before a b = true) (h2 : before b c = true) : before a c = true := b_trans a b c h1 h2
theorem goodFrom_iff (suf : List S42) : ∀ pre : List S42, pre.Pairwise okR → (goodFrom pre suf = true ↔ (∀ x ∈ suf, holeOk x.f0 x.f1 x.f2 = true) ∧ (pre ++ suf).Pairwise okR) := by
  induction suf with
  | nil => intro pre hp; simp [goodFrom, hp]
  | cons x suf ih =>
    intro pre hp
    have key : (lastBefore pre x && !(pre.any (meets x))) = true ↔ ∀ y ∈ pre, okR y x := by
      rw [Bool.and_eq_true]
      constructor
      · rintro ⟨h1, h2⟩ y hy
        have h3 : meets x y = false := by
          rw [Bool.not_eq_true', List.any_eq_false] at h2
          simpa using h2 y hy
        refine ⟨?_, h3⟩
        rcases List.eq_nil_or_concat pre with rfl | ⟨pre', p, rfl⟩
        · cases hy
        · rw [List.concat_eq_append] at h1 hy hp
          simp only [lastBefore, List.getLast?_append, List.getLast?_singleton, Option.or] at h1
          rcases List.mem_append.1 hy with hy | hy
          · exact before_trans _ _ _ ((List.pairwise_append.1 hp).2.2 y hy p (by simp)).1 h1
          · rw [List.mem_singleton.1 hy]; exact h1
      · intro h
        refine ⟨?_, ?_⟩
        · rcases List.eq_nil_or_concat pre with rfl | ⟨pre', p, rfl⟩
          · rfl
          · rw [List.concat_eq_append] at h ⊢
            simp only [lastBefore, List.getLast?_append, List.getLast?_singleton, Option.or]
            exact (h p (by simp)).1
        · rw [Bool.not_eq_true', List.any_eq_false]
          intro y hy
          rw [(h y hy).2]; decide
    rw [goodFrom, Bool.and_eq_true, goodAt, Bool.and_eq_true, key]
    constructor
    · rintro ⟨⟨h1, h2⟩, h3⟩
      have hp2 : (pre ++ [x]).Pairwise okR := List.pairwise_append.2 ⟨hp, by simp, fun y hy z hz => by rw [List.mem_singleton.1 hz]; exact h2 y hy⟩
      obtain ⟨h4, h5⟩ := (ih (pre ++ [x]) hp2).1 h3
      refine ⟨fun z hz => ?_, by rw [snoc_app] at h5; exact h5⟩
      rcases List.mem_cons.1 hz with rfl | hz
      · exact h1
      · exact h4 z hz
    · rintro ⟨h1, h2⟩
      rw [← snoc_app] at h2
      have hp2 := (List.pairwise_append.1 h2).1
      refine ⟨⟨h1 x List.mem_cons_self, fun y hy => (List.pairwise_append.1 hp2).2.2 y hy x (by simp)⟩, (ih (pre ++ [x]) hp2).2 ⟨fun z hz => h1 z (List.mem_cons_of_mem _ hz), h2⟩⟩
theorem good_iff (l : List S42) : good l = true ↔ (∀ x ∈ l, holeOk x.f0 x.f1 x.f2 = true) ∧ l.Pairwise okR ∧ l.length ≤ 60 := by
  rw [good, Bool.and_eq_true, goodFrom_iff l [] List.Pairwise.nil, decide_eq_true_eq, List.nil_append, and_assoc]
theorem pair_two {R : S42 → S42 → Prop} : ∀ (l : List S42), l.Pairwise R → ∀ u ∈ l, ∀ v ∈ l, u = v ∨ R u v ∨ R v u
  | [], _, u, hu, _, _ => by cases hu
  | x :: l, h, u, hu, v, hv => by
    have hx := fun z hz => List.rel_of_pairwise_cons h (a' := z) hz
    rcases List.mem_cons.1 hu with e1 | h1
    · rcases List.mem_cons.1 hv with e2 | h2
      · exact .inl (e1.trans e2.symm)
      · exact .inr (.inl (by rw [e1]; exact hx v h2))
    · rcases List.mem_cons.1 hv with e2 | h2
      · exact .inr (.inr (by rw [e2]; exact hx u h1))
      · exact pair_two l (List.Pairwise.of_cons h) u h1 v h2
theorem nodup_len : ∀ (c a : List S42), c.Nodup → (∀ x ∈ c, x ∈ a) → c.length ≤ a.length
  | [], _, _, _ => Nat.zero_le _
  | x :: c, a, hn, hs => by
    have hx := hs x List.mem_cons_self
    obtain ⟨s, t, rfl⟩ := List.append_of_mem hx
    have h := nodup_len c (s ++ t) (List.nodup_cons.1 hn).2 (fun y hy => by
      have h1 := hs y (List.mem_cons_of_mem _ hy)
      rcases List.mem_append.1 h1 with h1 | h1
      · exact List.mem_append.2 (.inl h1)
      · rcases List.mem_cons.1 h1 with rfl | h1
        · exact absurd hy (List.nodup_cons.1 hn).1
        · exact List.mem_append.2 (.inr h1))
    simp only [List.length_append, List.length_cons] at h ⊢
    omega
theorem good_nodup (a : List S42) (h : good a = true) : a.Nodup := by
  have := ((good_iff a).1 h).2.1
  exact this.imp (fun {y x} hr e => by subst e; have := hr.1; rw [show before y y = false from b_irrefl y] at this; cases this)
/-- Holes of a sheet, each once, put in order, are a sheet. -/
theorem good_sub (a c : List S42) (h : good a = true) (hn : c.Nodup) (hs : ∀ x ∈ c, x ∈ a) : good (srt c) = true := by
  obtain ⟨h1, h2, h3⟩ := (good_iff a).1 h
  have hp := srt_perm c
  have ho : (srt c).Pairwise (fun y x => before x y = false) := (is_srt_sorts c).2
  have hN : (srt c).Nodup := hp.nodup_iff.2 hn
  refine (good_iff _).2 ⟨fun x hx => h1 x (hs x (hp.mem_iff.1 hx)), ?_, by rw [srt_len]; exact Nat.le_trans (nodup_len c a hn hs) h3⟩
  refine List.Pairwise.imp_of_mem ?_ (List.Pairwise.and ho hN)
  intro y x hy hx hr
  rcases pair_two a h2 y (hs y (hp.mem_iff.1 hy)) x (hs x (hp.mem_iff.1 hx)) with e | e | e
  · exact absurd e hr.2
  · exact e
  · have := e.1; rw [hr.1] at this; cases this
/-- What is a sheet's holes in another order, put in order, is the sheet. -/
theorem srt_of_perm (a c : List S42) (h : good a = true) (hp : c.Perm a) : srt c = a :=
  is_unique (srt c) a ((srt_perm c).trans hp) (is_srt_sorts c).2 (((good_iff a).1 h).2.1.imp (fun hr => hr.1))
theorem less_nodup (a b : List S42) (h : a.Nodup) : (less a b).Nodup := h.filter _
theorem mem_less (a b : List S42) (x : S42) : x ∈ less a b ↔ x ∈ a ∧ x ∉ b := by
  rw [less, List.mem_filter, Bool.not_eq_true', ← Bool.not_eq_true, hasH_mem]

/-! checksums of sheets -/
theorem ckIs_ok (s : Int) : spec_ckIs.f s = impl_isChecksum.f s := by
  unfold spec_ckIs.f spec_l1In.f impl_isChecksum.f
  by_cases h : 0 ≤ s
  · by_cases h1 : s < 1000003
    · simp [h, h1, show s ≤ 1000002 by omega]
    · simp [h, h1, show ¬ s ≤ 1000002 by omega]
  · simp [h]
theorem isCk_some (s : Int) : ∃ b, impl_isChecksum.f s = some b := by
  unfold impl_isChecksum.f; split <;> exact ⟨_, rfl⟩
theorem implChecksumOf_ok (l : List S42) (h : l.length ≤ 9223372036854775806) : Ev (fun k => impl_ChecksumOf.f k l) (if good l = true then (sumOf 1 l, true) else (0, false)) := by
  refine Ev.bind (isSheet_ok l h) ?_
  by_cases g : good l = true
  · simp only [g, if_true]
    exact Ev.bind (checksumOf_ok l h) ev_const
  · simp only [g, if_false]
    exact ev_const

theorem rdHH_mid (pre suf : List (List S42)) (x : List S42) : rd_L3 (pre ++ x :: suf) (pre.length : Int) = x := getD_mid _ _ _ _ _ (by simp)

theorem areSheets_l0 (l : List (List S42)) (n : Int) (suf : List (List S42)) : ∀ pre : List (List S42), (pre ++ suf).length ≤ 1048576 → (∀ x ∈ suf, x.length ≤ 1048576) →
    Ev (fun k => impl_areSheets.l0 k l n (pre ++ suf) ((pre ++ suf).length : Int) (pre.length : Int)) (suf.all good && decide (1 ≤ (l.length : Int) ∧ (l.length : Int) ≤ n)) := by
  induction suf with
  | nil =>
    intro pre _ _
    refine ev_step (f := fun _ => some _) (Ev.now _) (fun k => ?_)
    rw [impl_areSheets.l0, if_neg (by simp)]
    by_cases c : (l.length : Int) ≥ 1
    · rw [if_pos c]; congr 1; simp only [List.all_nil, Bool.true_and]; exact decide_eq_decide.2 ⟨fun q => ⟨c, q⟩, fun q => q.2⟩
    · rw [if_neg c]; congr 1; simp only [List.all_nil, Bool.true_and]; exact (decide_eq_false (fun q => c q.1)).symm
  | cons x suf ih =>
    intro pre hl hx
    have hlp : pre.length ≤ 1048576 := by simp at hl; omega
    have h := ih (pre ++ [x]) (by simp at hl ⊢; omega) (fun y hy => hx y (List.mem_cons_of_mem _ hy))
    rw [snoc_app, snoc_leni] at h
    have hl' : (pre.length : Int) < ((pre ++ x :: suf).length : Int) := by simp; omega
    have hw : wrap64 ((pre.length : Int) + 1) = (pre.length : Int) + 1 := wrapS (by omega) (by omega)
    obtain ⟨K1, e1⟩ := isSheet_ok x (by have := hx x List.mem_cons_self; omega)
    obtain ⟨K2, e2⟩ := h
    dsimp only at e1 e2
    refine ⟨K1 + K2 + 1, fun k hk => ?_⟩
    obtain ⟨m, rfl⟩ : ∃ m, k = m + 1 := ⟨k - 1, by omega⟩
    dsimp only
    rw [impl_areSheets.l0, if_pos hl', if_pos (by omega), if_pos hl', rdHH_mid, e1 m (by omega)]
    simp only [Option.bind_some]
    rw [hw, e2 m (by omega)]
    cases g : good x <;> simp [g]
theorem areSheets_ok (l : List (List S42)) (n : Int) (hl : l.length ≤ 1048576) (hx : ∀ x ∈ l, x.length ≤ 1048576) : Ev (fun k => impl_areSheets.f k l n) (l.all good && decide (1 ≤ (l.length : Int) ∧ (l.length : Int) ≤ n)) :=
  Ev.congr (f := fun k => impl_areSheets.l0 k l n l (l.length : Int) 0) (fun _ => rfl) (areSheets_l0 l n l [] (by simpa using hl) hx)

/-! the copies that agree -/
def idxOf (v : Int) : List Int → Int → List Int
  | [], _ => []
  | x :: r, j => if x = v then j :: idxOf v r (j + 1) else idxOf v r (j + 1)
theorem idxOf_len (v : Int) (l : List Int) : ∀ j, (idxOf v l j).length ≤ l.length := by
  induction l with
  | nil => intro j; simp [idxOf]
  | cons x l ih =>
    intro j
    have := ih (j + 1)
    rw [idxOf]
    by_cases c : x = v
    · rw [if_pos c]; simp; omega
    · rw [if_neg c]; simp; omega
def better (a b : List Int) : List Int := if (a.length : Int) > (b.length : Int) then a else b
def bestOf (all : List Int) : List Int → List Int → List Int
  | acc, [] => acc
  | acc, v :: r => bestOf all (better (idxOf v all 0) acc) r
theorem bestOf_len (all : List Int) (r : List Int) : ∀ acc, acc.length ≤ all.length → (bestOf all acc r).length ≤ all.length := by
  induction r with
  | nil => intro acc h; exact h
  | cons v r ih =>
    intro acc h
    refine ih _ ?_
    unfold better
    by_cases c : ((idxOf v all 0).length : Int) > (acc.length : Int)
    · rw [if_pos c]; exact idxOf_len v all 0
    · rw [if_neg c]; exact h
theorem specAgree_l2 (all : List Int) (acc : List Int) (v : Int) (n : Int) (i : Nat) (hi : i + 1 ≤ 100) (R : List Int × Bool) (suf : List Int) : ∀ (pre own : List Int), (pre ++ suf).length ≤ 100 → own.length ≤ pre.length → all = pre ++ suf →
    Ev (fun k => spec_AgreeingCopies.l1 k all (better (own ++ idxOf v suf (pre.length : Int)) acc) all n ((i : Int) + 1)) R →
    Ev (fun k => spec_AgreeingCopies.l2 k all acc v own all n (i : Int) (pre ++ suf) ((pre ++ suf).length : Int) (pre.length : Int)) R := by
  induction suf with
  | nil =>
    intro pre own hl ho ha h
    have hw : wrap64 ((i : Int) + 1) = (i : Int) + 1 := wrapS (by omega) (by omega)
    rw [idxOf, List.append_nil] at h
    refine ev_step h (fun k => ?_)
    rw [spec_AgreeingCopies.l2, if_neg (by simp), hw]
    unfold better
    by_cases c : (own.length : Int) > (acc.length : Int)
    · rw [if_pos c, if_pos c]
    · rw [if_neg c, if_neg c]
  | cons x suf ih =>
    intro pre own hl ho ha h
    have hlp : pre.length + 1 ≤ 100 := by simp at hl; omega
    have hl' : (pre.length : Int) < ((pre ++ x :: suf).length : Int) := by simp; omega
    have hw : wrap64 ((pre.length : Int) + 1) = (pre.length : Int) + 1 := wrapS (by omega) (by omega)
    rw [idxOf] at h
    by_cases c : x = v
    · rw [if_pos c] at h
      have h2 := ih (pre ++ [x]) (own ++ [(pre.length : Int)]) (by simp at hl ⊢; omega) (by simp; omega) (by rw [snoc_app]; exact ha) (by rw [snoc_leni, List.append_assoc]; exact h)
      rw [snoc_app, snoc_leni] at h2
      refine ev_step h2 (fun k => ?_)
      rw [spec_AgreeingCopies.l2, if_pos hl', if_pos (by omega), if_pos hl', rd_mid, if_pos c, if_pos (by omega), hw]
    · rw [if_neg c] at h
      have h2 := ih (pre ++ [x]) own (by simp at hl ⊢; omega) (by simp; omega) (by rw [snoc_app]; exact ha) (by rw [snoc_leni]; exact h)
      rw [snoc_app, snoc_leni] at h2
      refine ev_step h2 (fun k => ?_)
      rw [spec_AgreeingCopies.l2, if_pos hl', if_pos (by omega), if_pos hl', rd_mid, if_neg c, hw]
theorem specAgree_l1 (all : List Int) (suf : List Int) : ∀ (pre acc : List Int), (pre ++ suf).length ≤ 90 → all = pre ++ suf →
    Ev (fun k => spec_AgreeingCopies.l1 k all acc (pre ++ suf) ((pre ++ suf).length : Int) (pre.length : Int)) (bestOf all acc suf, true) := by
  induction suf with
  | nil =>
    intro pre acc hl ha
    refine ev_step (f := fun _ => some _) (Ev.now _) (fun k => ?_)
    rw [spec_AgreeingCopies.l1, if_neg (by simp)]; rfl
  | cons v suf ih =>
    intro pre acc hl ha
    have hlp : pre.length + 1 ≤ 90 := by simp at hl; omega
    have hl' : (pre.length : Int) < ((pre ++ v :: suf).length : Int) := by simp; omega
    have h := ih (pre ++ [v]) (better (idxOf v all 0) acc) (by simp at hl ⊢; omega) (by rw [snoc_app]; exact ha)
    rw [snoc_app, snoc_leni, ← ha] at h
    have h2 := specAgree_l2 all acc v (all.length : Int) pre.length (by omega) _ all [] [] (by rw [ha]; simp at hl ⊢; omega) (by simp) (by simp) (by simpa using h)
    simp only [List.nil_append, List.length_nil, Int.natCast_zero] at h2
    refine ev_step (ev_eq h2 (by rw [bestOf])) (fun k => ?_)
    rw [spec_AgreeingCopies.l1, if_pos hl', if_pos (by omega), if_pos hl', rd_mid, ← ha]
def sumsOf (l : List (List S42)) : List Int := l.map (fun x => sumOf 1 x)
theorem specAgree_l0 (l : List (List S42)) (suf : List (List S42)) : ∀ (pre : List (List S42)) (out : List Int), (pre ++ suf).length ≤ 9 → out.length = pre.length → (∀ x ∈ suf, x.length ≤ 1048576) →
    Ev (fun k => spec_AgreeingCopies.l0 k out (pre ++ suf) ((pre ++ suf).length : Int) (pre.length : Int)) (if suf.all good = true then (bestOf (out ++ sumsOf suf) [] (out ++ sumsOf suf), true) else ([], false)) := by
  induction suf with
  | nil =>
    intro pre out hl ho hx
    simp only [List.append_nil] at hl
    have h := specAgree_l1 out out [] [] (by simp; omega) (by simp)
    simp only [List.nil_append, List.length_nil, Int.natCast_zero] at h
    refine ev_step (ev_eq h (by simp [sumsOf])) (fun k => ?_)
    rw [spec_AgreeingCopies.l0, if_neg (by simp)]
  | cons x suf ih =>
    intro pre out hl ho hx
    have hlp : pre.length + 1 ≤ 9 := by simp at hl; omega
    have hl' : (pre.length : Int) < ((pre ++ x :: suf).length : Int) := by simp; omega
    have hw : wrap64 ((pre.length : Int) + 1) = (pre.length : Int) + 1 := wrapS (by omega) (by omega)
    have hxl := hx x List.mem_cons_self
    obtain ⟨K1, e1⟩ := shGood_ok x (by omega)
    obtain ⟨K2, e2⟩ := ckSum_ok x (by omega)
    have h := ih (pre ++ [x]) (out ++ [sumOf 1 x]) (by simp at hl ⊢; omega) (by simp [ho]) (fun y hy => hx y (List.mem_cons_of_mem _ hy))
    rw [snoc_app, snoc_leni] at h
    obtain ⟨K3, e3⟩ := h
    dsimp only at e1 e2 e3
    refine ⟨K1 + K2 + K3 + 1, fun k hk => ?_⟩
    obtain ⟨m, rfl⟩ : ∃ m, k = m + 1 := ⟨k - 1, by omega⟩
    dsimp only
    rw [spec_AgreeingCopies.l0, if_pos hl', if_pos (by omega), if_pos hl', rdHH_mid, e1 m (by omega)]
    simp only [Option.bind_some]
    cases g : good x with
    | false => simp [g]
    | true =>
      simp only [if_true]
      rw [e2 m (by omega)]
      simp only [Option.bind_some]
      rw [if_pos (by omega), hw, e3 m (by omega)]
      simp [g, sumsOf]
theorem implAgree_l1 (l : List (List S42)) (hlx : ∀ x ∈ l, x.length ≤ 1048576) (acc : List Int) (y : List S42) (hy : y.length ≤ 1048576) (n : Int) (i : Nat) (hi : i + 1 ≤ 100) (R : List Int × Bool) (suf : List (List S42)) : ∀ (pre : List (List S42)) (own : List Int), (pre ++ suf).length ≤ 100 → own.length ≤ pre.length → l = pre ++ suf →
    Ev (fun k => impl_AgreeingCopies.l0 k l (better (own ++ idxOf (sumOf 1 y) (sumsOf suf) (pre.length : Int)) acc) l n ((i : Int) + 1)) R →
    Ev (fun k => impl_AgreeingCopies.l1 k l acc y own l n (i : Int) (pre ++ suf) ((pre ++ suf).length : Int) (pre.length : Int)) R := by
  induction suf with
  | nil =>
    intro pre own hl ho ha h
    have hw : wrap64 ((i : Int) + 1) = (i : Int) + 1 := wrapS (by omega) (by omega)
    rw [sumsOf, List.map_nil, idxOf, List.append_nil] at h
    refine ev_step h (fun k => ?_)
    rw [impl_AgreeingCopies.l1, if_neg (by simp), hw]
    unfold better
    by_cases c : (own.length : Int) > (acc.length : Int)
    · rw [if_pos c, if_pos c]
    · rw [if_neg c, if_neg c]
  | cons x suf ih =>
    intro pre own hl ho ha h
    have hlp : pre.length + 1 ≤ 100 := by simp at hl; omega
    have hl' : (pre.length : Int) < ((pre ++ x :: suf).length : Int) := by simp; omega
    have hw : wrap64 ((pre.length : Int) + 1) = (pre.length : Int) + 1 := wrapS (by omega) (by omega)
    have hxl : x.length ≤ 1048576 := hlx x (by rw [ha]; simp)
    obtain ⟨K1, e1⟩ := checksumOf_ok x (by omega)
    obtain ⟨K2, e2⟩ := checksumOf_ok y (by omega)
    rw [show sumsOf (x :: suf) = sumOf 1 x :: sumsOf suf from rfl, idxOf] at h
    by_cases c : sumOf 1 x = sumOf 1 y
    · rw [if_pos c] at h
      have h2 := ih (pre ++ [x]) (own ++ [(pre.length : Int)]) (by simp at hl ⊢; omega) (by simp; omega) (by rw [snoc_app]; exact ha) (by rw [snoc_leni, List.append_assoc]; exact h)
      rw [snoc_app, snoc_leni] at h2
      obtain ⟨K3, e3⟩ := h2
      dsimp only at e1 e2 e3
      refine ⟨K1 + K2 + K3 + 1, fun k hk => ?_⟩
      obtain ⟨m, rfl⟩ : ∃ m, k = m + 1 := ⟨k - 1, by omega⟩
      dsimp only
      rw [impl_AgreeingCopies.l1, if_pos hl', if_pos (by omega), if_pos hl', rdHH_mid, e1 m (by omega), e2 m (by omega)]
      simp only [Option.bind_some]
      rw [if_pos c, if_pos (by omega), hw, e3 m (by omega)]
    · rw [if_neg c] at h
      have h2 := ih (pre ++ [x]) own (by simp at hl ⊢; omega) (by simp; omega) (by rw [snoc_app]; exact ha) (by rw [snoc_leni]; exact h)
      rw [snoc_app, snoc_leni] at h2
      obtain ⟨K3, e3⟩ := h2
      dsimp only at e1 e2 e3
      refine ⟨K1 + K2 + K3 + 1, fun k hk => ?_⟩
      obtain ⟨m, rfl⟩ : ∃ m, k = m + 1 := ⟨k - 1, by omega⟩
      dsimp only
      rw [impl_AgreeingCopies.l1, if_pos hl', if_pos (by omega), if_pos hl', rdHH_mid, e1 m (by omega), e2 m (by omega)]
      simp only [Option.bind_some]
      rw [if_neg c, hw, e3 m (by omega)]
theorem implAgree_l0 (l : List (List S42)) (hlx : ∀ x ∈ l, x.length ≤ 1048576) (suf : List (List S42)) : ∀ (pre : List (List S42)) (acc : List Int), (pre ++ suf).length ≤ 9 → l = pre ++ suf →
    Ev (fun k => impl_AgreeingCopies.l0 k l acc (pre ++ suf) ((pre ++ suf).length : Int) (pre.length : Int)) (bestOf (sumsOf l) acc (sumsOf suf), true) := by
  induction suf with
  | nil =>
    intro pre acc hl ha
    refine ev_step (f := fun _ => some _) (Ev.now _) (fun k => ?_)
    rw [impl_AgreeingCopies.l0, if_neg (by simp)]; rfl
  | cons y suf ih =>
    intro pre acc hl ha
    have hlp : pre.length + 1 ≤ 9 := by simp at hl; omega
    have hl' : (pre.length : Int) < ((pre ++ y :: suf).length : Int) := by simp; omega
    have hyl : y.length ≤ 1048576 := hlx y (by rw [ha]; simp)
    have hll : l.length ≤ 9 := by rw [ha]; exact hl
    have h := ih (pre ++ [y]) (better (idxOf (sumOf 1 y) (sumsOf l) 0) acc) (by simp at hl ⊢; omega) (by rw [snoc_app]; exact ha)
    rw [snoc_app, snoc_leni, ← ha] at h
    have h2 := implAgree_l1 l hlx acc y hyl (l.length : Int) pre.length (by omega) _ l [] [] (by simp; omega) (by simp) (by simp) (by simpa using h)
    simp only [List.nil_append, List.length_nil, Int.natCast_zero] at h2
    refine ev_step (ev_eq h2 (by rw [show sumsOf (y :: suf) = sumOf 1 y :: sumsOf suf from rfl, bestOf])) (fun k => ?_)
    rw [impl_AgreeingCopies.l0, if_pos hl', if_pos (by omega), if_pos hl', rdHH_mid, ← ha]
def agreeR (l : List (List S42)) : List Int × Bool := if (l.all good && decide (1 ≤ (l.length : Int) ∧ (l.length : Int) ≤ 9)) = true then (bestOf (sumsOf l) [] (sumsOf l), true) else ([], false)
theorem agreeR_len (l : List (List S42)) : (agreeR l).1.length ≤ 9 := by
  unfold agreeR
  by_cases c : (l.all good && decide (1 ≤ (l.length : Int) ∧ (l.length : Int) ≤ 9)) = true
  · rw [if_pos c]
    have h1 := of_decide_eq_true (Bool.and_eq_true_iff.1 c).2
    have h2 := bestOf_len (sumsOf l) (sumsOf l) [] (by simp)
    have h3 : (sumsOf l).length = l.length := by unfold sumsOf; simp
    simp only; omega
  · rw [if_neg c]; simp
theorem specAgree_ok (l : List (List S42)) (hl : l.length ≤ 1048576) (hx : ∀ x ∈ l, x.length ≤ 1048576) : Ev (fun k => spec_AgreeingCopies.f k l) (agreeR l) := by
  have hc : spec_l1In.f (l.length : Int) 1 9 = some (decide (1 ≤ (l.length : Int) ∧ (l.length : Int) ≤ 9)) := by
    unfold spec_l1In.f
    by_cases h : (l.length : Int) ≥ 1
    · rw [if_pos h]; congr 1; exact decide_eq_decide.2 ⟨fun q => ⟨h, q⟩, fun q => q.2⟩
    · rw [if_neg h]; congr 1; exact (decide_eq_false (fun q => h q.1)).symm
  by_cases c : 1 ≤ (l.length : Int) ∧ (l.length : Int) ≤ 9
  · have h := specAgree_l0 l l [] [] (by simp; omega) (by simp) hx
    simp only [List.nil_append, List.length_nil, Int.natCast_zero] at h
    refine Ev.congr (fun k => ?_) (ev_eq h (by simp only [agreeR, decide_eq_true c, Bool.and_true]))
    rw [spec_AgreeingCopies.f, hc, decide_eq_true c]
    simp only [Option.bind_some, if_true]
  · refine Ev.congr (f := fun _ => some (agreeR l)) (fun k => ?_) (Ev.now _)
    rw [spec_AgreeingCopies.f, hc, decide_eq_false c]
    simp only [Option.bind_some, agreeR, decide_eq_false c, Bool.and_false, Bool.false_eq_true, if_false]
theorem implAgree_ok (l : List (List S42)) (hl : l.length ≤ 1048576) (hx : ∀ x ∈ l, x.length ≤ 1048576) : Ev (fun k => impl_AgreeingCopies.f k l) (agreeR l) := by
  refine Ev.bind (areSheets_ok l 9 hl hx) ?_
  cases ga : (l.all good && decide (1 ≤ (l.length : Int) ∧ (l.length : Int) ≤ 9)) with
  | false => exact ev_of_eq (fun _ => by simp only [agreeR, ga, Bool.false_eq_true, if_false])
  | true =>
    have hc := of_decide_eq_true (Bool.and_eq_true_iff.1 ga).2
    simp only [if_true]
    have h := implAgree_l0 l hx l [] [] (by simp; omega) (by simp)
    simp only [List.nil_append, List.length_nil, Int.natCast_zero] at h
    exact ev_eq h (by simp only [agreeR, ga, if_true])

/-! one hole's end changed a little -/
def chg (l : List S42) (i : Nat) (b : Int) : List S42 := l.set i ⟨(rd_T42 l (i : Int)).f0, (rd_T42 l (i : Int)).f1, wrap64 ((rd_T42 l (i : Int)).f2 + b)⟩
def keepIt (l : List S42) (s : Int) (i : Nat) (b : Int) : Bool := decide (¬ b = 0) && (good (chg l i b) && decide (sumOf 1 (chg l i b) = s))
def innerOf (l : List S42) (s : Int) (i : Nat) : Nat → Int → List (List S42)
  | 0, _ => []
  | d + 1, b => if keepIt l s i b = true then chg l i b :: innerOf l s i d (b + 1) else innerOf l s i d (b + 1)
theorem innerOf_len (l : List S42) (s : Int) (i d : Nat) : ∀ b, (innerOf l s i d b).length ≤ d := by
  induction d with
  | zero => intro b; simp [innerOf]
  | succ d ih =>
    intro b
    have := ih (b + 1)
    rw [innerOf]
    by_cases c : keepIt l s i b = true
    · rw [if_pos c]; simp; omega
    · rw [if_neg c]; omega
theorem innerOf_row (l : List S42) (s : Int) (i d : Nat) : ∀ b, ∀ z ∈ innerOf l s i d b, z.length = l.length := by
  induction d with
  | zero => intro b z hz; simp [innerOf] at hz
  | succ d ih =>
    intro b z hz
    rw [innerOf] at hz
    by_cases c : keepIt l s i b = true
    · rw [if_pos c] at hz
      rcases List.mem_cons.1 hz with rfl | hz
      · unfold chg; simp
      · exact ih _ z hz
    · rw [if_neg c] at hz; exact ih _ z hz
def outerOf (l : List S42) (s : Int) : Nat → Nat → List (List S42)
  | 0, _ => []
  | d + 1, i => innerOf l s i 7 (-3) ++ outerOf l s d (i + 1)
theorem outerOf_len (l : List S42) (s : Int) (d : Nat) : ∀ i, (outerOf l s d i).length ≤ 7 * d := by
  induction d with
  | zero => intro i; simp [outerOf]
  | succ d ih =>
    intro i
    have := ih (i + 1)
    have := innerOf_len l s i 7 (-3)
    rw [outerOf, List.length_append]; omega
theorem outerOf_row (l : List S42) (s : Int) (d : Nat) : ∀ i, ∀ z ∈ outerOf l s d i, z.length = l.length := by
  induction d with
  | zero => intro i z hz; simp [outerOf] at hz
  | succ d ih =>
    intro i z hz
    rw [outerOf] at hz
    rcases List.mem_append.1 hz with h | h
    · exact innerOf_row l s i 7 (-3) z h
    · exact ih _ z h
theorem good60 {l : List S42} (h : good l = true) : l.length ≤ 60 := by
  unfold good at h
  exact of_decide_eq_true (Bool.and_eq_true_iff.1 h).2
def singleR (l : List S42) (s : Int) : List (List S42) × Bool := if (good l && decide (0 ≤ s ∧ s ≤ 1000002)) = true then (outerOf l s l.length 0, true) else ([], false)
theorem singleR_spec (l : List S42) (s : Int) : (singleR l s).1.length ≤ 420 ∧ ∀ z ∈ (singleR l s).1, z.length ≤ 60 := by
  unfold singleR
  by_cases c : (good l && decide (0 ≤ s ∧ s ≤ 1000002)) = true
  · rw [if_pos c]
    have h1 := good60 (Bool.and_eq_true_iff.1 c).1
    have h2 := outerOf_len l s l.length 0
    exact ⟨by simp only; omega, fun z hz => by rw [outerOf_row l s _ _ z hz]; exact h1⟩
  · rw [if_neg c]; exact ⟨by simp, fun z hz => by simp at hz⟩
theorem specSingle_l1 (l : List S42) (hl : l.length ≤ 60) (s : Int) (i : Nat) (hi : i < l.length) (R : List (List S42) × Bool) (d : Nat) : ∀ (out : List (List S42)) (b : Int), b + d = 4 → -3 ≤ b → out.length + d ≤ 1000000 →
    Ev (fun k => spec_SingleChanges.l0 k l s (out ++ innerOf l s i d b) (l.length : Int) ((i : Int) + 1)) R →
    Ev (fun k => spec_SingleChanges.l1 k l s out (i : Int) b (l.length : Int) (i : Int)) R := by
  induction d with
  | zero =>
    intro out b hb h3 ho h
    rw [innerOf, List.append_nil] at h
    have hw : wrap64 ((i : Int) + 1) = (i : Int) + 1 := wrapS (by omega) (by omega)
    refine ev_step h (fun k => ?_)
    rw [spec_SingleChanges.l1, if_neg (by omega), hw]
  | succ d ih =>
    intro out b hb h3 ho h
    have hw : wrap64 (b + 1) = b + 1 := wrapS (by omega) (by omega)
    have hc : (chg l i b).length = l.length := by unfold chg; simp
    rw [innerOf] at h
    obtain ⟨K1, e1⟩ := shGood_ok (chg l i b) (by omega)
    obtain ⟨K2, e2⟩ := ckSum_ok (chg l i b) (by omega)
    dsimp only at e1 e2
    by_cases c : keepIt l s i b = true
    · rw [if_pos c] at h
      obtain ⟨c0, c1⟩ := Bool.and_eq_true_iff.1 c
      obtain ⟨c2, c3⟩ := Bool.and_eq_true_iff.1 c1
      have d0 := of_decide_eq_true c0
      have d3 := of_decide_eq_true c3
      obtain ⟨K3, e3⟩ := ih (out ++ [chg l i b]) (b + 1) (by omega) (by omega) (by simp; omega) (by rw [List.append_assoc]; exact h)
      dsimp only at e3
      refine ⟨K1 + K2 + K3 + 1, fun k hk => ?_⟩
      obtain ⟨m, rfl⟩ : ∃ m, k = m + 1 := ⟨k - 1, by omega⟩
      have q1 := e1 m (by omega)
      have q2 := e2 m (by omega)
      rw [c2] at q1
      unfold chg at q1 q2 e3
      dsimp only
      rw [spec_SingleChanges.l1]
      simp only [Option.bind_some, List.nil_append, List.length_nil, Nat.zero_add, if_pos (show l.length < 5864062014805 by omega)]
      simp only [if_pos (show b ≤ 3 by omega), if_pos (show (0 : Int) ≤ (i : Int) by omega), if_pos (show (i : Int) < (l.length : Int) by omega), if_neg d0, Int.toNat_natCast, hw, q1, q2, Option.bind_some, if_true, if_pos (show sumOf 1 (l.set i ⟨(rd_T42 l (i : Int)).f0, (rd_T42 l (i : Int)).f1, wrap64 ((rd_T42 l (i : Int)).f2 + b)⟩) = s from d3), if_pos (show out.length < 5864062014805 by omega)]
      exact e3 m (by omega)
    · rw [if_neg c] at h
      obtain ⟨K3, e3⟩ := ih out (b + 1) (by omega) (by omega) (by omega) h
      dsimp only at e3
      refine ⟨K1 + K2 + K3 + 1, fun k hk => ?_⟩
      obtain ⟨m, rfl⟩ : ∃ m, k = m + 1 := ⟨k - 1, by omega⟩
      have q1 := e1 m (by omega)
      have q2 := e2 m (by omega)
      have q3 := e3 m (by omega)
      have c4 : keepIt l s i b = false := by simpa using c
      unfold keepIt at c4
      dsimp only
      rw [spec_SingleChanges.l1]
      simp only [Option.bind_some, List.nil_append, List.length_nil, Nat.zero_add, if_pos (show l.length < 5864062014805 by omega)]
      by_cases d0 : b = 0
      · unfold chg at q1 q2
        simp only [if_pos (show b ≤ 3 by omega), if_pos (show (0 : Int) ≤ (i : Int) by omega), if_pos (show (i : Int) < (l.length : Int) by omega), if_pos d0, Int.toNat_natCast, hw, Option.bind_some]
        exact q3
      · cases g : good (chg l i b) with
        | false =>
          rw [g] at q1
          unfold chg at q1
          simp only [if_pos (show b ≤ 3 by omega), if_pos (show (0 : Int) ≤ (i : Int) by omega), if_pos (show (i : Int) < (l.length : Int) by omega), if_neg d0, Int.toNat_natCast, hw, q1, Option.bind_some, Bool.false_eq_true, if_false]
          exact q3
        | true =>
          have d3 : ¬ sumOf 1 (chg l i b) = s := fun e => by
            rw [g, decide_eq_true d0, decide_eq_true e] at c4
            exact absurd c4 (by decide)
          rw [g] at q1
          unfold chg at q1 q2 d3
          simp only [if_pos (show b ≤ 3 by omega), if_pos (show (0 : Int) ≤ (i : Int) by omega), if_pos (show (i : Int) < (l.length : Int) by omega), if_neg d0, Int.toNat_natCast, hw, q1, q2, if_neg d3, Option.bind_some, if_true]
          exact q3
theorem specSingle_l0 (l : List S42) (hl : l.length ≤ 60) (s : Int) (d : Nat) : ∀ (i : Nat) (out : List (List S42)), i + d = l.length → out.length ≤ 7 * i →
    Ev (fun k => spec_SingleChanges.l0 k l s out (l.length : Int) (i : Int)) (out ++ outerOf l s d i, true) := by
  induction d with
  | zero =>
    intro i out hi ho
    refine ev_step (f := fun _ => some _) (Ev.now _) (fun k => ?_)
    rw [spec_SingleChanges.l0, if_neg (by omega), outerOf, List.append_nil]
  | succ d ih =>
    intro i out hi ho
    have hn := innerOf_len l s i 7 (-3)
    have h := ih (i + 1) (out ++ innerOf l s i 7 (-3)) (by omega) (by simp; omega)
    have e : ((i + 1 : Nat) : Int) = (i : Int) + 1 := by simp
    rw [e] at h
    have h1 := specSingle_l1 l hl s i (by omega) _ 7 out (-3) (by omega) (by omega) (by omega) h
    refine ev_step (ev_eq h1 (by rw [outerOf, List.append_assoc])) (fun k => ?_)
    rw [spec_SingleChanges.l0, if_pos (by omega)]
theorem implSingle_l1 (l : List S42) (hl : l.length ≤ 60) (s : Int) (i : Nat) (hi : i < l.length) (R : List (List S42) × Bool) (d : Nat) : ∀ (out : List (List S42)) (b : Int), b + d = 4 → -3 ≤ b → out.length + d ≤ 1000000 →
    Ev (fun k => impl_SingleChanges.l0 k l s (out ++ innerOf l s i d b) (l.length : Int) ((i : Int) + 1)) R →
    Ev (fun k => impl_SingleChanges.l1 k l s out (i : Int) b (l.length : Int) (i : Int)) R := by
  induction d with
  | zero =>
    intro out b hb h3 ho h
    rw [innerOf, List.append_nil] at h
    have hw : wrap64 ((i : Int) + 1) = (i : Int) + 1 := wrapS (by omega) (by omega)
    refine ev_step h (fun k => ?_)
    rw [impl_SingleChanges.l1, if_neg (by omega), hw]
  | succ d ih =>
    intro out b hb h3 ho h
    have hw : wrap64 (b + 1) = b + 1 := wrapS (by omega) (by omega)
    have hc : (chg l i b).length = l.length := by unfold chg; simp
    rw [innerOf] at h
    obtain ⟨K1, e1⟩ := isSheet_ok (chg l i b) (by omega)
    obtain ⟨K2, e2⟩ := checksumOf_ok (chg l i b) (by omega)
    dsimp only at e1 e2
    by_cases c : keepIt l s i b = true
    · rw [if_pos c] at h
      obtain ⟨c0, c1⟩ := Bool.and_eq_true_iff.1 c
      obtain ⟨c2, c3⟩ := Bool.and_eq_true_iff.1 c1
      have d0 := of_decide_eq_true c0
      have d3 := of_decide_eq_true c3
      obtain ⟨K3, e3⟩ := ih (out ++ [chg l i b]) (b + 1) (by omega) (by omega) (by simp; omega) (by rw [List.append_assoc]; exact h)
      dsimp only at e3
      refine ⟨K1 + K2 + K3 + 1, fun k hk => ?_⟩
      obtain ⟨m, rfl⟩ : ∃ m, k = m + 1 := ⟨k - 1, by omega⟩
      have q1 := e1 m (by omega)
      have q2 := e2 m (by omega)
      rw [c2] at q1
      unfold chg at q1 q2 e3
      dsimp only
      rw [impl_SingleChanges.l1, show impl_Hole_66.f l = some l from if_pos (show l.length < 1000000000 by omega)]
      simp only [Option.bind_some]
      simp only [if_pos (show b ≤ 3 by omega), if_pos (show (0 : Int) ≤ (i : Int) by omega), if_pos (show (i : Int) < (l.length : Int) by omega), if_neg d0, Int.toNat_natCast, hw, q1, q2, Option.bind_some, if_true, if_pos (show sumOf 1 (l.set i ⟨(rd_T42 l (i : Int)).f0, (rd_T42 l (i : Int)).f1, wrap64 ((rd_T42 l (i : Int)).f2 + b)⟩) = s from d3), if_pos (show out.length < 5864062014805 by omega)]
      exact e3 m (by omega)
    · rw [if_neg c] at h
      obtain ⟨K3, e3⟩ := ih out (b + 1) (by omega) (by omega) (by omega) h
      dsimp only at e3
      refine ⟨K1 + K2 + K3 + 1, fun k hk => ?_⟩
      obtain ⟨m, rfl⟩ : ∃ m, k = m + 1 := ⟨k - 1, by omega⟩
      have q1 := e1 m (by omega)
      have q2 := e2 m (by omega)
      have q3 := e3 m (by omega)
      have c4 : keepIt l s i b = false := by simpa using c
      unfold keepIt at c4
      dsimp only
      rw [impl_SingleChanges.l1, show impl_Hole_66.f l = some l from if_pos (show l.length < 1000000000 by omega)]
      simp only [Option.bind_some]
      by_cases d0 : b = 0
      · unfold chg at q1 q2
        simp only [if_pos (show b ≤ 3 by omega), if_pos (show (0 : Int) ≤ (i : Int) by omega), if_pos (show (i : Int) < (l.length : Int) by omega), if_pos d0, Int.toNat_natCast, hw, Option.bind_some]
        exact q3
      · cases g : good (chg l i b) with
        | false =>
          rw [g] at q1
          unfold chg at q1
          simp only [if_pos (show b ≤ 3 by omega), if_pos (show (0 : Int) ≤ (i : Int) by omega), if_pos (show (i : Int) < (l.length : Int) by omega), if_neg d0, Int.toNat_natCast, hw, q1, Option.bind_some, Bool.false_eq_true, if_false]
          exact q3
        | true =>
          have d3 : ¬ sumOf 1 (chg l i b) = s := fun e => by
            rw [g, decide_eq_true d0, decide_eq_true e] at c4
            exact absurd c4 (by decide)
          rw [g] at q1
          unfold chg at q1 q2 d3
          simp only [if_pos (show b ≤ 3 by omega), if_pos (show (0 : Int) ≤ (i : Int) by omega), if_pos (show (i : Int) < (l.length : Int) by omega), if_neg d0, Int.toNat_natCast, hw, q1, q2, if_neg d3, Option.bind_some, if_true]
          exact q3
theorem implSingle_l0 (l : List S42) (hl : l.length ≤ 60) (s : Int) (d : Nat) : ∀ (i : Nat) (out : List (List S42)), i + d = l.length → out.length ≤ 7 * i →
    Ev (fun k => impl_SingleChanges.l0 k l s out (l.length : Int) (i : Int)) (out ++ outerOf l s d i, true) := by
  induction d with
  | zero =>
    intro i out hi ho
    refine ev_step (f := fun _ => some _) (Ev.now _) (fun k => ?_)
    rw [impl_SingleChanges.l0, if_neg (by omega), outerOf, List.append_nil]
  | succ d ih =>
    intro i out hi ho
    have hn := innerOf_len l s i 7 (-3)
    have h := ih (i + 1) (out ++ innerOf l s i 7 (-3)) (by omega) (by simp; omega)
    have e : ((i + 1 : Nat) : Int) = (i : Int) + 1 := by simp
    rw [e] at h
    have h1 := implSingle_l1 l hl s i (by omega) _ 7 out (-3) (by omega) (by omega) (by omega) h
    refine ev_step (ev_eq h1 (by rw [outerOf, List.append_assoc])) (fun k => ?_)
    rw [impl_SingleChanges.l0, if_pos (by omega)]
theorem specSingle_ok (l : List S42) (s : Int) (hl : l.length ≤ 1048576) : Ev (fun k => spec_SingleChanges.f k l s) (singleR l s) := by
  have no : ∀ z : Bool, z = true → singleR l s = ([], false) → Ev (fun k => spec_SingleChanges.j0 k l s z) (singleR l s) := fun z hz g => by
    rw [hz, g]
    refine ev_step (f := fun _ => some _) (Ev.now _) (fun k => ?_)
    rw [spec_SingleChanges.j0, if_pos rfl]
  refine Ev.bind (shGood_ok l (by omega)) ?_
  cases g0 : good l with
  | false => simp only [Bool.false_eq_true, if_false]; exact no true rfl (by simp [singleR, g0])
  | true =>
    have hc : spec_ckIs.f s = some (decide (0 ≤ s ∧ s ≤ 1000002)) := by
      unfold spec_ckIs.f spec_l1In.f
      by_cases h : s ≥ 0
      · rw [if_pos h]; simp only [Option.bind_some]; congr 1; exact decide_eq_decide.2 ⟨fun q => ⟨h, q⟩, fun q => q.2⟩
      · rw [if_neg h]; simp only [Option.bind_some]; congr 1; exact (decide_eq_false (fun q => h q.1)).symm
    simp only [if_true, hc, Option.bind_some]
    by_cases c : 0 ≤ s ∧ s ≤ 1000002
    · have h1 := good60 g0
      have h := specSingle_l0 l h1 s l.length 0 [] (by omega) (by simp)
      simp only [List.nil_append, Int.natCast_zero] at h
      refine ev_step (ev_eq h (by simp only [singleR, g0, Bool.true_and, decide_eq_true c, if_true])) (fun k => ?_)
      rw [spec_SingleChanges.j0, if_neg (by rw [decide_eq_true c]; decide)]
    · exact no _ (by rw [decide_eq_false c]; rfl) (by simp only [singleR, decide_eq_false c, Bool.and_false, Bool.false_eq_true, if_false])
theorem implSingle_ok (l : List S42) (s : Int) (hl : l.length ≤ 1048576) : Ev (fun k => impl_SingleChanges.f k l s) (singleR l s) := by
  have no : ∀ z : Bool, z = true → singleR l s = ([], false) → Ev (fun k => impl_SingleChanges.j0 k l s z) (singleR l s) := fun z hz g => by
    rw [hz, g]
    refine ev_step (f := fun _ => some _) (Ev.now _) (fun k => ?_)
    rw [impl_SingleChanges.j0, if_pos rfl]
  refine Ev.bind (isSheet_ok l (by omega)) ?_
  cases g0 : good l with
  | false => simp only [Bool.false_eq_true, if_false]; exact no true rfl (by simp [singleR, g0])
  | true =>
    have hc : impl_isChecksum.f s = some (decide (0 ≤ s ∧ s ≤ 1000002)) := by
      unfold impl_isChecksum.f
      by_cases h : s ≥ 0
      · rw [if_pos h]; congr 1; exact decide_eq_decide.2 ⟨fun q => ⟨h, by omega⟩, fun q => by omega⟩
      · rw [if_neg h]; congr 1; exact (decide_eq_false (fun q => h q.1)).symm
    simp only [if_true, hc, Option.bind_some]
    by_cases c : 0 ≤ s ∧ s ≤ 1000002
    · have h1 := good60 g0
      have h := implSingle_l0 l h1 s l.length 0 [] (by omega) (by simp)
      simp only [List.nil_append, Int.natCast_zero] at h
      refine ev_step (ev_eq h (by simp only [singleR, g0, Bool.true_and, decide_eq_true c, if_true])) (fun k => ?_)
      rw [impl_SingleChanges.j0, if_neg (by rw [decide_eq_true c]; decide)]
    · exact no _ (by rw [decide_eq_false c]; rfl) (by simp only [singleR, decide_eq_false c, Bool.and_false, Bool.false_eq_true, if_false])

/-! a cursor's draws: what they give lies in bounds, and the cursor goes on by few places -/
def bytesOk (l : List Int) : Prop := ∀ x ∈ l, 0 ≤ x ∧ x ≤ 255
def lcg (s b : Int) : Int := (s * 6364136223846793005 + b + 1442695040888963407) % 18446744073709551616
theorem and255 (x : Int) (h0 : 0 ≤ x) (h1 : x < 18446744073709551616) : Go.bits .and .u64 x 255 = x % 256 := by
  obtain ⟨n, rfl⟩ : ∃ n : Nat, x = n := ⟨x.toNat, by omega⟩
  have h := bits_and_u64_nat n 255 (by omega) (by omega)
  have h2 := Nat.and_two_pow_sub_one_eq_mod n 8
  rw [show (2 : Nat) ^ 8 - 1 = 255 from rfl, show (2 : Nat) ^ 8 = 256 from rfl] at h2
  rw [h2] at h
  exact h.trans (by omega)
theorem lcg_eq (s b : Int) : IntKind.u64.wrap ((IntKind.u64.wrap ((IntKind.u64.wrap (s * 6364136223846793005)) + (IntKind.u64.wrap b))) + 1442695040888963407) = lcg s b := by
  simp only [IntKind.wrap_u64, lcg]; omega
theorem lcg_eq0 (s : Int) : IntKind.u64.wrap ((IntKind.u64.wrap (IntKind.u64.wrap (s * 6364136223846793005))) + 1442695040888963407) = lcg s 0 := by
  simp only [IntKind.wrap_u64, lcg]; omega
theorem lcg_lt (s b : Int) : 0 ≤ lcg s b ∧ lcg s b < 18446744073709551616 := by unfold lcg; omega
theorem rd_byte {l : List Int} (hb : bytesOk l) (p : Int) (h0 : 0 ≤ p) (h1 : p < l.length) : 0 ≤ rd l p ∧ rd l p ≤ 255 := by
  obtain ⟨n, rfl⟩ : ∃ n : Nat, p = n := ⟨p.toNat, by omega⟩
  rw [rd_nat l n (by omega)]
  exact hb _ (List.getElem_mem _)
theorem next_in {l : List Int} (hb : bytesOk l) (p s : Int) (h0 : 0 ≤ p) (h1 : p < l.length) (h2 : p ≤ 4000000000000000000) : spec_l1Cur_next.f l p s = some (rd l p, p + 1, lcg s (rd l p)) := by
  have hr := rd_byte hb p h0 h1
  have hw : wrap64 (p + 1) = p + 1 := wrapS (by omega) (by omega)
  have hw2 : wrap64 (rd l p) = rd l p := wrapS (by omega) (by omega)
  rw [spec_l1Cur_next.f, if_pos h1, if_pos h0, hw, if_pos (by omega), hw2, lcg_eq]
theorem next_out {l : List Int} (p s : Int) (h1 : ¬ p < l.length) (h0 : 0 ≤ p) (h2 : p ≤ 4000000000000000000) : spec_l1Cur_next.f l p s = some ((lcg s 0 / 1099511627776) % 256, p + 1, lcg s 0) := by
  have hw : wrap64 (p + 1) = p + 1 := wrapS (by omega) (by omega)
  have hl := lcg_lt s 0
  rw [spec_l1Cur_next.f, if_neg h1, hw, if_neg (by omega), lcg_eq0, and255 _ (by omega) (by omega), wrapS (by omega) (by omega)]
theorem next_ok {l : List Int} (hb : bytesOk l) (p s : Int) (h0 : 0 ≤ p) (h2 : p ≤ 4000000000000000000) : ∃ b s', spec_l1Cur_next.f l p s = some (b, p + 1, s') ∧ 0 ≤ b ∧ b ≤ 255 := by
  by_cases h : p < l.length
  · exact ⟨_, _, next_in hb p s h0 h h2, rd_byte hb p h0 h⟩
  · exact ⟨_, _, next_out p s h h0 h2, by omega, by omega⟩
theorem pick_ok {l : List Int} (hb : bytesOk l) (p s n : Int) (h0 : 0 ≤ p) (h2 : p ≤ 3000000000000000000) : ∃ r p' s', spec_l1Cur_pick.f l p s n = some (r, p', s') ∧ 0 ≤ r ∧ (1 ≤ n → r < n) ∧ p ≤ p' ∧ p' ≤ p + 2 ∧ (2 ≤ n → p + 1 ≤ p') := by
  by_cases c : n ≤ 1
  · exact ⟨0, p, s, by rw [spec_l1Cur_pick.f, if_pos c], by omega, by omega, by omega, by omega, by omega⟩
  · obtain ⟨b, s1, e1, b0, b1⟩ := next_ok hb p s h0 (by omega)
    by_cases d : n > 200
    · obtain ⟨b2, s2, e2, c0, c1⟩ := next_ok hb (p + 1) s1 (by omega) (by omega)
      refine ⟨Int.tmod (b * 256 + b2) n, p + 1 + 1, s2, ?_, ?_, ?_, by omega, by omega, by omega⟩
      · rw [spec_l1Cur_pick.f, if_neg c, e1]
        simp only [Option.bind_some]
        rw [if_pos d, e2]
        simp only [Option.bind_some]
        rw [if_neg (by omega), wrapS (x := b * 256) (by omega) (by omega), wrapS (by omega) (by omega)]
      · exact Int.tmod_nonneg _ (by omega)
      · intro _; exact Int.tmod_lt_of_pos _ (by omega)
    · refine ⟨Int.tmod b n, p + 1, s1, ?_, ?_, ?_, by omega, by omega, by omega⟩
      · rw [spec_l1Cur_pick.f, if_neg c, e1]
        simp only [Option.bind_some]
        rw [if_neg d, if_neg (by omega)]
      · exact Int.tmod_nonneg _ (by omega)
      · intro _; exact Int.tmod_lt_of_pos _ (by omega)
theorem rd_mem {xs : List Int} (r : Int) (h0 : 0 ≤ r) (h1 : r < xs.length) : rd xs r ∈ xs := by
  obtain ⟨n, rfl⟩ : ∃ n : Nat, r = n := ⟨r.toNat, by omega⟩
  rw [rd_nat xs n (by omega)]
  exact List.getElem_mem _
theorem among_ok {l : List Int} (hb : bytesOk l) (p s : Int) (xs : List Int) (hx : 1 ≤ xs.length) (h0 : 0 ≤ p) (h2 : p ≤ 3000000000000000000) : ∃ r p' s', spec_l1Cur_among.f l p s xs = some (r, p', s') ∧ r ∈ xs ∧ p ≤ p' ∧ p' ≤ p + 2 := by
  obtain ⟨r, p', s', e, r0, r1, q0, q1⟩ := pick_ok hb p s (xs.length : Int) h0 h2
  have r1 := r1 (by omega)
  refine ⟨rd xs r, p', s', ?_, rd_mem r r0 r1, q0, q1.1⟩
  rw [spec_l1Cur_among.f, e]
  simp only [Option.bind_some]
  rw [if_pos r0, if_pos r1]
theorem one_ok {l : List Int} (hb : bytesOk l) (p s n : Int) (h0 : 0 ≤ p) (h2 : p ≤ 3000000000000000000) : ∃ r p' s', spec_l1Cur_one.f l p s n = some (r, p', s') ∧ p ≤ p' ∧ p' ≤ p + 2 := by
  obtain ⟨r, p', s', e, _, _, q0, q1⟩ := pick_ok hb p s n h0 h2
  exact ⟨r == 0, p', s', by rw [spec_l1Cur_one.f, e]; rfl, q0, q1.1⟩

/-! the draws of sheets -/
theorem hole_ok {l : List Int} (hb : bytesOk l) (p s : Int) (h0 : 0 ≤ p) (h2 : p ≤ 1000000000000000000) : ∃ a b c p' s', spec_l1Cur_hole.f l p s = some (a, b, c, p', s') ∧ p ≤ p' ∧ p' ≤ p + 12 := by
  obtain ⟨i, p1, s1, e1, _, _, a1, b1⟩ := pick_ok hb p s 40 h0 (by omega)
  obtain ⟨j, p2, s2, e2, _, _, a2, b2⟩ := pick_ok hb p1 s1 60 (by omega) (by omega)
  obtain ⟨u, p3, s3, e3, _, a3, b3⟩ := among_ok hb p2 s2 (([0, 2, 5, i, j, 1990] : List Int)) (by simp) (by omega) (by omega)
  obtain ⟨k, p4, s4, e4, _, _, a4, b4⟩ := pick_ok hb p3 s3 20 (by omega) (by omega)
  obtain ⟨v, p5, s5, e5, _, a5, b5⟩ := among_ok hb p4 s4 (([0, 1, 2, 3, 5, k] : List Int)) (by simp) (by omega) (by omega)
  obtain ⟨w, p6, s6, e6, _, a6, b6⟩ := among_ok hb p5 s5 (([1, 2, 3, 4, 10] : List Int)) (by simp) (by omega) (by omega)
  refine ⟨v, u, wrap64 (u + w), p6, s6, ?_, by omega, by omega⟩
  rw [spec_l1Cur_hole.f, e1, Option.bind_some, e2, Option.bind_some, e3, Option.bind_some, e4, Option.bind_some, e5, Option.bind_some, e6, Option.bind_some]
theorem sheet_l0 {l : List Int} (hb : bytesOk l) (d : Nat) : ∀ (x : List S42) (p s : Int), x.length + d = 60 → 0 ≤ p → p + 2 * d ≤ 1000000000000000000 →
    ∃ r p' s', Ev (fun k => spec_l1Cur_sheet.l0 k x l p s) (r, p', s') ∧ r.length ≤ 60 ∧ p ≤ p' ∧ p' ≤ p + 2 * d := by
  induction d with
  | zero =>
    intro x p s hx h0 h2
    refine ⟨x, p, s, ev_step (f := fun _ => some _) (Ev.now _) (fun k => ?_), by omega, by omega, by omega⟩
    rw [spec_l1Cur_sheet.l0, if_neg (by omega)]
  | succ d ih =>
    intro x p s hx h0 h2
    obtain ⟨i, p1, s1, e1, _, _, a1, b1⟩ := pick_ok hb p s 5 h0 (by omega)
    obtain ⟨r, p', s', e, hr, a2, b2⟩ := ih (x ++ [⟨3 * ((x.length : Int) % 5), wrap64 (6 * (wrap64 ((x.length : Int) / 5))), wrap64 ((wrap64 ((wrap64 (6 * (wrap64 ((x.length : Int) / 5)))) + 1)) + i)⟩]) p1 s1 (by simp; omega) (by omega) (by omega)
    refine ⟨r, p', s', ev_step e (fun k => ?_), hr, by omega, by omega⟩
    rw [spec_l1Cur_sheet.l0, if_pos (by omega), e1, Option.bind_some, if_pos (by omega)]
theorem sheet_l1 {l : List Int} (hb : bytesOk l) (n : Int) (d : Nat) : ∀ (i : Nat) (x : List S42) (p s : Int), i + d = 60 → x.length ≤ 60 → 0 ≤ p → p + 12 * d ≤ 1000000000000000000 →
    ∃ r p' s', Ev (fun k => spec_l1Cur_sheet.l1 k x n (i : Int) l p s) (r, p', s') ∧ r.length ≤ 60 ∧ p ≤ p' ∧ p' ≤ p + 12 * d := by
  induction d with
  | zero =>
    intro i x p s hi hx h0 h2
    have J : Ev (fun k => spec_l1Cur_sheet.j2 k x n (i : Int) false l p s) (x, p, s) := ev_step (f := fun _ => some _) (Ev.now _) (fun k => by rw [spec_l1Cur_sheet.j2, if_neg (by simp)])
    refine ⟨x, p, s, ev_step J (fun k => ?_), by omega, by omega, by omega⟩
    rw [spec_l1Cur_sheet.l1]
    by_cases c : (x.length : Int) < n
    · rw [if_pos c, show decide ((i : Int) < 60) = false from decide_eq_false (by omega)]
    · rw [if_neg c]
  | succ d ih =>
    intro i x p s hi hx h0 h2
    by_cases c : (x.length : Int) < n
    · obtain ⟨u, v, w, p1, s1, e1, a1, b1⟩ := hole_ok hb p s h0 (by omega)
      have hw : wrap64 ((i : Int) + 1) = ((i + 1 : Nat) : Int) := wrapS (by omega) (by omega)
      obtain ⟨K2, e2⟩ := shWith_ok x ⟨u, v, w⟩ hx
      obtain ⟨y, g⟩ : ∃ y, (if (sortedR (x ++ [⟨u, v, w⟩])).2 = true then (sortedR (x ++ [⟨u, v, w⟩])).1 else x) = y := ⟨_, rfl⟩
      have hy : y.length ≤ 60 := by rw [← g]; split; exact sortedR_len _; exact hx
      obtain ⟨r, p', s', ⟨K3, e3⟩, hr, a2, b2⟩ := ih (i + 1) y p1 s1 (by omega) hy (by omega) (by omega)
      refine ⟨r, p', s', ⟨K2 + K3 + 2, fun k hk => ?_⟩, hr, by omega, by omega⟩
      obtain ⟨q, rfl⟩ : ∃ q, k = q + 1 + 1 := ⟨k - 2, by omega⟩
      have e2 := e2 q (by omega)
      have e3 := e3 q (by omega)
      dsimp only at e2 e3 ⊢
      rw [spec_l1Cur_sheet.l1, if_pos c, show decide ((i : Int) < 60) = true from decide_eq_true (by omega), spec_l1Cur_sheet.j2, if_pos rfl, e1, Option.bind_some]
      dsimp only
      rw [e2, Option.bind_some, hw]
      rw [← g] at e3
      split <;> rename_i z
      · rw [if_pos z] at e3; exact e3
      · rw [if_neg z] at e3; exact e3
    · have J : Ev (fun k => spec_l1Cur_sheet.j2 k x n (i : Int) false l p s) (x, p, s) := ev_step (f := fun _ => some _) (Ev.now _) (fun k => by rw [spec_l1Cur_sheet.j2, if_neg (by simp)])
      refine ⟨x, p, s, ev_step J (fun k => ?_), by omega, by omega, by omega⟩
      rw [spec_l1Cur_sheet.l1, if_neg c]
theorem sheet_ok {l : List Int} (hb : bytesOk l) (p s : Int) (h0 : 0 ≤ p) (h2 : p ≤ 100000000000000000) : ∃ r p' s', Ev (fun k => spec_l1Cur_sheet.f k l p s) (r, p', s') ∧ r.length ≤ 60 ∧ p ≤ p' ∧ p' ≤ p + 800 := by
  obtain ⟨b, p1, s1, e1, a1, b1⟩ := one_ok hb p s 24 h0 (by omega)
  cases b with
  | true =>
    obtain ⟨r, p', s', e, hr, a2, b2⟩ := sheet_l0 hb 60 [] p1 s1 (by simp) (by omega) (by omega)
    refine ⟨r, p', s', Ev.congr (fun k => ?_) e, hr, by omega, by omega⟩
    rw [spec_l1Cur_sheet.f, e1, Option.bind_some, if_pos rfl]
  | false =>
    obtain ⟨n, p2, s2, e2, _, _, a2, b2⟩ := pick_ok hb p1 s1 9 (by omega) (by omega)
    obtain ⟨r, p', s', e, hr, a3, b3⟩ := sheet_l1 hb n 60 0 [] p2 s2 (by omega) (by simp) (by omega) (by omega)
    refine ⟨r, p', s', Ev.congr (fun k => ?_) e, hr, by omega, by omega⟩
    rw [spec_l1Cur_sheet.f, e1, Option.bind_some, if_neg (by simp), e2, Option.bind_some]
    rfl
theorem anyHole_ok {l : List Int} (hb : bytesOk l) (p s : Int) (h0 : 0 ≤ p) (h2 : p ≤ 100000000000000000) : ∃ a b c p' s', spec_l1Cur_anyHole.f l p s = some (a, b, c, p', s') ∧ p ≤ p' ∧ p' ≤ p + 20 := by
  obtain ⟨u, v, w, p1, s1, e1, a1, b1⟩ := hole_ok hb p s h0 (by omega)
  obtain ⟨q, p2, s2, e2, _, _, a2, b2⟩ := pick_ok hb p1 s1 24 (by omega) (by omega)
  by_cases c0 : q = 0
  · obtain ⟨z, p3, s3, e3, _, a3, b3⟩ := among_ok hb p2 s2 (([(-1), 19, 20] : List Int)) (by simp) (by omega) (by omega)
    refine ⟨z, v, w, p3, s3, ?_, by omega, by omega⟩
    rw [spec_l1Cur_anyHole.f, e1, Option.bind_some, e2, Option.bind_some, if_pos c0, e3, Option.bind_some]
  by_cases c1 : q = 1
  · obtain ⟨z, p3, s3, e3, _, a3, b3⟩ := among_ok hb p2 s2 (([(-1), w] : List Int)) (by simp) (by omega) (by omega)
    refine ⟨u, z, w, p3, s3, ?_, by omega, by omega⟩
    rw [spec_l1Cur_anyHole.f, e1, Option.bind_some, e2, Option.bind_some, if_neg c0, if_pos c1, e3, Option.bind_some]
  by_cases c2 : q = 2
  · obtain ⟨z, p3, s3, e3, _, a3, b3⟩ := among_ok hb p2 s2 (([v, 2000, 2001] : List Int)) (by simp) (by omega) (by omega)
    refine ⟨u, v, z, p3, s3, ?_, by omega, by omega⟩
    rw [spec_l1Cur_anyHole.f, e1, Option.bind_some, e2, Option.bind_some, if_neg c0, if_neg c1, if_pos c2, e3, Option.bind_some]
  · refine ⟨u, v, w, p2, s2, ?_, by omega, by omega⟩
    rw [spec_l1Cur_anyHole.f, e1, Option.bind_some, e2, Option.bind_some, if_neg c0, if_neg c1, if_neg c2]
theorem anySheet_l0 (l : List Int) (p s : Int) (d : Nat) : ∀ x : List S42, x.length + d = 61 →
    ∃ r, Ev (fun k => spec_l1Cur_anySheet.l0 k x l p s) (r, p, s) ∧ r.length ≤ 61 := by
  induction d with
  | zero =>
    intro x hx
    refine ⟨x, ev_step (f := fun _ => some _) (Ev.now _) (fun k => ?_), by omega⟩
    rw [spec_l1Cur_anySheet.l0, if_neg (by omega)]
  | succ d ih =>
    intro x hx
    obtain ⟨r, e, hr⟩ := ih (x ++ [⟨1, wrap64 (3 * (x.length : Int)), wrap64 ((wrap64 (3 * (x.length : Int))) + 1)⟩]) (by simp; omega)
    refine ⟨r, ev_step e (fun k => ?_), hr⟩
    rw [spec_l1Cur_anySheet.l0, if_pos (by omega), if_pos (by omega)]
theorem anySheet_ok {l : List Int} (hb : bytesOk l) (p s : Int) (h0 : 0 ≤ p) (h2 : p ≤ 10000000000000000) : ∃ r p' s', Ev (fun k => spec_l1Cur_anySheet.f k l p s) (r, p', s') ∧ r.length ≤ 61 ∧ p ≤ p' ∧ p' ≤ p + 900 := by
  obtain ⟨x, p1, s1, e1, hx, a1, b1⟩ := sheet_ok hb p s h0 (by omega)
  by_cases c : (x.length : Int) > 0
  · obtain ⟨i, p2, s2, e2, i0, i1, a2, b2⟩ := pick_ok hb p1 s1 (x.length : Int) (by omega) (by omega)
    have i1 := i1 (by omega)
    obtain ⟨q, p3, s3, e3, _, _, a3, b3⟩ := pick_ok hb p2 s2 30 (by omega) (by omega)
    by_cases c0 : q = 0
    · obtain ⟨u, v, w, p4, s4, e4, a4, b4⟩ := anyHole_ok hb p3 s3 (by omega) (by omega)
      refine ⟨x.set (i : Int).toNat ⟨u, v, w⟩, p4, s4, Ev.bind e1 (ev_of_eq (fun _ => ?_)), by simp; omega, by omega, by omega⟩
      dsimp only
      rw [if_pos c, e2, Option.bind_some, e3, Option.bind_some, if_pos c0, e4, Option.bind_some, if_pos i0, if_pos i1]
    by_cases c1 : q = 1
    · refine ⟨x ++ [⟨(rd_T42 x i).f0, (rd_T42 x i).f1, (rd_T42 x i).f2⟩], p3, s3, Ev.bind e1 (ev_of_eq (fun _ => ?_)), by simp; omega, by omega, by omega⟩
      dsimp only
      rw [if_pos c, e2, Option.bind_some, e3, Option.bind_some, if_neg c0, if_pos c1, if_pos i0, if_pos i1, if_pos (by omega)]
    by_cases c2 : q = 2
    · refine ⟨x ++ [⟨(rd_T42 x i).f0, (rd_T42 x i).f2, wrap64 (((rd_T42 x i).f2) + 2)⟩], p3, s3, Ev.bind e1 (ev_of_eq (fun _ => ?_)), by simp; omega, by omega, by omega⟩
      dsimp only
      rw [if_pos c, e2, Option.bind_some, e3, Option.bind_some, if_neg c0, if_neg c1, if_pos c2, if_pos i0, if_pos i1, if_pos (by omega)]
    by_cases c3 : q = 3
    · obtain ⟨r, e5, hr⟩ := anySheet_l0 l p3 s3 61 [] (by simp)
      refine ⟨r, p3, s3, Ev.bind e1 (Ev.congr (fun k => ?_) e5), hr, by omega, by omega⟩
      dsimp only
      rw [if_pos c, e2, Option.bind_some, e3, Option.bind_some, if_neg c0, if_neg c1, if_neg c2, if_pos c3]
    · refine ⟨x, p3, s3, Ev.bind e1 (ev_of_eq (fun _ => ?_)), by omega, by omega, by omega⟩
      dsimp only
      rw [if_pos c, e2, Option.bind_some, e3, Option.bind_some, if_neg c0, if_neg c1, if_neg c2, if_neg c3]
  · refine ⟨x, p1, s1, Ev.bind e1 (ev_of_eq (fun _ => ?_)), by omega, by omega, by omega⟩
    dsimp only
    rw [if_neg c]
theorem shDrop_ok (x : List S42) (i : Int) (h0 : 0 ≤ i) (h1 : i < x.length) (hx : x.length ≤ 1048576) : ∃ r, spec_shDrop.f x i = some r ∧ r.length ≤ x.length := by
  have hw : wrap64 (i + 1) = i + 1 := wrapS (by omega) (by omega)
  refine ⟨([] ++ x.take (i : Int).toNat) ++ x.drop (i + 1).toNat, ?_, by simp; omega⟩
  rw [spec_shDrop.f, Option.bind_some, if_pos h0, if_pos (by omega), Option.bind_some, if_pos (by simp; omega), Option.bind_some, hw, if_pos (by omega), if_pos (by omega), Option.bind_some, if_pos (by simp; omega)]
theorem changed_l0 {l : List Int} (hb : bytesOk l) (d : Nat) : ∀ (x : List S42) (p s : Int), d ≤ 1000 → x.length ≤ 60 → 0 ≤ p → p + 20 * d ≤ 1000000000000000000 →
    ∃ r p' s', Ev (fun k => spec_l1Cur_changed.l0 k x (d : Int) l p s) (r, p', s') ∧ r.length ≤ 60 ∧ p ≤ p' ∧ p' ≤ p + 20 * d := by
  induction d with
  | zero =>
    intro x p s hd hx h0 h2
    refine ⟨x, p, s, ev_step (f := fun _ => some _) (Ev.now _) (fun k => ?_), by omega, by omega, by omega⟩
    rw [spec_l1Cur_changed.l0, if_neg (by omega)]
  | succ d ih =>
    intro x p s hd hx h0 h2
    have hw : wrap64 (((d + 1 : Nat) : Int) - 1) = (d : Int) := by rw [wrapS (by omega) (by omega)]; omega
    have J2 : ∀ (y : List S42) (p1 s1 : Int), y.length ≤ 60 → 0 ≤ p1 → p1 ≤ p + 4 → ∃ r p' s', Ev (fun k => spec_l1Cur_changed.j2 k y ((d + 1 : Nat) : Int) l p1 s1) (r, p', s') ∧ r.length ≤ 60 ∧ p1 ≤ p' ∧ p' ≤ p1 + 12 + 20 * d := by
      intro y p1 s1 hy g0 g2
      obtain ⟨u, v, w, p2, s2, e1, a1, b1⟩ := hole_ok hb p1 s1 g0 (by omega)
      obtain ⟨K2, e2⟩ := shWith_ok y ⟨u, v, w⟩ hy
      obtain ⟨z, g⟩ : ∃ z, (if (sortedR (y ++ [⟨u, v, w⟩])).2 = true then (sortedR (y ++ [⟨u, v, w⟩])).1 else y) = z := ⟨_, rfl⟩
      have hz : z.length ≤ 60 := by rw [← g]; split; exact sortedR_len _; exact hy
      obtain ⟨r, p', s', ⟨K3, e3⟩, hr, a2, b2⟩ := ih z p2 s2 (by omega) hz (by omega) (by omega)
      refine ⟨r, p', s', ⟨K2 + K3 + 1, fun k hk => ?_⟩, hr, by omega, by omega⟩
      obtain ⟨q, rfl⟩ : ∃ q, k = q + 1 := ⟨k - 1, by omega⟩
      have e2 := e2 q (by omega)
      have e3 := e3 q (by omega)
      dsimp only at e2 e3 ⊢
      rw [spec_l1Cur_changed.j2, e1, Option.bind_some]
      dsimp only
      rw [e2, Option.bind_some, hw]
      rw [← g] at e3
      split <;> rename_i t
      · rw [if_pos t] at e3; exact e3
      · rw [if_neg t] at e3; exact e3
    have J1 : ∀ (t : Bool) (p1 s1 : Int), (t = true → (x.length : Int) > 0) → p ≤ p1 → p1 ≤ p + 2 → ∃ r p' s', Ev (fun k => spec_l1Cur_changed.j1 k x ((d + 1 : Nat) : Int) t l p1 s1) (r, p', s') ∧ r.length ≤ 60 ∧ p ≤ p' ∧ p' ≤ p + 20 * (d + 1 : Nat) := by
      intro t p1 s1 ht g0 g2
      cases t with
      | true =>
        have hl := ht rfl
        obtain ⟨i, p2, s2, e1, i0, i1, a1, b1⟩ := pick_ok hb p1 s1 (x.length : Int) (by omega) (by omega)
        obtain ⟨y, e2, hy⟩ := shDrop_ok x i i0 (i1 (by omega)) (by omega)
        obtain ⟨r, p', s', e3, hr, a2, b2⟩ := J2 y p2 s2 (by omega) (by omega) (by omega)
        refine ⟨r, p', s', ev_step e3 (fun k => ?_), hr, by omega, by omega⟩
        rw [spec_l1Cur_changed.j1, if_pos rfl, e1, Option.bind_some, e2, Option.bind_some]
      | false =>
        obtain ⟨r, p', s', e3, hr, a2, b2⟩ := J2 x p1 s1 hx (by omega) (by omega)
        refine ⟨r, p', s', ev_step e3 (fun k => ?_), hr, by omega, by omega⟩
        rw [spec_l1Cur_changed.j1, if_neg (by simp)]
    by_cases c : (x.length : Int) > 0
    · obtain ⟨b, p1, s1, e1, a1, b1⟩ := one_ok hb p s 2 h0 (by omega)
      obtain ⟨r, p', s', e3, hr, a2, b2⟩ := J1 b p1 s1 (fun _ => c) (by omega) (by omega)
      refine ⟨r, p', s', ev_step e3 (fun k => ?_), hr, by omega, by omega⟩
      rw [spec_l1Cur_changed.l0, if_pos (by omega), if_pos c, e1, Option.bind_some]
    · obtain ⟨r, p', s', e3, hr, a2, b2⟩ := J1 false p s (fun h => by cases h) (by omega) (by omega)
      refine ⟨r, p', s', ev_step e3 (fun k => ?_), hr, by omega, by omega⟩
      rw [spec_l1Cur_changed.l0, if_pos (by omega), if_neg c]
theorem changed_ok {l : List Int} (hb : bytesOk l) (p s : Int) (x : List S42) (hx : x.length ≤ 61) (h0 : 0 ≤ p) (h2 : p ≤ 10000000000000000) : ∃ r p' s', Ev (fun k => spec_l1Cur_changed.f k l p s x) (r, p', s') ∧ r.length ≤ 61 ∧ p ≤ p' ∧ p' ≤ p + 900 := by
  obtain ⟨K1, e1⟩ := shGood_ok x (by omega)
  dsimp only at e1
  have hl : ([] : List S42).length + x.length < 5864062014805 := by simp; omega
  cases g : good x with
  | false =>
    refine ⟨[] ++ x, p, s, ⟨K1, fun k hk => ?_⟩, by simpa using hx, by omega, by omega⟩
    dsimp only
    rw [spec_l1Cur_changed.f, Option.bind_some, if_pos hl, Option.bind_some, e1 k hk, g, Option.bind_some, if_neg (by simp)]
  | true =>
    have hx60 := good_len x g
    obtain ⟨n, p1, s1, e2, n0, n1, a1, b1⟩ := pick_ok hb p s 4 h0 (by omega)
    have n1 := n1 (by omega)
    obtain ⟨d, rfl⟩ : ∃ d : Nat, n = (d : Int) := ⟨n.toNat, by omega⟩
    obtain ⟨r, p', s', ⟨K3, e3⟩, hr, a2, b2⟩ := changed_l0 hb d ([] ++ x) p1 s1 (by omega) (by simpa using hx60) (by omega) (by omega)
    refine ⟨r, p', s', ⟨K1 + K3, fun k hk => ?_⟩, by omega, by omega, by omega⟩
    dsimp only at e3 ⊢
    rw [spec_l1Cur_changed.f, Option.bind_some, if_pos hl, Option.bind_some, e1 k (by omega), g, Option.bind_some, if_pos rfl, e2, Option.bind_some]
    exact e3 k (by omega)

/-! the draws of copies and of single changes -/
theorem agreeDraw_l0 {l : List Int} (hb : bytesOk l) (x : List S42) (hx : x.length ≤ 61) (n : Int) (hn : n ≤ 10) (d : Nat) : ∀ (out : List (List S42)) (p s : Int), n = (out.length : Int) + d ∨ (n ≤ (out.length : Int) ∧ d = 0) → out.length ≤ 10 → (∀ z ∈ out, z.length ≤ 61) → 0 ≤ p → p + 1000 * d ≤ 100000000 →
    ∃ r, Ev (fun k => spec_DrawAgreeingCopies.l0 k x out n l p s) r ∧ r.length ≤ 10 ∧ ∀ z ∈ r, z.length ≤ 61 := by
  induction d with
  | zero =>
    intro out p s hd ho hz h0 h2
    refine ⟨out, ev_step (f := fun _ => some _) (Ev.now _) (fun k => ?_), ho, hz⟩
    rw [spec_DrawAgreeingCopies.l0, if_neg (by omega)]
  | succ d ih =>
    intro out p s hd ho hz h0 h2
    obtain ⟨c, p1, s1, e1, a1, b1⟩ := one_ok hb p s 3 h0 (by omega)
    cases c with
    | true =>
      obtain ⟨y, p2, s2, ⟨K2, e2⟩, hy, a2, b2⟩ := changed_ok hb p1 s1 x hx (by omega) (by omega)
      obtain ⟨r, ⟨K3, e3⟩, h3, h4⟩ := ih (out ++ [y]) p2 s2 (by simp; omega) (by simp; omega) (by
        intro z hm
        rcases List.mem_append.1 hm with q | q
        · exact hz z q
        · rw [List.mem_singleton.1 q]; exact hy) (by omega) (by omega)
      refine ⟨r, ⟨K2 + K3 + 1, fun k hk => ?_⟩, h3, h4⟩
      obtain ⟨q, rfl⟩ : ∃ q, k = q + 1 := ⟨k - 1, by omega⟩
      have e2 := e2 q (by omega)
      dsimp only at e2 ⊢
      rw [spec_DrawAgreeingCopies.l0, if_pos (by omega), e1, Option.bind_some, if_pos rfl, e2, Option.bind_some, if_pos (by omega)]
      exact e3 q (by omega)
    | false =>
      obtain ⟨r, e3, h3, h4⟩ := ih (out ++ [x]) p1 s1 (by simp; omega) (by simp; omega) (by
        intro z hm
        rcases List.mem_append.1 hm with q | q
        · exact hz z q
        · rw [List.mem_singleton.1 q]; exact hx) (by omega) (by omega)
      refine ⟨r, ev_step e3 (fun k => ?_), h3, h4⟩
      rw [spec_DrawAgreeingCopies.l0, if_pos (by omega), e1, Option.bind_some, if_neg (by simp), if_pos (by omega)]
theorem agreeDraw_j0 {l : List Int} (hb : bytesOk l) (x : List S42) (hx : x.length ≤ 61) (n p s : Int) (h1 : 0 ≤ n) (h2 : n ≤ 10) (h3 : 0 ≤ p) (h4 : p ≤ 1000000) :
    ∃ r, Ev (fun k => spec_DrawAgreeingCopies.j0 k x [] n l p s) r ∧ r.length ≤ 10 ∧ ∀ z ∈ r, z.length ≤ 61 := by
  obtain ⟨r, e, h5, h6⟩ := agreeDraw_l0 hb x hx n h2 n.toNat [] p s (.inl (by simp; omega)) (by simp) (by simp) h3 (by omega)
  exact ⟨r, ev_step e (fun k => by rw [spec_DrawAgreeingCopies.j0]), h5, h6⟩
theorem agreeDraw_ok {l : List Int} (hb : bytesOk l) : ∃ r, Ev (fun k => spec_DrawAgreeingCopies.f k l) r ∧ r.length ≤ 10 ∧ ∀ z ∈ r, z.length ≤ 61 := by
  obtain ⟨x, p1, s1, ⟨K1, e1⟩, hx, a1, b1⟩ := anySheet_ok hb 0 0 (by omega) (by omega)
  obtain ⟨n, p2, s2, e2, n0, n1, a2, b2⟩ := pick_ok hb p1 s1 5 (by omega) (by omega)
  have n1 := n1 (by omega)
  obtain ⟨c, p3, s3, e3, a3, b3⟩ := one_ok hb p2 s2 16 (by omega) (by omega)
  cases c with
  | true =>
    obtain ⟨m, p4, s4, e4, hm, a4, b4⟩ := among_ok hb p3 s3 [0, 9, 10] (by simp) (by omega) (by omega)
    have hm2 : 0 ≤ m ∧ m ≤ 10 := by simp at hm; omega
    obtain ⟨r, ⟨K2, e5⟩, h3, h4⟩ := agreeDraw_j0 hb x hx m p4 s4 hm2.1 hm2.2 (by omega) (by omega)
    refine ⟨r, ⟨K1 + K2, fun k hk => ?_⟩, h3, h4⟩
    have e1 := e1 k (by omega)
    dsimp only at e1 ⊢
    rw [spec_DrawAgreeingCopies.f, e1, Option.bind_some]
    dsimp only
    rw [e2, Option.bind_some]
    dsimp only
    rw [e3, Option.bind_some, if_pos rfl, e4, Option.bind_some]
    exact e5 k (by omega)
  | false =>
    obtain ⟨r, ⟨K2, e5⟩, h3, h4⟩ := agreeDraw_j0 hb x hx (wrap64 (1 + n)) p3 s3 (by rw [wrapS (by omega) (by omega)]; omega) (by rw [wrapS (by omega) (by omega)]; omega) (by omega) (by omega)
    refine ⟨r, ⟨K1 + K2, fun k hk => ?_⟩, h3, h4⟩
    have e1 := e1 k (by omega)
    dsimp only at e1 ⊢
    rw [spec_DrawAgreeingCopies.f, e1, Option.bind_some]
    dsimp only
    rw [e2, Option.bind_some]
    dsimp only
    rw [e3, Option.bind_some, if_neg (by simp)]
    exact e5 k (by omega)
theorem ckDraw_ok {l : List Int} (hb : bytesOk l) (p s : Int) (h0 : 0 ≤ p) (h2 : p ≤ 100000000000000000) : ∃ r p' s', spec_l1Cur_checksum.f l p s = some (r, p', s') ∧ p ≤ p' ∧ p' ≤ p + 6 := by
  obtain ⟨x, p1, s1, e1, _, _, a1, b1⟩ := pick_ok hb p s 60000 h0 (by omega)
  obtain ⟨y, p2, s2, e2, _, a2, b2⟩ := among_ok hb p1 s1 [1000003, (-1)] (by simp) (by omega) (by omega)
  obtain ⟨z, p3, s3, e3, _, a3, b3⟩ := among_ok hb p2 s2 [0, 1, 31, x, 1000002, y] (by simp) (by omega) (by omega)
  refine ⟨z, p3, s3, ?_, by omega, by omega⟩
  rw [spec_l1Cur_checksum.f, e1, Option.bind_some]
  dsimp only
  rw [e2, Option.bind_some]
  dsimp only
  rw [e3, Option.bind_some]
theorem singleDraw_j0 {l : List Int} (hb : bytesOk l) (x : List S42) (hx : x.length ≤ 61) (b : Bool) (hbn : b = false → 1 ≤ x.length) (p s : Int) (h0 : 0 ≤ p) (h2 : p ≤ 100000000) :
    ∃ c, Ev (fun k => spec_DrawSingleChanges.j0 k x b l p s) (x, c) := by
  cases b with
  | true =>
    obtain ⟨c, p1, s1, e1, _, _⟩ := ckDraw_ok hb p s h0 (by omega)
    refine ⟨c, ev_step (f := fun _ => some _) (Ev.now _) (fun k => ?_)⟩
    rw [spec_DrawSingleChanges.j0, if_pos rfl, e1, Option.bind_some]
  | false =>
    have h1 := hbn rfl
    obtain ⟨i, p1, s1, e1, i0, i1, a1, b1⟩ := pick_ok hb p s (x.length : Int) h0 (by omega)
    have i1 := i1 (by omega)
    obtain ⟨d, p2, s2, e2, d0, d1, a2, b2⟩ := pick_ok hb p1 s1 9 (by omega) (by omega)
    obtain ⟨y, hy⟩ : ∃ y, y = ([] ++ x : List S42).set (i : Int).toNat (⟨(rd_T42 ([] ++ x) i).f0, (rd_T42 ([] ++ x) i).f1, wrap64 (((rd_T42 ([] ++ x) i).f2) + (wrap64 (d - 4)))⟩ : S42) := ⟨_, rfl⟩
    have hyl : y.length ≤ 61 := by rw [hy]; simpa using hx
    obtain ⟨K1, q1⟩ := shGood_ok y (by omega)
    obtain ⟨K2, q2⟩ := ckSum_ok y (by omega)
    obtain ⟨K3, q3⟩ := ckSum_ok x (by omega)
    refine ⟨if good y = true then sumOf 1 y else sumOf 1 x, K1 + K2 + K3 + 1, fun k hk => ?_⟩
    obtain ⟨q, rfl⟩ : ∃ q, k = q + 1 := ⟨k - 1, by omega⟩
    have q1 := q1 q (by omega)
    have q2 := q2 q (by omega)
    have q3 := q3 q (by omega)
    have hl : ([] : List S42).length + x.length < 5864062014805 := by simp; omega
    have hxl : (([] ++ x : List S42).length : Int) = (x.length : Int) := by simp
    dsimp only at q1 q2 q3 ⊢
    rw [spec_DrawSingleChanges.j0, if_neg (by simp)]
    simp only [Option.bind_some]
    rw [if_pos hl]
    try simp only [Option.bind_some]
    rw [hxl, e1, Option.bind_some, if_pos i0, if_pos i1]
    dsimp only
    rw [e2, Option.bind_some]
    dsimp only
    rw [← hy, q1, Option.bind_some]
    by_cases g : good y = true
    · rw [if_pos g, if_pos g, q2, Option.bind_some]
    · rw [if_neg g, if_neg g, q3, Option.bind_some]
theorem singleDraw_ok {l : List Int} (hb : bytesOk l) : ∃ x c, Ev (fun k => spec_DrawSingleChanges.f k l) (x, c) ∧ x.length ≤ 61 := by
  obtain ⟨x, p1, s1, ⟨K1, e1⟩, hx, a1, b1⟩ := anySheet_ok hb 0 0 (by omega) (by omega)
  obtain ⟨K2, e2⟩ := shGood_ok x (by omega)
  by_cases g : good x = true
  · by_cases h0 : (x.length : Int) = 0
    · obtain ⟨c, K3, e3⟩ := singleDraw_j0 hb x hx true (by simp) p1 s1 (by omega) (by omega)
      refine ⟨x, c, ⟨K1 + K2 + K3, fun k hk => ?_⟩, hx⟩
      have e1 := e1 k (by omega)
      have e2 := e2 k (by omega)
      dsimp only at e1 e2 ⊢
      rw [spec_DrawSingleChanges.f, e1, Option.bind_some]
      dsimp only
      rw [e2, Option.bind_some, if_pos g, if_pos h0]
      exact e3 k (by omega)
    · obtain ⟨b, p2, s2, q2, a2, b2⟩ := one_ok hb p1 s1 6 (by omega) (by omega)
      obtain ⟨c, K3, e3⟩ := singleDraw_j0 hb x hx b (by omega) p2 s2 (by omega) (by omega)
      refine ⟨x, c, ⟨K1 + K2 + K3, fun k hk => ?_⟩, hx⟩
      have e1 := e1 k (by omega)
      have e2 := e2 k (by omega)
      dsimp only at e1 e2 ⊢
      rw [spec_DrawSingleChanges.f, e1, Option.bind_some]
      dsimp only
      rw [e2, Option.bind_some, if_pos g, if_neg h0, q2, Option.bind_some]
      exact e3 k (by omega)
  · obtain ⟨c, K3, e3⟩ := singleDraw_j0 hb x hx true (by simp) p1 s1 (by omega) (by omega)
    refine ⟨x, c, ⟨K1 + K2 + K3, fun k hk => ?_⟩, hx⟩
    have e1 := e1 k (by omega)
    have e2 := e2 k (by omega)
    dsimp only at e1 e2 ⊢
    rw [spec_DrawSingleChanges.f, e1, Option.bind_some]
    dsimp only
    rw [e2, Option.bind_some, if_neg g]
    exact e3 k (by omega)

/-! what the law asks of agreeing copies and of single changes -/
theorem idxOf_mem (v : Int) (l : List Int) : ∀ (j : Int) (i : Int), i ∈ idxOf v l j ↔ ∃ n : Nat, n < l.length ∧ i = j + n ∧ l.getD n 0 = v := by
  induction l with
  | nil => intro j i; simp [idxOf]
  | cons x l ih =>
    intro j i
    have key : (∃ n : Nat, n < (x :: l).length ∧ i = j + n ∧ (x :: l).getD n 0 = v) ↔ (i = j ∧ x = v) ∨ ∃ n : Nat, n < l.length ∧ i = (j + 1) + n ∧ l.getD n 0 = v := by
      constructor
      · rintro ⟨n, h1, h2, h3⟩
        rcases n with _ | n
        · left; exact ⟨by simpa using h2, by simpa using h3⟩
        · right; exact ⟨n, by simpa using h1, by rw [h2]; push_cast; omega, by simpa using h3⟩
      · rintro (⟨h1, h2⟩ | ⟨n, h1, h2, h3⟩)
        · exact ⟨0, by simp, by simpa using h1, by simpa using h2⟩
        · exact ⟨n + 1, by simpa using h1, by rw [h2]; push_cast; omega, by simpa using h3⟩
    rw [key, idxOf]
    by_cases c : x = v
    · rw [if_pos c, List.mem_cons, ih]
      simp [c]
    · rw [if_neg c, ih]
      simp [c]
theorem idxOf_ne (v : Int) (l : List Int) (h : v ∈ l) : ∀ j, idxOf v l j ≠ [] := by
  induction l with
  | nil => cases h
  | cons x l ih =>
    intro j
    rw [idxOf]
    by_cases c : x = v
    · rw [if_pos c]; simp
    · rw [if_neg c]
      rcases List.mem_cons.1 h with e | e
      · exact absurd e.symm c
      · exact ih e _
theorem bestOf_is (all : List Int) (r : List Int) : ∀ acc, (∀ v ∈ r, v ∈ all) → ((∃ v ∈ all, acc = idxOf v all 0) ∨ (acc = [] ∧ r ≠ [])) → ∃ v ∈ all, bestOf all acc r = idxOf v all 0 := by
  induction r with
  | nil =>
    intro acc _ h
    rcases h with h | h
    · exact h
    · exact absurd rfl h.2
  | cons v r ih =>
    intro acc hr h
    rw [bestOf]
    refine ih _ (fun u hu => hr u (by simp [hu])) ?_
    left
    have hv := hr v (by simp)
    unfold better
    by_cases c : ((idxOf v all 0).length : Int) > (acc.length : Int)
    · rw [if_pos c]; exact ⟨v, hv, rfl⟩
    · rw [if_neg c]
      rcases h with h | h
      · exact h
      · exfalso
        have := idxOf_ne v all hv 0
        rw [h.1] at c
        have h2 : (idxOf v all 0).length ≠ 0 := fun e => this (List.length_eq_zero_iff.1 e)
        simp at c
        exact this c
theorem agreeR_true (l : List (List S42)) (h : (agreeR l).2 = true) : (∀ x ∈ l, good x = true) ∧ 1 ≤ l.length ∧ l.length ≤ 9 ∧ ∃ v, v ∈ sumsOf l ∧ (agreeR l).1 = idxOf v (sumsOf l) 0 := by
  unfold agreeR at h ⊢
  by_cases c : (l.all good && decide (1 ≤ (l.length : Int) ∧ (l.length : Int) ≤ 9)) = true
  · rw [if_pos c]
    obtain ⟨c1, c2⟩ := Bool.and_eq_true_iff.1 c
    have c2 := of_decide_eq_true c2
    have hs : sumsOf l ≠ [] := by
      intro e
      have : (sumsOf l).length = l.length := by unfold sumsOf; simp
      rw [e] at this; simp at this; omega
    obtain ⟨v, hv, e⟩ := bestOf_is (sumsOf l) (sumsOf l) [] (fun _ h => h) (.inr ⟨rfl, hs⟩)
    exact ⟨fun x hx => List.all_eq_true.1 c1 x hx, by omega, by omega, v, hv, e⟩
  · rw [if_neg c] at h; cases h
theorem sumsOf_get (l : List (List S42)) (n : Nat) (h : n < l.length) : (sumsOf l).getD n 0 = sumOf 1 (l[n]'h) := by
  unfold sumsOf
  rw [List.getD_eq_getElem?_getD, List.getElem?_map, List.getElem?_eq_getElem h]
  rfl
theorem set_split {α : Type} (l : List α) (i : Nat) (h : i < l.length) (y : α) : l.set i y = l.take i ++ y :: l.drop (i + 1) := List.set_eq_take_append_cons_drop.trans (if_pos h)
theorem self_split {α : Type} (l : List α) (i : Nat) (h : i < l.length) : l = l.take i ++ l[i]'h :: l.drop (i + 1) := by
  rw [List.getElem_cons_drop h]; exact (List.take_append_drop i l).symm
theorem filter_one (A B : List S42) (x : S42) (p : S42 → Bool) (hA : ∀ a ∈ A, p a = false) (hB : ∀ b ∈ B, p b = false) (hx : p x = true) : (A ++ x :: B).filter p = [x] := by
  rw [List.filter_append, List.filter_cons_of_pos hx, List.filter_eq_nil_iff.2 (by intro a ha; rw [hA a ha]; simp), List.filter_eq_nil_iff.2 (by intro b hb; rw [hB b hb]; simp)]
  rfl
theorem dist_split (A B : List S42) (x y : S42) (hx : (A ++ x :: B).Nodup) (hy : (A ++ y :: B).Nodup) (hne : x ≠ y) : dist (A ++ x :: B) (A ++ y :: B) = 2 := by
  have in_of : ∀ (u v : S42), (A ++ u :: B).Nodup → u ≠ v → less (A ++ u :: B) (A ++ v :: B) = [u] := by
    intro u v hu hne
    rw [List.nodup_append] at hu
    obtain ⟨_, h2, h3⟩ := hu
    obtain ⟨h4, _⟩ := List.nodup_cons.1 h2
    unfold less
    refine filter_one A B u _ (fun a ha => ?_) (fun b hb => ?_) ?_
    · have : hasH (A ++ v :: B) a = true := (hasH_mem _ _).2 (by simp [ha])
      rw [this]; rfl
    · have : hasH (A ++ v :: B) b = true := (hasH_mem _ _).2 (by simp [hb])
      rw [this]; rfl
    · have : ¬ hasH (A ++ v :: B) u = true := by
        rw [hasH_mem]
        intro hm
        rcases List.mem_append.1 hm with q | q
        · exact h3 u q u (by simp) rfl
        · rcases List.mem_cons.1 q with e | e
          · exact hne e
          · exact h4 e
      rw [Bool.not_eq_true] at this
      rw [this]; rfl
  unfold dist
  rw [in_of x y hx hne, in_of y x hy (Ne.symm hne)]
  simp only [List.length_singleton]
  exact wrapS (by decide) (by decide)
theorem innerOf_is (l : List S42) (s : Int) (i d : Nat) : ∀ b, ∀ z ∈ innerOf l s i d b, ∃ c : Int, b ≤ c ∧ c < b + d ∧ keepIt l s i c = true ∧ z = chg l i c := by
  induction d with
  | zero => intro b z hz; simp [innerOf] at hz
  | succ d ih =>
    intro b z hz
    rw [innerOf] at hz
    have rec_ : ∀ z ∈ innerOf l s i d (b + 1), ∃ c : Int, b ≤ c ∧ c < b + (d + 1 : Nat) ∧ keepIt l s i c = true ∧ z = chg l i c := by
      intro z hz
      obtain ⟨c, h1, h2, h3, h4⟩ := ih (b + 1) z hz
      exact ⟨c, by omega, by push_cast at h2 ⊢; omega, h3, h4⟩
    by_cases c : keepIt l s i b = true
    · rw [if_pos c] at hz
      rcases List.mem_cons.1 hz with rfl | hz
      · exact ⟨b, by omega, by push_cast; omega, c, rfl⟩
      · exact rec_ z hz
    · rw [if_neg c] at hz; exact rec_ z hz
theorem outerOf_is (l : List S42) (s : Int) (d : Nat) : ∀ i, i + d = l.length → ∀ z ∈ outerOf l s d i, ∃ (n : Nat) (c : Int), n < l.length ∧ -3 ≤ c ∧ c < 4 ∧ keepIt l s n c = true ∧ z = chg l n c := by
  induction d with
  | zero => intro i _ z hz; simp [outerOf] at hz
  | succ d ih =>
    intro i hi z hz
    rw [outerOf] at hz
    rcases List.mem_append.1 hz with h | h
    · obtain ⟨c, h1, h2, h3, h4⟩ := innerOf_is l s i 7 (-3) z h
      exact ⟨i, c, by omega, h1, by omega, h3, h4⟩
    · exact ih (i + 1) (by omega) z h
/-- A single change: a sheet of the same length with the checksum that was asked for, two holes apart. -/
theorem single_is (l : List S42) (s : Int) : ∀ z ∈ (singleR l s).1, good z = true ∧ sumOf 1 z = s ∧ dist l z = 2 ∧ z.length = l.length ∧ good l = true := by
  intro z hz
  unfold singleR at hz
  by_cases c : (good l && decide (0 ≤ s ∧ s ≤ 1000002)) = true
  · rw [if_pos c] at hz
    have gl := (Bool.and_eq_true_iff.1 c).1
    obtain ⟨n, b, h1, h2, h3, h4, rfl⟩ := outerOf_is l s l.length 0 (by omega) z hz
    unfold keepIt at h4
    simp only [Bool.and_eq_true, decide_eq_true_eq] at h4
    obtain ⟨k1, k2, k3⟩ := h4
    refine ⟨k2, k3, ?_, by unfold chg; simp, gl⟩
    have hl := good_nodup l gl
    have hz := good_nodup _ k2
    have hb := (good_iff l).1 gl
    have hm : l[n]'h1 ∈ l := List.getElem_mem h1
    have hob := holeOk_bounds (hb.1 _ hm)
    have er : rd_T42 l (n : Int) = l[n]'h1 := by
      rw [rd_T42, List.getD_eq_getElem?_getD, Int.toNat_natCast, List.getElem?_eq_getElem h1]; rfl
    unfold chg at hz ⊢
    rw [er] at hz ⊢
    rw [set_split l n h1] at hz ⊢
    have e := self_split l n h1
    have hne : l[n]'h1 ≠ ⟨(l[n]'h1).f0, (l[n]'h1).f1, wrap64 ((l[n]'h1).f2 + b)⟩ := by
      intro e
      have e2 := congrArg (·.f2) e
      simp only at e2
      rw [wrapS (by omega) (by omega)] at e2
      omega
    have hl' : (l.take n ++ l[n]'h1 :: l.drop (n + 1)).Nodup := e ▸ hl
    have r := dist_split _ _ _ _ hl' hz hne
    rwa [← e] at r
  · rw [if_neg c] at hz; cases hz

/-! lists of holes, and of sheets, held against themselves -/
theorem sameH_l0 (suf : List S42) : ∀ pre : List S42, (pre ++ suf).length ≤ 4000000 → Ev (fun k => laws_pSameHoles.l0 k (pre ++ suf) (pre ++ suf) ((pre ++ suf).length : Int) (pre.length : Int)) true := by
  induction suf with
  | nil =>
    intro pre _
    refine ev_step (f := fun _ => some _) (Ev.now _) (fun k => ?_)
    rw [laws_pSameHoles.l0, if_neg (by simp)]
  | cons x suf ih =>
    intro pre hl
    have h := ih (pre ++ [x]) (by simp at hl ⊢; omega)
    rw [snoc_app, snoc_leni] at h
    have hl' : (pre.length : Int) < ((pre ++ x :: suf).length : Int) := by simp; omega
    refine ev_step h (fun k => ?_)
    rw [laws_pSameHoles.l0, if_pos hl', if_pos (by omega), if_pos hl', if_pos hl', if_neg (by simp), wrapS (by omega) (by simp at hl; omega)]
theorem sameHoles_ok (l : List S42) (h : l.length ≤ 4000000) : Ev (fun k => laws_pSameHoles.f k l l) true := by
  have := sameH_l0 l [] (by simpa using h)
  refine Ev.congr (fun k => ?_) this
  rw [laws_pSameHoles.f, if_pos rfl]
  rfl
theorem rdR_mid (pre suf : List (List S42)) (x : List S42) : rd_L3 (pre ++ x :: suf) (pre.length : Int) = x := getD_mid _ _ _ _ _ (by simp)
theorem sameS_l0 (suf : List (List S42)) (hz : ∀ z ∈ suf, z.length ≤ 4000000) : ∀ pre : List (List S42), (pre ++ suf).length ≤ 4000000 → Ev (fun k => laws_pSameSheets.l0 k (pre ++ suf) (pre ++ suf) ((pre ++ suf).length : Int) (pre.length : Int)) true := by
  induction suf with
  | nil =>
    intro pre _
    refine ev_step (f := fun _ => some _) (Ev.now _) (fun k => ?_)
    rw [laws_pSameSheets.l0, if_neg (by simp)]
  | cons x suf ih =>
    intro pre hl
    have h := ih (fun z q => hz z (by simp [q])) (pre ++ [x]) (by simp at hl ⊢; omega)
    rw [snoc_app, snoc_leni] at h
    have hl' : (pre.length : Int) < ((pre ++ x :: suf).length : Int) := by simp; omega
    obtain ⟨K1, e1⟩ := sameHoles_ok x (hz x (by simp))
    obtain ⟨K2, e2⟩ := h
    refine ⟨K1 + K2 + 1, fun k hk => ?_⟩
    obtain ⟨q, rfl⟩ : ∃ q, k = q + 1 := ⟨k - 1, by omega⟩
    have e1 := e1 q (by omega)
    have e2 := e2 q (by omega)
    dsimp only at e1 e2 ⊢
    rw [laws_pSameSheets.l0, if_pos hl', if_pos (by omega), if_pos hl', if_pos hl', rdR_mid, e1, Option.bind_some, if_pos rfl, wrapS (by omega) (by simp at hl; omega)]
    exact e2
theorem sameSheets_ok (l : List (List S42)) (h : l.length ≤ 4000000) (hz : ∀ z ∈ l, z.length ≤ 4000000) : Ev (fun k => laws_pSameSheets.f k l l) true := by
  have := sameS_l0 l hz [] (by simpa using h)
  refine Ev.congr (fun k => ?_) this
  rw [laws_pSameSheets.f, if_pos rfl]
  rfl

end Go.Proofs.Ytplpjmhmochcfaa.LFnCopiesA
