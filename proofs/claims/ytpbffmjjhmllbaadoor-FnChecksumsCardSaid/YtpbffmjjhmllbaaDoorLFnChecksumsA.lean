/- Plain lemmas on what the printed functions of this law compute; each with the conditions that it names. -/
import Derived.Test.YtpbffmjjhmllbaaDoorQFnChecksumsx1
import Derived.Test.YtpbffmjjhmllbaaDoorQFnChecksumsx2
import Derived.Test.YtpbffmjjhmllbaaDoorQFnChecksumsx3
import Derived.Test.YtpbffmjjhmllbaaDoorQFnChecksumsx4
import Derived.Test.YtpbffmjjhmllbaaDoorQFnChecksumsx5
import Derived.Test.YtpbffmjjhmllbaaDoorQFnChecksumsx6
import Derived.Test.YtpbffmjjhmllbaaDoorQFnChecksumsx7
import Derived.Test.YtpbffmjjhmllbaaDoorQFnChecksumsx8
import Derived.Test.YtpbffmjjhmllbaaDoorQFnChecksumsx9
import Derived.Test.YtpbffmjjhmllbaaDoorQFnChecksumsx10
import Derived.Test.YtpbffmjjhmllbaaDoorQFnChecksumsx11
import Derived.Test.YtpbffmjjhmllbaaDoorQFnChecksumsx12
import Derived.Test.YtpbffmjjhmllbaaDoorQFnChecksumsx13
import Derived.Test.YtpbffmjjhmllbaaDoorBaseH
import Derived.Laws.Bits64b
import Derived.Lib.ItoaNum
import Derived.Lib.ItoaMem
namespace Go.Proofs.YtpbffmjjhmllbaaDoor.LFnChecksumsA
open Go Go.RowKit Go.Proofs.YtpbffmjjhmllbaaDoor.QFnChecksums Go.Proofs.YtpbffmjjhmllbaaDoorW.PrintWords Go.Proofs.YtpbffmjjhmllbaaDoorW.PrintLast Go.Proofs.YtpbffmjjhmllbaaDoorW.PrintMore Go.Proofs.YtpbffmjjhmllbaaDoor.Base
set_option linter.unusedVariables false
set_option linter.unusedSimpArgs false

/-! one hole: whether it is valid, its number -/
/-- A valid hole. -/
def holeOk (t a b : Int) : Bool := decide (0 ≤ t ∧ t ≤ 19 ∧ 0 ≤ a ∧ a ≤ 1999 ∧ a < b ∧ b ≤ 2000)

theorem shHole_ok (t a b : Int) : spec_shHole.f t a b = some (holeOk t a b) := by
  unfold spec_shHole.f spec_l1In.f holeOk
  by_cases h1 : 0 ≤ t
  · by_cases h2 : t ≤ 19
    · by_cases h3 : 0 ≤ a
      · by_cases h4 : a ≤ 1999
        · have hw : wrap64 (a + 1) = a + 1 := wrapS (by omega) (by omega)
          by_cases h5 : a + 1 ≤ b
          · simp [h1, h2, h3, h4, hw, h5, show a < b by omega]
          · simp [h1, h2, h3, h4, hw, h5, show ¬ a < b by omega]
        · simp [h1, h2, h3, h4]
      · simp [h1, h2, h3]
    · simp [h1, h2]
  · simp [h1]

theorem isHole_ok (t a b : Int) : impl_IsHole.f t a b = some (holeOk t a b) := by
  unfold impl_IsHole.f impl_isTrack.f holeOk
  by_cases h1 : 0 ≤ t
  · by_cases h2 : t < 20
    · by_cases h3 : 0 ≤ a
      · by_cases h4 : a < b
        · by_cases h5 : b ≤ 2000
          · simp [h1, h2, h3, h4, h5, show t ≤ 19 by omega, show a ≤ 1999 by omega]
          · simp [h1, h2, h3, h4, h5]
        · simp [h1, h2, h3, h4]
      · simp [h1, h2, h3]
    · simp [h1, h2, show ¬ t ≤ 19 by omega]
  · simp [h1]

theorem holeOk_bounds {t a b : Int} (h : holeOk t a b = true) : 0 ≤ t ∧ t ≤ 19 ∧ 0 ≤ a ∧ a ≤ 1999 ∧ a < b ∧ b ≤ 2000 := by
  simpa [holeOk] using h

/-! slices of holes: copied, held against each other; valid sheets -/
theorem rdH_mid (pre suf : List S33) (x : S33) : rd_T33 (pre ++ x :: suf) (pre.length : Int) = x := getD_mid _ _ _ _ _ (by simp)

/-- The hole x meets the earlier hole y. -/
def meets (x y : S33) : Bool := decide (x.f0 = y.f0 ∧ x.f1 ≤ y.f2)
def before (a b : S33) : Bool := decide (a.f1 < b.f1 ∨ (a.f1 = b.f1 ∧ a.f0 < b.f0))
def lastBefore (pre : List S33) (x : S33) : Bool := match pre.getLast? with | none => true | some p => before p x
def goodAt (pre : List S33) (x : S33) : Bool := holeOk x.f0 x.f1 x.f2 && (lastBefore pre x && !(pre.any (meets x)))
def goodFrom : List S33 → List S33 → Bool
  | _, [] => true
  | pre, x :: suf => goodAt pre x && goodFrom (pre ++ [x]) suf
/-- A valid sheet. -/
def good (l : List S33) : Bool := goodFrom [] l && decide (l.length ≤ 60)

theorem shBefore_ok (a b : S33) : spec_shBefore.f a.f0 a.f1 a.f2 b.f0 b.f1 b.f2 = some (before a b) := by
  unfold spec_shBefore.f before
  by_cases h : a.f1 < b.f1
  · simp [h]
  · by_cases h1 : a.f1 = b.f1
    · simp [h1]
    · simp [h, h1]
theorem holeLess_ok (a b : S33) : impl_holeLess.f a.f0 a.f1 a.f2 b.f0 b.f1 b.f2 = some (before a b) := by
  unfold impl_holeLess.f before
  by_cases h1 : a.f1 = b.f1
  · simp [h1]
  · simp [h1]

theorem shGood_l1 (x : S33) (l : List S33) (n i : Int) (r : Bool) (suf : List S33) : ∀ pre : List S33, (pre ++ suf).length ≤ 9223372036854775806 →
    (suf.any (meets x) = true → r = false) → (suf.any (meets x) = false → Ev (fun k => spec_shGood.l0 k l l n (wrap64 (i + 1))) r) →
    Ev (fun k => spec_shGood.l1 k l l n i (pre ++ suf) ((pre ++ suf).length : Int) (pre.length : Int) x.f0 x.f1 x.f2) r := by
  induction suf with
  | nil =>
    intro pre _ _ h
    refine ev_step (h rfl) (fun k => ?_)
    rw [spec_shGood.l1, if_neg (by simp)]
  | cons y suf ih =>
    intro pre hl h1 h2
    have hl' : (pre.length : Int) < ((pre ++ y :: suf).length : Int) := by simp; omega
    have hw : wrap64 ((pre.length : Int) + 1) = (pre.length : Int) + 1 := wrapS (by omega) (by simp at hl; omega)
    by_cases hm : meets x y = true
    · have e : r = false := h1 (by simp [hm])
      subst e
      simp only [meets, decide_eq_true_eq] at hm
      refine ev_step ev_const (fun k => ?_)
      rw [spec_shGood.l1, if_pos hl', if_pos (by omega), if_pos hl', rdH_mid, if_pos hm.1, if_pos hm.2]
    · replace hm : meets x y = false := by simpa using hm
      have h := ih (pre ++ [y]) (by simp at hl ⊢; omega) (fun e => h1 (by simp [e])) (fun e => h2 (by simp [hm, e]))
      rw [snoc_app, snoc_leni] at h
      simp only [meets, decide_eq_false_iff_not] at hm
      refine ev_step h (fun k => ?_)
      rw [spec_shGood.l1, if_pos hl', if_pos (by omega), if_pos hl', rdH_mid, hw]
      by_cases e : x.f0 = y.f0
      · rw [if_pos e, if_neg (fun e2 => hm ⟨e, e2⟩)]
      · rw [if_neg e]

theorem shGood_j1 (x : S33) (pre suf : List S33) (n : Int) (b r : Bool) (hl : (pre ++ suf).length ≤ 9223372036854775806) (hb : b = true → r = false) (h1 : b = false → pre.any (meets x) = true → r = false)
    (h2 : b = false → pre.any (meets x) = false → Ev (fun k => spec_shGood.l0 k (pre ++ suf) (pre ++ suf) n (wrap64 ((pre.length : Int) + 1))) r) :
    Ev (fun k => spec_shGood.j1 k (pre ++ suf) (pre.length : Int) (pre ++ suf) n (pre.length : Int) b x.f0 x.f1 x.f2) r := by
  cases b with
  | true =>
    obtain rfl := hb rfl
    refine ev_step ev_const (fun k => ?_)
    rw [spec_shGood.j1, if_pos rfl]
  | false =>
    have h := shGood_l1 x (pre ++ suf) n (pre.length : Int) r pre [] (by simp at hl ⊢; omega) (h1 rfl) (h2 rfl)
    refine ev_step h (fun k => ?_)
    rw [spec_shGood.j1, if_neg (by decide), if_pos (by omega), if_pos (by simp; omega)]
    simp

theorem shGood_l0 (suf : List S33) : ∀ pre : List S33, (pre ++ suf).length ≤ 9223372036854775806 →
    Ev (fun k => spec_shGood.l0 k (pre ++ suf) (pre ++ suf) ((pre ++ suf).length : Int) (pre.length : Int)) (goodFrom pre suf && decide ((pre ++ suf).length ≤ 60)) := by
  induction suf with
  | nil =>
    intro pre _
    refine ev_step (Ev.now _) (fun k => ?_)
    rw [spec_shGood.l0, if_neg (by simp)]
    simp [goodFrom]
    omega
  | cons x suf ih =>
    intro pre hl
    have h := ih (pre ++ [x]) (by simp at hl ⊢; omega)
    rw [snoc_app, snoc_leni] at h
    have hl' : (pre.length : Int) < ((pre ++ x :: suf).length : Int) := by simp; omega
    have hw : wrap64 ((pre.length : Int) + 1) = (pre.length : Int) + 1 := wrapS (by omega) (by simp at hl; omega)
    have J : ∀ b, (b = !(holeOk x.f0 x.f1 x.f2 && lastBefore pre x)) → Ev (fun k => spec_shGood.j1 k (pre ++ x :: suf) (pre.length : Int) (pre ++ x :: suf) ((pre ++ x :: suf).length : Int) (pre.length : Int) b x.f0 x.f1 x.f2) (goodFrom pre (x :: suf) && decide ((pre ++ x :: suf).length ≤ 60)) := by
      intro b hb
      refine shGood_j1 x pre (x :: suf) _ b _ hl (fun e => ?_) (fun e e2 => ?_) (fun e e2 => ?_)
      · simp only [goodFrom, goodAt]
        cases h1 : holeOk x.f0 x.f1 x.f2 <;> cases h2 : lastBefore pre x <;> simp_all
      · simp [goodFrom, goodAt, e2]
      · rw [hw]
        have e3 : goodFrom pre (x :: suf) = goodFrom (pre ++ [x]) suf := by
          simp only [goodFrom, goodAt, e2]
          cases h1 : holeOk x.f0 x.f1 x.f2 <;> cases h2 : lastBefore pre x <;> simp_all
        rw [e3]
        exact h
    cases ho : holeOk x.f0 x.f1 x.f2 with
    | false =>
      refine ev_step (J true (by simp [ho])) (fun k => ?_)
      rw [spec_shGood.l0, if_pos hl', if_pos (by omega), if_pos hl', rdH_mid, shHole_ok, ho]
      simp
    | true =>
      rcases List.eq_nil_or_concat pre with rfl | ⟨pre', p, rfl⟩
      · refine ev_step (J false (by simp [ho, lastBefore])) (fun k => ?_)
        rw [spec_shGood.l0, if_pos hl', if_pos (by omega), if_pos hl', rdH_mid, shHole_ok, ho]
        simp
      · refine ev_step (J (!(before p x)) (by simp [ho, lastBefore])) (fun k => ?_)
        have e1 : ((pre' ++ [p]).length : Int) = (pre'.length : Int) + 1 := by simp
        have hw2 : wrap64 (((pre' ++ [p]).length : Int) - 1) = (pre'.length : Int) := by
          rw [e1, wrapS (by omega) (by simp at hl; omega)]; omega
        have e2 : rd_T33 (pre' ++ [p] ++ x :: suf) (pre'.length : Int) = p := by
          rw [snoc_app]; exact rdH_mid _ _ _
        rw [spec_shGood.l0, if_pos hl', if_pos (by omega), if_pos hl', rdH_mid, shHole_ok, ho]
        simp only [List.concat_eq_append] at *
        simp only [Option.bind_some, if_true]
        rw [if_pos (by omega), hw2, if_pos (by omega), if_pos (by simp; omega), e2, shBefore_ok]
        simp only [Option.bind_some]

theorem shGood_ok (l : List S33) (h : l.length ≤ 9223372036854775806) : Ev (fun k => spec_shGood.f k l) (good l) :=
  Ev.congr (fun _ => rfl) (shGood_l0 l [] (by simpa using h))

theorem isSheet_l1 (x : S33) (l : List S33) (n i : Int) (r : Bool) (suf : List S33) : ∀ pre : List S33, (pre ++ suf).length ≤ 9223372036854775806 →
    (suf.any (meets x) = true → r = false) → (suf.any (meets x) = false → Ev (fun k => impl_IsSheet.l0 k l l n (wrap64 (i + 1))) r) →
    Ev (fun k => impl_IsSheet.l1 k l l n i (pre ++ suf) ((pre ++ suf).length : Int) (pre.length : Int) x.f0 x.f1 x.f2) r := by
  induction suf with
  | nil =>
    intro pre _ _ h
    refine ev_step (h rfl) (fun k => ?_)
    rw [impl_IsSheet.l1, if_neg (by simp)]
  | cons y suf ih =>
    intro pre hl h1 h2
    have hl' : (pre.length : Int) < ((pre ++ y :: suf).length : Int) := by simp; omega
    have hw : wrap64 ((pre.length : Int) + 1) = (pre.length : Int) + 1 := wrapS (by omega) (by simp at hl; omega)
    by_cases hm : meets x y = true
    · have e : r = false := h1 (by simp [hm])
      subst e
      simp only [meets, decide_eq_true_eq] at hm
      refine ev_step ev_const (fun k => ?_)
      rw [impl_IsSheet.l1, if_pos hl', if_pos (by omega), if_pos hl', rdH_mid, if_pos hm.1.symm, if_pos hm.2]
    · replace hm : meets x y = false := by simpa using hm
      have h := ih (pre ++ [y]) (by simp at hl ⊢; omega) (fun e => h1 (by simp [e])) (fun e => h2 (by simp [hm, e]))
      rw [snoc_app, snoc_leni] at h
      simp only [meets, decide_eq_false_iff_not] at hm
      refine ev_step h (fun k => ?_)
      rw [impl_IsSheet.l1, if_pos hl', if_pos (by omega), if_pos hl', rdH_mid, hw]
      by_cases e : x.f0 = y.f0
      · rw [if_pos e.symm, if_neg (fun e2 => hm ⟨e, e2⟩)]
      · rw [if_neg (fun e2 => e e2.symm)]

theorem isSheet_j1 (x : S33) (pre suf : List S33) (n : Int) (b r : Bool) (hl : (pre ++ suf).length ≤ 9223372036854775806) (hb : b = true → r = false) (h1 : b = false → pre.any (meets x) = true → r = false)
    (h2 : b = false → pre.any (meets x) = false → Ev (fun k => impl_IsSheet.l0 k (pre ++ suf) (pre ++ suf) n (wrap64 ((pre.length : Int) + 1))) r) :
    Ev (fun k => impl_IsSheet.j1 k (pre ++ suf) (pre.length : Int) (pre ++ suf) n (pre.length : Int) b x.f0 x.f1 x.f2) r := by
  cases b with
  | true =>
    obtain rfl := hb rfl
    refine ev_step ev_const (fun k => ?_)
    rw [impl_IsSheet.j1, if_pos rfl]
  | false =>
    have h := isSheet_l1 x (pre ++ suf) n (pre.length : Int) r pre [] (by simp at hl ⊢; omega) (h1 rfl) (h2 rfl)
    refine ev_step h (fun k => ?_)
    rw [impl_IsSheet.j1, if_neg (by decide), if_pos (by omega), if_pos (by simp; omega)]
    simp

theorem isSheet_l0 (suf : List S33) : ∀ pre : List S33, (pre ++ suf).length ≤ 9223372036854775806 →
    Ev (fun k => impl_IsSheet.l0 k (pre ++ suf) (pre ++ suf) ((pre ++ suf).length : Int) (pre.length : Int)) (goodFrom pre suf) := by
  induction suf with
  | nil =>
    intro pre _
    refine ev_step (Ev.now _) (fun k => ?_)
    rw [impl_IsSheet.l0, if_neg (by simp)]
    simp [goodFrom]
  | cons x suf ih =>
    intro pre hl
    have h := ih (pre ++ [x]) (by simp at hl ⊢; omega)
    rw [snoc_app, snoc_leni] at h
    have hl' : (pre.length : Int) < ((pre ++ x :: suf).length : Int) := by simp; omega
    have hw : wrap64 ((pre.length : Int) + 1) = (pre.length : Int) + 1 := wrapS (by omega) (by simp at hl; omega)
    have J : ∀ b, (b = !(holeOk x.f0 x.f1 x.f2 && lastBefore pre x)) → Ev (fun k => impl_IsSheet.j1 k (pre ++ x :: suf) (pre.length : Int) (pre ++ x :: suf) ((pre ++ x :: suf).length : Int) (pre.length : Int) b x.f0 x.f1 x.f2) (goodFrom pre (x :: suf)) := by
      intro b hb
      refine isSheet_j1 x pre (x :: suf) _ b _ hl (fun e => ?_) (fun e e2 => ?_) (fun e e2 => ?_)
      · simp only [goodFrom, goodAt]
        cases h1 : holeOk x.f0 x.f1 x.f2 <;> cases h2 : lastBefore pre x <;> simp_all
      · simp [goodFrom, goodAt, e2]
      · rw [hw]
        have e3 : goodFrom pre (x :: suf) = goodFrom (pre ++ [x]) suf := by
          simp only [goodFrom, goodAt, e2]
          cases h1 : holeOk x.f0 x.f1 x.f2 <;> cases h2 : lastBefore pre x <;> simp_all
        rw [e3]
        exact h
    cases ho : holeOk x.f0 x.f1 x.f2 with
    | false =>
      refine ev_step (J true (by simp [ho])) (fun k => ?_)
      rw [impl_IsSheet.l0, if_pos hl', if_pos (by omega), if_pos hl', rdH_mid, isHole_ok, ho]
      simp
    | true =>
      rcases List.eq_nil_or_concat pre with rfl | ⟨pre', p, rfl⟩
      · refine ev_step (J false (by simp [ho, lastBefore])) (fun k => ?_)
        rw [impl_IsSheet.l0, if_pos hl', if_pos (by omega), if_pos hl', rdH_mid, isHole_ok, ho]
        simp
      · refine ev_step (J (!(before p x)) (by simp [ho, lastBefore])) (fun k => ?_)
        have e1 : ((pre' ++ [p]).length : Int) = (pre'.length : Int) + 1 := by simp
        have hw2 : wrap64 (((pre' ++ [p]).length : Int) - 1) = (pre'.length : Int) := by
          rw [e1, wrapS (by omega) (by simp at hl; omega)]; omega
        have e2 : rd_T33 (pre' ++ [p] ++ x :: suf) (pre'.length : Int) = p := by
          rw [snoc_app]; exact rdH_mid _ _ _
        rw [impl_IsSheet.l0, if_pos hl', if_pos (by omega), if_pos hl', rdH_mid, isHole_ok, ho]
        simp only [List.concat_eq_append] at *
        simp only [Option.bind_some, if_true]
        rw [if_pos (by omega), hw2, if_pos (by omega), if_pos (by simp; omega), e2, holeLess_ok]
        simp only [Option.bind_some]

theorem isSheet_ok (l : List S33) (h : l.length ≤ 9223372036854775806) : Ev (fun k => impl_IsSheet.f k l) (good l) := by
  by_cases h6 : (l.length : Int) > 60
  · refine Ev.congr (f := fun _ => some (good l)) (fun k => ?_) ev_const
    rw [impl_IsSheet.f, if_pos h6]
    have : ¬ l.length ≤ 60 := by omega
    simp [good, this]
  · refine Ev.congr (fun k => ?_) (ev_eq (isSheet_l0 l [] (by simpa using h)) ?_)
    · rw [impl_IsSheet.f, if_neg h6]
      rfl
    · have : l.length ≤ 60 := by omega
      simp [good, this]

/-! checksums -/
def ck (s t a b : Int) : Int := Int.tmod (wrap64 (wrap64 (31 * s) + wrap64 (wrap64 (wrap64 (4004001 * t) + wrap64 (2001 * a)) + b))) 1000003
theorem ckExtend_ok (s t a b : Int) : spec_ckExtend.f s t a b = some (ck s t a b) := rfl
theorem extend_ok (s t a b : Int) : impl_extendChecksum.f s t a b = some (ck s t a b) := by
  simp only [impl_extendChecksum.f, impl_holeNumber.f, Option.bind_some, Int.mul_comm t, Int.mul_comm a]
  rfl
def sumOf : Int → List S33 → Int
  | s, [] => s
  | s, x :: l => sumOf (ck s x.f0 x.f1 x.f2) l

theorem ckSum_l0 (suf : List S33) : ∀ (pre : List S33) (s : Int), (pre ++ suf).length ≤ 9223372036854775806 →
    Ev (fun k => spec_ckSum.l0 k s (pre ++ suf) ((pre ++ suf).length : Int) (pre.length : Int)) (sumOf s suf) := by
  induction suf with
  | nil =>
    intro pre s _
    refine ev_step (Ev.now _) (fun k => ?_)
    rw [spec_ckSum.l0, if_neg (by simp)]
    rfl
  | cons x suf ih =>
    intro pre s hl
    have h := ih (pre ++ [x]) (ck s x.f0 x.f1 x.f2) (by simp at hl ⊢; omega)
    rw [snoc_app, snoc_leni] at h
    have hl' : (pre.length : Int) < ((pre ++ x :: suf).length : Int) := by simp; omega
    have hw : wrap64 ((pre.length : Int) + 1) = (pre.length : Int) + 1 := wrapS (by omega) (by simp at hl; omega)
    refine ev_step h (fun k => ?_)
    rw [spec_ckSum.l0, if_pos hl', if_pos (by omega), if_pos hl', rdH_mid, ckExtend_ok, hw]
    simp only [Option.bind_some]

theorem ckSum_ok (l : List S33) (h : l.length ≤ 9223372036854775806) : Ev (fun k => spec_ckSum.f k l) (sumOf 1 l) :=
  Ev.congr (fun _ => rfl) (ckSum_l0 l [] 1 (by simpa using h))

theorem checksumOf_l0 (suf : List S33) : ∀ (pre : List S33) (s : Int), (pre ++ suf).length ≤ 9223372036854775806 →
    Ev (fun k => impl_checksumOf.l0 k s (pre ++ suf) ((pre ++ suf).length : Int) (pre.length : Int)) (sumOf s suf) := by
  induction suf with
  | nil =>
    intro pre s _
    refine ev_step (Ev.now _) (fun k => ?_)
    rw [impl_checksumOf.l0, if_neg (by simp)]
    rfl
  | cons x suf ih =>
    intro pre s hl
    have h := ih (pre ++ [x]) (ck s x.f0 x.f1 x.f2) (by simp at hl ⊢; omega)
    rw [snoc_app, snoc_leni] at h
    have hl' : (pre.length : Int) < ((pre ++ x :: suf).length : Int) := by simp; omega
    have hw : wrap64 ((pre.length : Int) + 1) = (pre.length : Int) + 1 := wrapS (by omega) (by simp at hl; omega)
    refine ev_step h (fun k => ?_)
    rw [impl_checksumOf.l0, if_pos hl', if_pos (by omega), if_pos hl', rdH_mid, extend_ok, hw]
    simp only [Option.bind_some]

theorem checksumOf_ok (l : List S33) (h : l.length ≤ 9223372036854775806) : Ev (fun k => impl_checksumOf.f k l) (sumOf 1 l) :=
  Ev.congr (fun _ => rfl) (checksumOf_l0 l [] 1 (by simpa using h))

/-! holes put in order: insertion, for laws in which the program sorts no holes -/
theorem b_irrefl (x : S33) : before x x = false := by simp [before]
theorem b_trans (x y z : S33) (h1 : before x y = true) (h2 : before y z = true) : before x z = true := by
  simp only [before, decide_eq_true_eq] at *; omega
theorem b_ntrans (x y z : S33) (h1 : before x y = false) (h2 : before y z = false) : before x z = false := by
  simp only [before, decide_eq_false_iff_not] at *; omega
theorem b_asymm {x y : S33} (h : before x y = true) : before y x = false := by
  simp only [before, decide_eq_true_eq, decide_eq_false_iff_not] at *; omega
def is_Sorts (xs ys : List S33) : Prop := ys.Perm xs ∧ ys.Pairwise (fun a b => before b a = false)
theorem is_unique : ∀ (ys zs : List S33), ys.Perm zs → ys.Pairwise (fun a b => before b a = false) → zs.Pairwise (fun a b => before a b = true) → ys = zs
  | [], zs, p, _, _ => (List.Perm.nil_eq p)
  | y :: ys, [], p, _, _ => by simp at p
  | y :: ys, z :: zs, p, h1, h2 => by
    have e : y = z := by
      rcases List.mem_cons.1 (p.mem_iff.1 List.mem_cons_self) with e | hy
      · exact e
      · rcases List.mem_cons.1 (p.mem_iff.2 (List.mem_cons_self (a := z) (l := zs))) with e | hz
        · exact e.symm
        · have a1 := List.rel_of_pairwise_cons h2 hy
          have a2 := List.rel_of_pairwise_cons h1 hz
          rw [a1] at a2; cases a2
    subst e
    rw [is_unique ys zs (List.perm_cons y |>.1 p) (List.Pairwise.of_cons h1) (List.Pairwise.of_cons h2)]
def is_ins (x : S33) : List S33 → List S33
  | [] => [x]
  | y :: r => if before x y = true then x :: y :: r else y :: is_ins x r
def is_srt (l : List S33) : List S33 := l.foldl (fun out x => is_ins x out) []
theorem is_ins_perm (x : S33) : ∀ l : List S33, (is_ins x l).Perm (x :: l)
  | [] => List.Perm.refl _
  | y :: r => by
    rw [is_ins]
    by_cases c : before x y = true
    · rw [if_pos c]
    · rw [if_neg c]; exact ((is_ins_perm x r).cons y).trans (List.Perm.swap x y r)
theorem is_ins_sorted (x : S33) : ∀ l : List S33, l.Pairwise (fun a b => before b a = false) → (is_ins x l).Pairwise (fun a b => before b a = false)
  | [], _ => by simp [is_ins]
  | y :: r, h => by
    rw [is_ins]
    by_cases c : before x y = true
    · rw [if_pos c]
      refine List.Pairwise.cons ?_ h
      intro z hz
      rcases List.mem_cons.1 hz with rfl | hz
      · exact b_asymm c
      · cases e : before z x with
        | false => rfl
        | true => have := b_trans _ _ _ e c; rw [List.rel_of_pairwise_cons h hz] at this; cases this
    · rw [if_neg c]
      refine List.Pairwise.cons ?_ (is_ins_sorted x r (List.Pairwise.of_cons h))
      intro z hz
      rcases List.mem_cons.1 ((is_ins_perm x r).mem_iff.1 hz) with rfl | hz
      · simpa using c
      · exact List.rel_of_pairwise_cons h hz
theorem is_fold (l : List S33) : ∀ out : List S33, out.Pairwise (fun a b => before b a = false) → (l.foldl (fun out x => is_ins x out) out).Perm (out ++ l) ∧ (l.foldl (fun out x => is_ins x out) out).Pairwise (fun a b => before b a = false) := by
  induction l with
  | nil => intro out h; simpa using h
  | cons x l ih =>
    intro out h
    obtain ⟨h1, h2⟩ := ih (is_ins x out) (is_ins_sorted x out h)
    refine ⟨h1.trans (((is_ins_perm x out).append_right l).trans ?_), h2⟩
    exact List.perm_middle.symm
theorem is_srt_sorts (l : List S33) : is_Sorts l (is_srt l) := by
  have := is_fold l [] List.Pairwise.nil
  simpa [is_Sorts, is_srt] using this

/-! holes put in order -/
def srt (l : List S33) : List S33 := is_srt l
/-- The sheet of holes, if there is one. -/
def sortedR (l : List S33) : List S33 × Bool := if good (srt l) = true then (srt l, true) else ([], false)
theorem srt_perm (l : List S33) : (srt l).Perm l := (is_srt_sorts l).1
theorem srt_len (l : List S33) : (srt l).length = l.length := (srt_perm l).length_eq
theorem good_len (l : List S33) (h : good l = true) : l.length ≤ 60 := by
  simp only [good, Bool.and_eq_true, decide_eq_true_eq] at h; exact h.2
theorem ins_app (x : S33) (B : List S33) (hB : ∀ b ∈ B, before x b = true) : ∀ A : List S33, (∀ a ∈ A, before x a = false) → is_ins x (A ++ B) = A ++ x :: B
  | [], _ => by
    cases B with
    | nil => rfl
    | cons b B => rw [List.nil_append, is_ins, if_pos (show before x b = true from hB b List.mem_cons_self)]; rfl
  | a :: A, h => by
    rw [List.cons_append, is_ins, if_neg (by rw [show before x a = before x a from rfl, h a List.mem_cons_self]; decide), ins_app x B hB A (fun a ha => h a (List.mem_cons_of_mem _ ha))]; rfl
theorem shSorted_put (k : Nat) (x : S33) (A B l : List S33) (n i : Int) (hl : (A ++ B).length ≤ 4000000) :
    ((some (([] : List S33) : List S33)).bind fun y => (if 0 ≤ (A.length : Int) then (if (A.length : Int) ≤ ((A ++ B).length : Int) then ((some ((A ++ B).take ((A.length : Int)).toNat : List S33)).bind fun y1 => (if y.length + y1.length < 5864062014805 then ((some (y ++ y1 : List S33)).bind fun y2 => ((some (([(⟨x.f0, x.f1, x.f2⟩ : S33)] : List S33) : List S33)).bind fun y3 => (if y2.length + y3.length < 5864062014805 then ((some (y2 ++ y3 : List S33)).bind fun y4 => ((some ((A ++ B).drop ((A.length : Int)).toNat : List S33)).bind fun y5 => (if y4.length + y5.length < 5864062014805 then (spec_shSorted.l0 k (y4 ++ y5) l n (wrap64 (i + 1))) else (none)))) else (none)))) else (none))) else (none)) else (none)))
      = spec_shSorted.l0 k (A ++ x :: B) l n (wrap64 (i + 1)) := by
  have h1 : (A ++ B).take ((A.length : Int)).toNat = A := by simp
  have h2 : (A ++ B).drop ((A.length : Int)).toNat = B := by simp
  simp only [List.length_append] at hl
  simp only [Option.bind_some, h1, h2]
  rw [if_pos (by omega), if_pos (by rw [List.length_append]; omega), if_pos (by simp; omega), if_pos (by simp; omega), if_pos (by simp; omega)]
  simp
theorem shSorted_l1 (x : S33) (l : List S33) (n i : Int) (r : List S33 × Bool) (R : List S33) : ∀ B : List S33, (R.reverse ++ B).length ≤ 4000000 → (∀ b ∈ B, before x b = true) → (R.reverse ++ B).Pairwise (fun a b => before b a = false) →
    Ev (fun k => spec_shSorted.l0 k (is_ins x (R.reverse ++ B)) l n (wrap64 (i + 1))) r →
    Ev (fun k => spec_shSorted.l1 k (R.reverse ++ B) (R.length : Int) l n i x.f0 x.f1 x.f2) r := by
  induction R with
  | nil =>
    intro B hl hB hs h
    rw [ins_app x B hB ([] : List S33).reverse (by simp)] at h
    refine ev_step h (fun k => ?_)
    have e := shSorted_put k x ([] : List S33).reverse B l n i hl
    rw [spec_shSorted.l1, if_neg (by simp)]
    exact e
  | cons a R ih =>
    intro B hl hB hs h
    have hlr : (a :: R).reverse.length = R.length + 1 := by simp
    have hl2 := hl
    simp only [List.length_append] at hl2
    have e0 : (a :: R).reverse ++ B = R.reverse ++ a :: B := by simp
    have hw : wrap64 ((((a :: R).length : Nat) : Int) - 1) = (R.length : Int) := by
      show wrap64 (((R.length + 1 : Nat) : Int) - 1) = _
      rw [wrapS (by omega) (by omega)]; omega
    have e1 : rd_T33 ((a :: R).reverse ++ B) (R.length : Int) = a := by
      have := rdH_mid R.reverse B a
      rw [List.length_reverse] at this
      rw [e0]; exact this
    cases c : before x a with
    | true =>
      have h2 := ih (a :: B) (by rw [← e0]; exact hl) (fun b hb => (List.mem_cons.1 hb).elim (fun e => by rw [e]; exact c) (hB b)) (by rw [← e0]; exact hs) (by rw [← e0]; exact h)
      refine ev_step h2 (fun k => ?_)
      rw [spec_shSorted.l1, if_pos (by simp), hw, if_pos (by omega), if_pos (by simp; omega), e1, shBefore_ok, c]
      simp only [Option.bind_some, if_true]
      rw [e0]
    | false =>
      have hA : ∀ y ∈ (a :: R).reverse, before x y = false := by
        intro y hy
        rw [List.reverse_cons, List.mem_append, List.mem_singleton] at hy
        rcases hy with hy | rfl
        · have h3 : before a y = false := by
            rw [e0] at hs
            exact (List.pairwise_append.1 hs).2.2 y hy a List.mem_cons_self
          exact b_ntrans x a y c h3
        · exact c
      rw [ins_app x B hB _ hA] at h
      refine ev_step h (fun k => ?_)
      have e := shSorted_put k x (a :: R).reverse B l n i hl
      rw [List.length_reverse] at e
      rw [spec_shSorted.l1, if_pos (by simp), hw, if_pos (by omega), if_pos (by simp; omega), e1, shBefore_ok, c]
      simp only [Option.bind_some, Bool.false_eq_true, if_false] at e ⊢
      exact e
theorem ins_len (x : S33) (l : List S33) : (is_ins x l).length = l.length + 1 := by
  rw [(is_ins_perm x l).length_eq]; rfl
theorem shSorted_l0 (suf : List S33) : ∀ (pre out : List S33), (pre ++ suf).length ≤ 4000000 → out.length = pre.length → out.Pairwise (fun a b => before b a = false) →
    Ev (fun k => spec_shSorted.l0 k out (pre ++ suf) ((pre ++ suf).length : Int) (pre.length : Int)) (if good (suf.foldl (fun o x => is_ins x o) out) = true then (suf.foldl (fun o x => is_ins x o) out, true) else ([], false)) := by
  induction suf with
  | nil =>
    intro pre out hl ho hs
    have hp : pre.length ≤ 4000000 := by simpa using hl
    obtain ⟨K, e⟩ := shGood_ok out (by omega)
    refine ⟨K + 1, fun k hk => ?_⟩
    obtain ⟨m, rfl⟩ : ∃ m, k = m + 1 := ⟨k - 1, by omega⟩
    have e1 := e m (by omega)
    dsimp only at e1 ⊢
    rw [spec_shSorted.l0, if_neg (by simp), e1]
    show (if good out = true then some (out, true) else some ([], false)) = some (if good out = true then (out, true) else ([], false))
    cases good out <;> rfl
  | cons x suf ih =>
    intro pre out hl ho hs
    have hlp : pre.length + 1 ≤ 4000000 := by simp at hl; omega
    have hl' : (pre.length : Int) < ((pre ++ x :: suf).length : Int) := by simp; omega
    have hw : wrap64 ((pre.length : Int) + 1) = (pre.length : Int) + 1 := wrapS (by omega) (by omega)
    have h := ih (pre ++ [x]) (is_ins x out) (by simp at hl ⊢; omega) (by rw [ins_len]; simp; omega) (is_ins_sorted x out hs)
    rw [snoc_app, snoc_leni, ← hw] at h
    have h2 := shSorted_l1 x (pre ++ x :: suf) ((pre ++ x :: suf).length : Int) (pre.length : Int) _ out.reverse [] (by simp; omega) (by simp) (by simpa using hs) (by simpa using h)
    simp only [List.reverse_reverse, List.append_nil, List.length_reverse] at h2
    refine ev_step h2 (fun k => ?_)
    rw [spec_shSorted.l0, if_pos hl', if_pos (by omega), if_pos hl', rdH_mid]
theorem shSorted_ok (l : List S33) (h : l.length ≤ 4000000) : Ev (fun k => spec_shSorted.f k l) (sortedR l) :=
  Ev.congr (f := fun k => spec_shSorted.l0 k [] l (l.length : Int) 0) (fun _ => rfl) (shSorted_l0 l [] [] (by simpa using h) rfl List.Pairwise.nil)
theorem sortedR_len (l : List S33) : (sortedR l).1.length ≤ 60 := by
  unfold sortedR
  by_cases c : good (srt l) = true
  · rw [if_pos c]; exact good_len _ c
  · rw [if_neg c]; simp
theorem shWith_ok (l : List S33) (x : S33) (h : l.length ≤ 60) : Ev (fun k => spec_shWith.f k l x.f0 x.f1 x.f2) (sortedR (l ++ [x])) := by
  obtain ⟨K, e⟩ := shSorted_ok (l ++ [x]) (by simp; omega)
  refine ⟨K, fun k hk => ?_⟩
  have f := e k hk
  dsimp only at f ⊢
  have m1 : (([] : List S33).length + l.length) < 5864062014805 := by simp; omega
  have m2 : (([] ++ l : List S33).length + ([(⟨x.f0, x.f1, x.f2⟩ : S33)] : List S33).length) < 5864062014805 := by simp; omega
  rw [spec_shWith.f]
  simp only [Option.bind_some, m1, m2, if_true]
  rw [List.nil_append, show (l ++ [(⟨x.f0, x.f1, x.f2⟩ : S33)]) = l ++ [x] from rfl, f]
  rfl

/-! holes that are in one slice and not in the other -/
def sameH (x y : S33) : Bool := x.f0 == y.f0 && (x.f1 == y.f1 && (x.f2 == y.f2))
def hasH (l : List S33) (x : S33) : Bool := l.any (sameH x)
def less (l b : List S33) : List S33 := l.filter fun x => !hasH b x
theorem sameH_eq (x y : S33) : sameH x y = true ↔ x = y := by
  obtain ⟨a, b, c⟩ := x
  obtain ⟨d, e, f⟩ := y
  simp [sameH]
theorem hasH_mem (l : List S33) (x : S33) : hasH l x = true ↔ x ∈ l := by
  simp only [hasH, List.any_eq_true]
  constructor
  · rintro ⟨y, hy, h⟩; rw [(sameH_eq x y).1 h]; exact hy
  · intro h; exact ⟨x, h, (sameH_eq x x).2 rfl⟩
theorem less_len (l b : List S33) : (less l b).length ≤ l.length := List.length_filter_le _ _

/-! sheets, said pair by pair; holes of a sheet are a sheet -/
def okR (y x : S33) : Prop := before y x = true ∧ meets x y = false
theorem before_trans (a b c : S33) (h1 : before a b = true) (h2 : before b c = true) : before a c = true := b_trans a b c h1 h2
theorem goodFrom_iff (suf : List S33) : ∀ pre : List S33, pre.Pairwise okR → (goodFrom pre suf = true ↔ (∀ x ∈ suf, holeOk x.f0 x.f1 x.f2 = true) ∧ (pre ++ suf).Pairwise okR) := by
  induction suf with
  | nil => intro pre hp; simp [goodFrom, hp]
  | cons x suf ih =>
    intro pre hp
    have key : (lastBefore pre x && !(pre.any (meets x))) = true ↔ ∀ y ∈ pre, okR y x := by
      rw [Bool.and_eq_true]
      constructor
      · rintro ⟨h1, h2⟩ y hy
        have h3 : meets x y = false := by
          rw [Bool.not_eq_true', List.any_eq_false] at h2
          simpa using h2 y hy
        refine ⟨?_, h3⟩
        rcases List.eq_nil_or_concat pre with rfl | ⟨pre', p, rfl⟩
        · cases hy
        · rw [List.concat_eq_append] at h1 hy hp
          simp only [lastBefore, List.getLast?_append, List.getLast?_singleton, Option.or] at h1
          rcases List.mem_append.1 hy with hy | hy
          · exact before_trans _ _ _ ((List.pairwise_append.1 hp).2.2 y hy p (by simp)).1 h1
          · rw [List.mem_singleton.1 hy]; exact h1
      · intro h
        refine ⟨?_, ?_⟩
        · rcases List.eq_nil_or_concat pre with rfl | ⟨pre', p, rfl⟩
          · rfl
          · rw [List.concat_eq_append] at h ⊢
            simp only [lastBefore, List.getLast?_append, List.getLast?_singleton, Option.or]
            exact (h p (by simp)).1
        · rw [Bool.not_eq_true', List.any_eq_false]
          intro y hy
          rw [(h y hy).2]; decide
    rw [goodFrom, Bool.and_eq_true, goodAt, Bool.and_eq_true, key]
    constructor
    · rintro ⟨⟨h1, h2⟩, h3⟩
      have hp2 : (pre ++ [x]).Pairwise okR := List.pairwise_append.2 ⟨hp, by simp, fun y hy z hz => by rw [List.mem_singleton.1 hz]; exact h2 y hy⟩
      obtain ⟨h4, h5⟩ := (ih (pre ++ [x]) hp2).1 h3
      refine ⟨fun z hz => ?_, by rw [snoc_app] at h5; exact h5⟩
      rcases List.mem_cons.1 hz with rfl | hz
      · exact h1
      · exact h4 z hz
    · rintro ⟨h1, h2⟩
      rw [← snoc_app] at h2
      have hp2 := (List.pairwise_append.1 h2).1
      refine ⟨⟨h1 x List.mem_cons_self, fun y hy => (List.pairwise_append.1 hp2).2.2 y hy x (by simp)⟩, (ih (pre ++ [x]) hp2).2 ⟨fun z hz => h1 z (List.mem_cons_of_mem _ hz), h2⟩⟩
theorem good_iff (l : List S33) : good l = true ↔ (∀ x ∈ l, holeOk x.f0 x.f1 x.f2 = true) ∧ l.Pairwise okR ∧ l.length ≤ 60 := by
  rw [good, Bool.and_eq_true, goodFrom_iff l [] List.Pairwise.nil, decide_eq_true_eq, List.nil_append, and_assoc]
theorem pair_two {R : S33 → S33 → Prop} : ∀ (l : List S33), l.Pairwise R → ∀ u ∈ l, ∀ v ∈ l, u = v ∨ R u v ∨ R v u
  | [], _, u, hu, _, _ => by cases hu
  | x :: l, h, u, hu, v, hv => by
    have hx := fun z hz => List.rel_of_pairwise_cons h (a' := z) hz
    rcases List.mem_cons.1 hu with e1 | h1
    · rcases List.mem_cons.1 hv with e2 | h2
      · exact .inl (e1.trans e2.symm)
      · exact .inr (.inl (by rw [e1]; exact hx v h2))
    · rcases List.mem_cons.1 hv with e2 | h2
      · exact .inr (.inr (by rw [e2]; exact hx u h1))
      · exact pair_two l (List.Pairwise.of_cons h) u h1 v h2
theorem nodup_len : ∀ (c a : List S33), c.Nodup → (∀ x ∈ c, x ∈ a) → c.length ≤ a.length
  | [], _, _, _ => Nat.zero_le _
  | x :: c, a, hn, hs => by
    have hx := hs x List.mem_cons_self
    obtain ⟨s, t, rfl⟩ := List.append_of_mem hx
    have h := nodup_len c (s ++ t) (List.nodup_cons.1 hn).2 (fun y hy => by
      have h1 := hs y (List.mem_cons_of_mem _ hy)
      rcases List.mem_append.1 h1 with h1 | h1
      · exact List.mem_append.2 (.inl h1)
      · rcases List.mem_cons.1 h1 with rfl | h1
        · exact absurd hy (List.nodup_cons.1 hn).1
        · exact List.mem_append.2 (.inr h1))
    simp only [List.length_append, List.length_cons] at h ⊢
    omega
theorem good_nodup (a : List S33) (h : good a = true) : a.Nodup := by
  have := ((good_iff a).1 h).2.1
  exact this.imp (fun {y x} hr e => by subst e; have := hr.1; rw [show before y y = false from b_irrefl y] at this; cases this)
/-- Holes of a sheet, each once, put in order, are a sheet. -/
theorem good_sub (a c : List S33) (h : good a = true) (hn : c.Nodup) (hs : ∀ x ∈ c, x ∈ a) : good (srt c) = true := by
  obtain ⟨h1, h2, h3⟩ := (good_iff a).1 h
  have hp := srt_perm c
  have ho : (srt c).Pairwise (fun y x => before x y = false) := (is_srt_sorts c).2
  have hN : (srt c).Nodup := hp.nodup_iff.2 hn
  refine (good_iff _).2 ⟨fun x hx => h1 x (hs x (hp.mem_iff.1 hx)), ?_, by rw [srt_len]; exact Nat.le_trans (nodup_len c a hn hs) h3⟩
  refine List.Pairwise.imp_of_mem ?_ (List.Pairwise.and ho hN)
  intro y x hy hx hr
  rcases pair_two a h2 y (hs y (hp.mem_iff.1 hy)) x (hs x (hp.mem_iff.1 hx)) with e | e | e
  · exact absurd e hr.2
  · exact e
  · have := e.1; rw [hr.1] at this; cases this
/-- What is a sheet's holes in another order, put in order, is the sheet. -/
theorem srt_of_perm (a c : List S33) (h : good a = true) (hp : c.Perm a) : srt c = a :=
  is_unique (srt c) a ((srt_perm c).trans hp) (is_srt_sorts c).2 (((good_iff a).1 h).2.1.imp (fun hr => hr.1))
theorem less_nodup (a b : List S33) (h : a.Nodup) : (less a b).Nodup := h.filter _
theorem mem_less (a b : List S33) (x : S33) : x ∈ less a b ↔ x ∈ a ∧ x ∉ b := by
  rw [less, List.mem_filter, Bool.not_eq_true', ← Bool.not_eq_true, hasH_mem]

/-! a cursor's draws: what they give lies in bounds, and the cursor goes on by few places -/
def bytesOk (l : List Int) : Prop := ∀ x ∈ l, 0 ≤ x ∧ x ≤ 255
def lcg (s b : Int) : Int := (s * 6364136223846793005 + b + 1442695040888963407) % 18446744073709551616
theorem and255 (x : Int) (h0 : 0 ≤ x) (h1 : x < 18446744073709551616) : Go.bits .and .u64 x 255 = x % 256 := by
  obtain ⟨n, rfl⟩ : ∃ n : Nat, x = n := ⟨x.toNat, by omega⟩
  have h := bits_and_u64_nat n 255 (by omega) (by omega)
  have h2 := Nat.and_two_pow_sub_one_eq_mod n 8
  rw [show (2 : Nat) ^ 8 - 1 = 255 from rfl, show (2 : Nat) ^ 8 = 256 from rfl] at h2
  rw [h2] at h
  exact h.trans (by omega)
theorem lcg_eq (s b : Int) : IntKind.u64.wrap ((IntKind.u64.wrap ((IntKind.u64.wrap (s * 6364136223846793005)) + (IntKind.u64.wrap b))) + 1442695040888963407) = lcg s b := by
  simp only [IntKind.wrap_u64, lcg]; omega
theorem lcg_eq0 (s : Int) : IntKind.u64.wrap ((IntKind.u64.wrap (IntKind.u64.wrap (s * 6364136223846793005))) + 1442695040888963407) = lcg s 0 := by
  simp only [IntKind.wrap_u64, lcg]; omega
theorem lcg_lt (s b : Int) : 0 ≤ lcg s b ∧ lcg s b < 18446744073709551616 := by unfold lcg; omega
theorem rd_byte {l : List Int} (hb : bytesOk l) (p : Int) (h0 : 0 ≤ p) (h1 : p < l.length) : 0 ≤ rd l p ∧ rd l p ≤ 255 := by
  obtain ⟨n, rfl⟩ : ∃ n : Nat, p = n := ⟨p.toNat, by omega⟩
  rw [rd_nat l n (by omega)]
  exact hb _ (List.getElem_mem _)
theorem next_in {l : List Int} (hb : bytesOk l) (p s : Int) (h0 : 0 ≤ p) (h1 : p < l.length) (h2 : p ≤ 4000000000000000000) : spec_l1Cur_next.f l p s = some (rd l p, p + 1, lcg s (rd l p)) := by
  have hr := rd_byte hb p h0 h1
  have hw : wrap64 (p + 1) = p + 1 := wrapS (by omega) (by omega)
  have hw2 : wrap64 (rd l p) = rd l p := wrapS (by omega) (by omega)
  rw [spec_l1Cur_next.f, if_pos h1, if_pos h0, hw, if_pos (by omega), hw2, lcg_eq]
theorem next_out {l : List Int} (p s : Int) (h1 : ¬ p < l.length) (h0 : 0 ≤ p) (h2 : p ≤ 4000000000000000000) : spec_l1Cur_next.f l p s = some ((lcg s 0 / 1099511627776) % 256, p + 1, lcg s 0) := by
  have hw : wrap64 (p + 1) = p + 1 := wrapS (by omega) (by omega)
  have hl := lcg_lt s 0
  rw [spec_l1Cur_next.f, if_neg h1, hw, if_neg (by omega), lcg_eq0, and255 _ (by omega) (by omega), wrapS (by omega) (by omega)]
theorem next_ok {l : List Int} (hb : bytesOk l) (p s : Int) (h0 : 0 ≤ p) (h2 : p ≤ 4000000000000000000) : ∃ b s', spec_l1Cur_next.f l p s = some (b, p + 1, s') ∧ 0 ≤ b ∧ b ≤ 255 := by
  by_cases h : p < l.length
  · exact ⟨_, _, next_in hb p s h0 h h2, rd_byte hb p h0 h⟩
  · exact ⟨_, _, next_out p s h h0 h2, by omega, by omega⟩
theorem pick_ok {l : List Int} (hb : bytesOk l) (p s n : Int) (h0 : 0 ≤ p) (h2 : p ≤ 3000000000000000000) : ∃ r p' s', spec_l1Cur_pick.f l p s n = some (r, p', s') ∧ 0 ≤ r ∧ (1 ≤ n → r < n) ∧ p ≤ p' ∧ p' ≤ p + 2 ∧ (2 ≤ n → p + 1 ≤ p') := by
  by_cases c : n ≤ 1
  · exact ⟨0, p, s, by rw [spec_l1Cur_pick.f, if_pos c], by omega, by omega, by omega, by omega, by omega⟩
  · obtain ⟨b, s1, e1, b0, b1⟩ := next_ok hb p s h0 (by omega)
    by_cases d : n > 200
    · obtain ⟨b2, s2, e2, c0, c1⟩ := next_ok hb (p + 1) s1 (by omega) (by omega)
      refine ⟨Int.tmod (b * 256 + b2) n, p + 1 + 1, s2, ?_, ?_, ?_, by omega, by omega, by omega⟩
      · rw [spec_l1Cur_pick.f, if_neg c, e1]
        simp only [Option.bind_some]
        rw [if_pos d, e2]
        simp only [Option.bind_some]
        rw [if_neg (by omega), wrapS (x := b * 256) (by omega) (by omega), wrapS (by omega) (by omega)]
      · exact Int.tmod_nonneg _ (by omega)
      · intro _; exact Int.tmod_lt_of_pos _ (by omega)
    · refine ⟨Int.tmod b n, p + 1, s1, ?_, ?_, ?_, by omega, by omega, by omega⟩
      · rw [spec_l1Cur_pick.f, if_neg c, e1]
        simp only [Option.bind_some]
        rw [if_neg d, if_neg (by omega)]
      · exact Int.tmod_nonneg _ (by omega)
      · intro _; exact Int.tmod_lt_of_pos _ (by omega)
theorem rd_mem {xs : List Int} (r : Int) (h0 : 0 ≤ r) (h1 : r < xs.length) : rd xs r ∈ xs := by
  obtain ⟨n, rfl⟩ : ∃ n : Nat, r = n := ⟨r.toNat, by omega⟩
  rw [rd_nat xs n (by omega)]
  exact List.getElem_mem _
theorem among_ok {l : List Int} (hb : bytesOk l) (p s : Int) (xs : List Int) (hx : 1 ≤ xs.length) (h0 : 0 ≤ p) (h2 : p ≤ 3000000000000000000) : ∃ r p' s', spec_l1Cur_among.f l p s xs = some (r, p', s') ∧ r ∈ xs ∧ p ≤ p' ∧ p' ≤ p + 2 := by
  obtain ⟨r, p', s', e, r0, r1, q0, q1⟩ := pick_ok hb p s (xs.length : Int) h0 h2
  have r1 := r1 (by omega)
  refine ⟨rd xs r, p', s', ?_, rd_mem r r0 r1, q0, q1.1⟩
  rw [spec_l1Cur_among.f, e]
  simp only [Option.bind_some]
  rw [if_pos r0, if_pos r1]
theorem one_ok {l : List Int} (hb : bytesOk l) (p s n : Int) (h0 : 0 ≤ p) (h2 : p ≤ 3000000000000000000) : ∃ r p' s', spec_l1Cur_one.f l p s n = some (r, p', s') ∧ p ≤ p' ∧ p' ≤ p + 2 := by
  obtain ⟨r, p', s', e, _, _, q0, q1⟩ := pick_ok hb p s n h0 h2
  exact ⟨r == 0, p', s', by rw [spec_l1Cur_one.f, e]; rfl, q0, q1.1⟩

/-! the draws of sheets -/
theorem hole_ok {l : List Int} (hb : bytesOk l) (p s : Int) (h0 : 0 ≤ p) (h2 : p ≤ 1000000000000000000) : ∃ a b c p' s', spec_l1Cur_hole.f l p s = some (a, b, c, p', s') ∧ p ≤ p' ∧ p' ≤ p + 12 := by
  obtain ⟨i, p1, s1, e1, _, _, a1, b1⟩ := pick_ok hb p s 40 h0 (by omega)
  obtain ⟨j, p2, s2, e2, _, _, a2, b2⟩ := pick_ok hb p1 s1 60 (by omega) (by omega)
  obtain ⟨u, p3, s3, e3, _, a3, b3⟩ := among_ok hb p2 s2 (([0, 2, 5, i, j, 1990] : List Int)) (by simp) (by omega) (by omega)
  obtain ⟨k, p4, s4, e4, _, _, a4, b4⟩ := pick_ok hb p3 s3 20 (by omega) (by omega)
  obtain ⟨v, p5, s5, e5, _, a5, b5⟩ := among_ok hb p4 s4 (([0, 1, 2, 3, 5, k] : List Int)) (by simp) (by omega) (by omega)
  obtain ⟨w, p6, s6, e6, _, a6, b6⟩ := among_ok hb p5 s5 (([1, 2, 3, 4, 10] : List Int)) (by simp) (by omega) (by omega)
  refine ⟨v, u, wrap64 (u + w), p6, s6, ?_, by omega, by omega⟩
  rw [spec_l1Cur_hole.f, e1, Option.bind_some, e2, Option.bind_some, e3, Option.bind_some, e4, Option.bind_some, e5, Option.bind_some, e6, Option.bind_some]
/-- The n-th hole of the sheet with sixty holes. -/
def sixty (x : List S33) : Prop := ∀ (n : Nat) (h : n < x.length), (x[n]'h).f0 = 3 * ((n : Int) % 5) ∧ (x[n]'h).f1 = 6 * ((n : Int) / 5) ∧ 6 * ((n : Int) / 5) + 1 ≤ (x[n]'h).f2 ∧ (x[n]'h).f2 ≤ 6 * ((n : Int) / 5) + 5
theorem sixty_good (x : List S33) (h : sixty x) (hl : x.length ≤ 60) : good x = true := by
  refine (good_iff x).2 ⟨fun y hy => ?_, ?_, hl⟩
  · obtain ⟨n, hn, rfl⟩ := List.getElem_of_mem hy
    obtain ⟨h1, h2, h3, h4⟩ := h n hn
    unfold holeOk
    exact decide_eq_true (by omega)
  · rw [List.pairwise_iff_getElem]
    intro i j hi hj hij
    obtain ⟨a1, a2, a3, a4⟩ := h i hi
    obtain ⟨b1, b2, b3, b4⟩ := h j hj
    refine ⟨decide_eq_true ?_, decide_eq_false ?_⟩
    · omega
    · omega
theorem good_drop (x : List S33) (i : Nat) (h : good x = true) : good (x.take i ++ x.drop (i + 1)) = true := by
  obtain ⟨h1, h2, h3⟩ := (good_iff x).1 h
  have hs : (x.take i ++ x.drop (i + 1)).Sublist x := by
    have e : (x.take i ++ x.drop i).Sublist x := by rw [List.take_append_drop]; exact List.Sublist.refl _
    exact (List.Sublist.append (List.Sublist.refl _) (by rw [← List.drop_drop]; exact List.drop_sublist 1 _)).trans e
  exact (good_iff _).2 ⟨fun y hy => h1 y (hs.subset hy), h2.sublist hs, Nat.le_trans hs.length_le h3⟩
theorem sortedR_good (l : List S33) (h : (sortedR l).2 = true) : good (sortedR l).1 = true := by
  unfold sortedR at h ⊢
  by_cases g : good (srt l) = true
  · rw [if_pos g]; exact g
  · rw [if_neg g] at h; cases h
theorem good_nil : good ([] : List S33) = true := by rfl
theorem sheet_l0 {l : List Int} (hb : bytesOk l) (d : Nat) : ∀ (x : List S33) (p s : Int), sixty x → x.length + d = 60 → 0 ≤ p → p + 2 * d ≤ 1000000000000000000 →
    ∃ r p' s', Ev (fun k => spec_l1Cur_sheet.l0 k x l p s) (r, p', s') ∧ (r.length ≤ 60 ∧ good r = true) ∧ p ≤ p' ∧ p' ≤ p + 2 * d := by
  induction d with
  | zero =>
    intro x p s hg hx h0 h2
    refine ⟨x, p, s, ev_step (f := fun _ => some _) (Ev.now _) (fun k => ?_), ⟨by omega, sixty_good x hg (by omega)⟩, by omega, by omega⟩
    rw [spec_l1Cur_sheet.l0, if_neg (by omega)]
  | succ d ih =>
    intro x p s hg hx h0 h2
    obtain ⟨i, p1, s1, e1, i0, i1, a1, b1⟩ := pick_ok hb p s 5 h0 (by omega)
    have i1 := i1 (by omega)
    obtain ⟨r, p', s', e, hr, a2, b2⟩ := ih (x ++ [⟨3 * ((x.length : Int) % 5), wrap64 (6 * (wrap64 ((x.length : Int) / 5))), wrap64 ((wrap64 ((wrap64 (6 * (wrap64 ((x.length : Int) / 5)))) + 1)) + i)⟩]) p1 s1 (by
      have w1 : wrap64 ((x.length : Int) / 5) = (x.length : Int) / 5 := wrapS (by omega) (by omega)
      have w2 : wrap64 (6 * ((x.length : Int) / 5)) = 6 * ((x.length : Int) / 5) := wrapS (by omega) (by omega)
      rw [w1, w2, wrapS (x := 6 * ((x.length : Int) / 5) + 1) (by omega) (by omega), wrapS (by omega) (by omega)]
      intro n hn
      by_cases c : n < x.length
      · rw [List.getElem_append_left c]; exact hg n c
      · have : n = x.length := by simp at hn; omega
        subst this
        rw [List.getElem_append_right (Nat.le_refl _)]
        simp only [Nat.sub_self, List.getElem_cons_zero]
        refine ⟨by first | trivial | rfl, by first | trivial | rfl, ?_, ?_⟩ <;> omega) (by simp; omega) (by omega) (by omega)
    refine ⟨r, p', s', ev_step e (fun k => ?_), hr, by omega, by omega⟩
    rw [spec_l1Cur_sheet.l0, if_pos (by omega), e1, Option.bind_some, if_pos (by omega)]
theorem sheet_l1 {l : List Int} (hb : bytesOk l) (n : Int) (d : Nat) : ∀ (i : Nat) (x : List S33) (p s : Int), i + d = 60 → good x = true → x.length ≤ 60 → 0 ≤ p → p + 12 * d ≤ 1000000000000000000 →
    ∃ r p' s', Ev (fun k => spec_l1Cur_sheet.l1 k x n (i : Int) l p s) (r, p', s') ∧ (r.length ≤ 60 ∧ good r = true) ∧ p ≤ p' ∧ p' ≤ p + 12 * d := by
  induction d with
  | zero =>
    intro i x p s hi hg hx h0 h2
    have J : Ev (fun k => spec_l1Cur_sheet.j2 k x n (i : Int) false l p s) (x, p, s) := ev_step (f := fun _ => some _) (Ev.now _) (fun k => by rw [spec_l1Cur_sheet.j2, if_neg (by simp)])
    refine ⟨x, p, s, ev_step J (fun k => ?_), ⟨by omega, hg⟩, by omega, by omega⟩
    rw [spec_l1Cur_sheet.l1]
    by_cases c : (x.length : Int) < n
    · rw [if_pos c, show decide ((i : Int) < 60) = false from decide_eq_false (by omega)]
    · rw [if_neg c]
  | succ d ih =>
    intro i x p s hi hg hx h0 h2
    by_cases c : (x.length : Int) < n
    · obtain ⟨u, v, w, p1, s1, e1, a1, b1⟩ := hole_ok hb p s h0 (by omega)
      have hw : wrap64 ((i : Int) + 1) = ((i + 1 : Nat) : Int) := wrapS (by omega) (by omega)
      obtain ⟨K2, e2⟩ := shWith_ok x ⟨u, v, w⟩ hx
      obtain ⟨y, g⟩ : ∃ y, (if (sortedR (x ++ [⟨u, v, w⟩])).2 = true then (sortedR (x ++ [⟨u, v, w⟩])).1 else x) = y := ⟨_, rfl⟩
      have hy : y.length ≤ 60 := by rw [← g]; split; exact sortedR_len _; exact hx
      have hgy : good y = true := by
        rw [← g]; split
        · rename_i z; exact sortedR_good _ z
        · exact hg
      obtain ⟨r, p', s', ⟨K3, e3⟩, hr, a2, b2⟩ := ih (i + 1) y p1 s1 (by omega) hgy hy (by omega) (by omega)
      refine ⟨r, p', s', ⟨K2 + K3 + 2, fun k hk => ?_⟩, hr, by omega, by omega⟩
      obtain ⟨q, rfl⟩ : ∃ q, k = q + 1 + 1 := ⟨k - 2, by omega⟩
      have e2 := e2 q (by omega)
      have e3 := e3 q (by omega)
      dsimp only at e2 e3 ⊢
      rw [spec_l1Cur_sheet.l1, if_pos c, show decide ((i : Int) < 60) = true from decide_eq_true (by omega), spec_l1Cur_sheet.j2, if_pos rfl, e1, Option.bind_some]
      dsimp only
      rw [e2, Option.bind_some, hw]
      rw [← g] at e3
      split <;> rename_i z
      · rw [if_pos z] at e3; exact e3
      · rw [if_neg z] at e3; exact e3
    · have J : Ev (fun k => spec_l1Cur_sheet.j2 k x n (i : Int) false l p s) (x, p, s) := ev_step (f := fun _ => some _) (Ev.now _) (fun k => by rw [spec_l1Cur_sheet.j2, if_neg (by simp)])
      refine ⟨x, p, s, ev_step J (fun k => ?_), ⟨by omega, hg⟩, by omega, by omega⟩
      rw [spec_l1Cur_sheet.l1, if_neg c]
theorem sheet_ok {l : List Int} (hb : bytesOk l) (p s : Int) (h0 : 0 ≤ p) (h2 : p ≤ 100000000000000000) : ∃ r p' s', Ev (fun k => spec_l1Cur_sheet.f k l p s) (r, p', s') ∧ (r.length ≤ 60 ∧ good r = true) ∧ p ≤ p' ∧ p' ≤ p + 800 := by
  obtain ⟨b, p1, s1, e1, a1, b1⟩ := one_ok hb p s 24 h0 (by omega)
  cases b with
  | true =>
    obtain ⟨r, p', s', e, hr, a2, b2⟩ := sheet_l0 hb 60 [] p1 s1 (by intro n h; simp at h) (by simp) (by omega) (by omega)
    refine ⟨r, p', s', Ev.congr (fun k => ?_) e, hr, by omega, by omega⟩
    rw [spec_l1Cur_sheet.f, e1, Option.bind_some, if_pos rfl]
  | false =>
    obtain ⟨n, p2, s2, e2, _, _, a2, b2⟩ := pick_ok hb p1 s1 9 (by omega) (by omega)
    obtain ⟨r, p', s', e, hr, a3, b3⟩ := sheet_l1 hb n 60 0 [] p2 s2 (by omega) good_nil (by simp) (by omega) (by omega)
    refine ⟨r, p', s', Ev.congr (fun k => ?_) e, hr, by omega, by omega⟩
    rw [spec_l1Cur_sheet.f, e1, Option.bind_some, if_neg (by simp), e2, Option.bind_some]
    rfl
theorem anyHole_ok {l : List Int} (hb : bytesOk l) (p s : Int) (h0 : 0 ≤ p) (h2 : p ≤ 100000000000000000) : ∃ a b c p' s', spec_l1Cur_anyHole.f l p s = some (a, b, c, p', s') ∧ p ≤ p' ∧ p' ≤ p + 20 := by
  obtain ⟨u, v, w, p1, s1, e1, a1, b1⟩ := hole_ok hb p s h0 (by omega)
  obtain ⟨q, p2, s2, e2, _, _, a2, b2⟩ := pick_ok hb p1 s1 24 (by omega) (by omega)
  by_cases c0 : q = 0
  · obtain ⟨z, p3, s3, e3, _, a3, b3⟩ := among_ok hb p2 s2 (([(-1), 19, 20] : List Int)) (by simp) (by omega) (by omega)
    refine ⟨z, v, w, p3, s3, ?_, by omega, by omega⟩
    rw [spec_l1Cur_anyHole.f, e1, Option.bind_some, e2, Option.bind_some, if_pos c0, e3, Option.bind_some]
  by_cases c1 : q = 1
  · obtain ⟨z, p3, s3, e3, _, a3, b3⟩ := among_ok hb p2 s2 (([(-1), w] : List Int)) (by simp) (by omega) (by omega)
    refine ⟨u, z, w, p3, s3, ?_, by omega, by omega⟩
    rw [spec_l1Cur_anyHole.f, e1, Option.bind_some, e2, Option.bind_some, if_neg c0, if_pos c1, e3, Option.bind_some]
  by_cases c2 : q = 2
  · obtain ⟨z, p3, s3, e3, _, a3, b3⟩ := among_ok hb p2 s2 (([v, 2000, 2001] : List Int)) (by simp) (by omega) (by omega)
    refine ⟨u, v, z, p3, s3, ?_, by omega, by omega⟩
    rw [spec_l1Cur_anyHole.f, e1, Option.bind_some, e2, Option.bind_some, if_neg c0, if_neg c1, if_pos c2, e3, Option.bind_some]
  · refine ⟨u, v, w, p2, s2, ?_, by omega, by omega⟩
    rw [spec_l1Cur_anyHole.f, e1, Option.bind_some, e2, Option.bind_some, if_neg c0, if_neg c1, if_neg c2]
theorem anySheet_l0 (l : List Int) (p s : Int) (d : Nat) : ∀ x : List S33, x.length + d = 61 →
    ∃ r, Ev (fun k => spec_l1Cur_anySheet.l0 k x l p s) (r, p, s) ∧ r.length ≤ 61 := by
  induction d with
  | zero =>
    intro x hx
    refine ⟨x, ev_step (f := fun _ => some _) (Ev.now _) (fun k => ?_), by omega⟩
    rw [spec_l1Cur_anySheet.l0, if_neg (by omega)]
  | succ d ih =>
    intro x hx
    obtain ⟨r, e, hr⟩ := ih (x ++ [⟨1, wrap64 (3 * (x.length : Int)), wrap64 ((wrap64 (3 * (x.length : Int))) + 1)⟩]) (by simp; omega)
    refine ⟨r, ev_step e (fun k => ?_), hr⟩
    rw [spec_l1Cur_anySheet.l0, if_pos (by omega), if_pos (by omega)]
theorem anySheet_ok {l : List Int} (hb : bytesOk l) (p s : Int) (h0 : 0 ≤ p) (h2 : p ≤ 10000000000000000) : ∃ r p' s', Ev (fun k => spec_l1Cur_anySheet.f k l p s) (r, p', s') ∧ r.length ≤ 61 ∧ p ≤ p' ∧ p' ≤ p + 900 := by
  obtain ⟨x, p1, s1, e1, ⟨hx, hxg⟩, a1, b1⟩ := sheet_ok hb p s h0 (by omega)
  by_cases c : (x.length : Int) > 0
  · obtain ⟨i, p2, s2, e2, i0, i1, a2, b2⟩ := pick_ok hb p1 s1 (x.length : Int) (by omega) (by omega)
    have i1 := i1 (by omega)
    obtain ⟨q, p3, s3, e3, _, _, a3, b3⟩ := pick_ok hb p2 s2 30 (by omega) (by omega)
    by_cases c0 : q = 0
    · obtain ⟨u, v, w, p4, s4, e4, a4, b4⟩ := anyHole_ok hb p3 s3 (by omega) (by omega)
      refine ⟨x.set (i : Int).toNat ⟨u, v, w⟩, p4, s4, Ev.bind e1 (ev_of_eq (fun _ => ?_)), by simp; omega, by omega, by omega⟩
      dsimp only
      rw [if_pos c, e2, Option.bind_some, e3, Option.bind_some, if_pos c0, e4, Option.bind_some, if_pos i0, if_pos i1]
    by_cases c1 : q = 1
    · refine ⟨x ++ [⟨(rd_T33 x i).f0, (rd_T33 x i).f1, (rd_T33 x i).f2⟩], p3, s3, Ev.bind e1 (ev_of_eq (fun _ => ?_)), by simp; omega, by omega, by omega⟩
      dsimp only
      rw [if_pos c, e2, Option.bind_some, e3, Option.bind_some, if_neg c0, if_pos c1, if_pos i0, if_pos i1, if_pos (by omega)]
    by_cases c2 : q = 2
    · refine ⟨x ++ [⟨(rd_T33 x i).f0, (rd_T33 x i).f2, wrap64 (((rd_T33 x i).f2) + 2)⟩], p3, s3, Ev.bind e1 (ev_of_eq (fun _ => ?_)), by simp; omega, by omega, by omega⟩
      dsimp only
      rw [if_pos c, e2, Option.bind_some, e3, Option.bind_some, if_neg c0, if_neg c1, if_pos c2, if_pos i0, if_pos i1, if_pos (by omega)]
    by_cases c3 : q = 3
    · obtain ⟨r, e5, hr⟩ := anySheet_l0 l p3 s3 61 [] (by simp)
      refine ⟨r, p3, s3, Ev.bind e1 (Ev.congr (fun k => ?_) e5), hr, by omega, by omega⟩
      dsimp only
      rw [if_pos c, e2, Option.bind_some, e3, Option.bind_some, if_neg c0, if_neg c1, if_neg c2, if_pos c3]
    · refine ⟨x, p3, s3, Ev.bind e1 (ev_of_eq (fun _ => ?_)), by omega, by omega, by omega⟩
      dsimp only
      rw [if_pos c, e2, Option.bind_some, e3, Option.bind_some, if_neg c0, if_neg c1, if_neg c2, if_neg c3]
  · refine ⟨x, p1, s1, Ev.bind e1 (ev_of_eq (fun _ => ?_)), by omega, by omega, by omega⟩
    dsimp only
    rw [if_neg c]
theorem shDrop_ok (x : List S33) (i : Int) (h0 : 0 ≤ i) (h1 : i < x.length) (hx : x.length ≤ 1048576) : ∃ r, spec_shDrop.f x i = some r ∧ r.length ≤ x.length ∧ (good x = true → good r = true) := by
  have hw : wrap64 (i + 1) = i + 1 := wrapS (by omega) (by omega)
  refine ⟨([] ++ x.take (i : Int).toNat) ++ x.drop (i + 1).toNat, ?_, by simp; omega, fun g => by
    have e : (i + 1).toNat = i.toNat + 1 := by omega
    rw [e, List.nil_append]; exact good_drop x _ g⟩
  rw [spec_shDrop.f, Option.bind_some, if_pos h0, if_pos (by omega), Option.bind_some, if_pos (by simp; omega), Option.bind_some, hw, if_pos (by omega), if_pos (by omega), Option.bind_some, if_pos (by simp; omega)]
theorem changed_l0 {l : List Int} (hb : bytesOk l) (d : Nat) : ∀ (x : List S33) (p s : Int), d ≤ 1000 → good x = true → x.length ≤ 60 → 0 ≤ p → p + 20 * d ≤ 1000000000000000000 →
    ∃ r p' s', Ev (fun k => spec_l1Cur_changed.l0 k x (d : Int) l p s) (r, p', s') ∧ (r.length ≤ 60 ∧ good r = true) ∧ p ≤ p' ∧ p' ≤ p + 20 * d := by
  induction d with
  | zero =>
    intro x p s hd hgx hx h0 h2
    refine ⟨x, p, s, ev_step (f := fun _ => some _) (Ev.now _) (fun k => ?_), ⟨by omega, hgx⟩, by omega, by omega⟩
    rw [spec_l1Cur_changed.l0, if_neg (by omega)]
  | succ d ih =>
    intro x p s hd hgx hx h0 h2
    have hw : wrap64 (((d + 1 : Nat) : Int) - 1) = (d : Int) := by rw [wrapS (by omega) (by omega)]; omega
    have J2 : ∀ (y : List S33) (p1 s1 : Int), good y = true → y.length ≤ 60 → 0 ≤ p1 → p1 ≤ p + 4 → ∃ r p' s', Ev (fun k => spec_l1Cur_changed.j2 k y ((d + 1 : Nat) : Int) l p1 s1) (r, p', s') ∧ (r.length ≤ 60 ∧ good r = true) ∧ p1 ≤ p' ∧ p' ≤ p1 + 12 + 20 * d := by
      intro y p1 s1 hgy hy g0 g2
      obtain ⟨u, v, w, p2, s2, e1, a1, b1⟩ := hole_ok hb p1 s1 g0 (by omega)
      obtain ⟨K2, e2⟩ := shWith_ok y ⟨u, v, w⟩ hy
      obtain ⟨z, g⟩ : ∃ z, (if (sortedR (y ++ [⟨u, v, w⟩])).2 = true then (sortedR (y ++ [⟨u, v, w⟩])).1 else y) = z := ⟨_, rfl⟩
      have hz : z.length ≤ 60 := by rw [← g]; split; exact sortedR_len _; exact hy
      have hgz : good z = true := by
        rw [← g]; split
        · rename_i t; exact sortedR_good _ t
        · exact hgy
      obtain ⟨r, p', s', ⟨K3, e3⟩, hr, a2, b2⟩ := ih z p2 s2 (by omega) hgz hz (by omega) (by omega)
      refine ⟨r, p', s', ⟨K2 + K3 + 1, fun k hk => ?_⟩, hr, by omega, by omega⟩
      obtain ⟨q, rfl⟩ : ∃ q, k = q + 1 := ⟨k - 1, by omega⟩
      have e2 := e2 q (by omega)
      have e3 := e3 q (by omega)
      dsimp only at e2 e3 ⊢
      rw [spec_l1Cur_changed.j2, e1, Option.bind_some]
      dsimp only
      rw [e2, Option.bind_some, hw]
      rw [← g] at e3
      split <;> rename_i t
      · rw [if_pos t] at e3; exact e3
      · rw [if_neg t] at e3; exact e3
    have J1 : ∀ (t : Bool) (p1 s1 : Int), (t = true → (x.length : Int) > 0) → p ≤ p1 → p1 ≤ p + 2 → ∃ r p' s', Ev (fun k => spec_l1Cur_changed.j1 k x ((d + 1 : Nat) : Int) t l p1 s1) (r, p', s') ∧ (r.length ≤ 60 ∧ good r = true) ∧ p ≤ p' ∧ p' ≤ p + 20 * (d + 1 : Nat) := by
      intro t p1 s1 ht g0 g2
      cases t with
      | true =>
        have hl := ht rfl
        obtain ⟨i, p2, s2, e1, i0, i1, a1, b1⟩ := pick_ok hb p1 s1 (x.length : Int) (by omega) (by omega)
        obtain ⟨y, e2, hy, hyg⟩ := shDrop_ok x i i0 (i1 (by omega)) (by omega)
        obtain ⟨r, p', s', e3, hr, a2, b2⟩ := J2 y p2 s2 (hyg hgx) (by omega) (by omega) (by omega)
        refine ⟨r, p', s', ev_step e3 (fun k => ?_), hr, by omega, by omega⟩
        rw [spec_l1Cur_changed.j1, if_pos rfl, e1, Option.bind_some, e2, Option.bind_some]
      | false =>
        obtain ⟨r, p', s', e3, hr, a2, b2⟩ := J2 x p1 s1 hgx hx (by omega) (by omega)
        refine ⟨r, p', s', ev_step e3 (fun k => ?_), hr, by omega, by omega⟩
        rw [spec_l1Cur_changed.j1, if_neg (by simp)]
    by_cases c : (x.length : Int) > 0
    · obtain ⟨b, p1, s1, e1, a1, b1⟩ := one_ok hb p s 2 h0 (by omega)
      obtain ⟨r, p', s', e3, hr, a2, b2⟩ := J1 b p1 s1 (fun _ => c) (by omega) (by omega)
      refine ⟨r, p', s', ev_step e3 (fun k => ?_), hr, by omega, by omega⟩
      rw [spec_l1Cur_changed.l0, if_pos (by omega), if_pos c, e1, Option.bind_some]
    · obtain ⟨r, p', s', e3, hr, a2, b2⟩ := J1 false p s (fun h => by cases h) (by omega) (by omega)
      refine ⟨r, p', s', ev_step e3 (fun k => ?_), hr, by omega, by omega⟩
      rw [spec_l1Cur_changed.l0, if_pos (by omega), if_neg c]
theorem changed_ok {l : List Int} (hb : bytesOk l) (p s : Int) (x : List S33) (hx : x.length ≤ 61) (h0 : 0 ≤ p) (h2 : p ≤ 10000000000000000) : ∃ r p' s', Ev (fun k => spec_l1Cur_changed.f k l p s x) (r, p', s') ∧ (r.length ≤ 61 ∧ (good x = true → good r = true)) ∧ p ≤ p' ∧ p' ≤ p + 900 := by
  obtain ⟨K1, e1⟩ := shGood_ok x (by omega)
  dsimp only at e1
  have hl : ([] : List S33).length + x.length < 5864062014805 := by simp; omega
  cases g : good x with
  | false =>
    refine ⟨[] ++ x, p, s, ⟨K1, fun k hk => ?_⟩, ⟨by simpa using hx, fun q => by simp at q⟩, by omega, by omega⟩
    dsimp only
    rw [spec_l1Cur_changed.f, Option.bind_some, if_pos hl, Option.bind_some, e1 k hk, g, Option.bind_some, if_neg (by simp)]
  | true =>
    have hx60 := good_len x g
    obtain ⟨n, p1, s1, e2, n0, n1, a1, b1⟩ := pick_ok hb p s 4 h0 (by omega)
    have n1 := n1 (by omega)
    obtain ⟨d, rfl⟩ : ∃ d : Nat, n = (d : Int) := ⟨n.toNat, by omega⟩
    obtain ⟨r, p', s', ⟨K3, e3⟩, ⟨hr, hrg⟩, a2, b2⟩ := changed_l0 hb d ([] ++ x) p1 s1 (by omega) (by simpa using g) (by simpa using hx60) (by omega) (by omega)
    refine ⟨r, p', s', ⟨K1 + K3, fun k hk => ?_⟩, ⟨by omega, fun _ => hrg⟩, by omega, by omega⟩
    dsimp only at e3 ⊢
    rw [spec_l1Cur_changed.f, Option.bind_some, if_pos hl, Option.bind_some, e1 k (by omega), g, Option.bind_some, if_pos rfl, e2, Option.bind_some]
    exact e3 k (by omega)

/-! all numbers of a list lie in a range -/
theorem l1All_l0 (lo hi : Int) (suf : List Int) : ∀ pre : List Int, (pre ++ suf).length ≤ 9223372036854775806 →
    Ev (fun k => spec_l1All.l0 k lo hi (pre ++ suf) ((pre ++ suf).length : Int) (pre.length : Int)) (suf.all fun x => decide (lo ≤ x ∧ x ≤ hi)) := by
  induction suf with
  | nil =>
    intro pre _
    refine ev_step (Ev.now _) (fun k => ?_)
    rw [spec_l1All.l0, if_neg (by simp)]
    rfl
  | cons x suf ih =>
    intro pre hl
    have h := ih (pre ++ [x]) (by simp at hl ⊢; omega)
    rw [snoc_app, snoc_leni] at h
    have hl' : (pre.length : Int) < ((pre ++ x :: suf).length : Int) := by simp; omega
    have hw : wrap64 ((pre.length : Int) + 1) = (pre.length : Int) + 1 := wrapS (by omega) (by simp at hl; omega)
    by_cases h1 : lo ≤ x ∧ x ≤ hi
    · refine ev_step (ev_eq h (by simp [h1])) (fun k => ?_)
      rw [spec_l1All.l0, if_pos hl', if_pos (by omega), if_pos hl', rd_mid, hw]
      simp [spec_l1In.f, h1]
    · refine ev_step (f := fun _ => some _) (Ev.now _) (fun k => ?_)
      rw [spec_l1All.l0, if_pos hl', if_pos (by omega), if_pos hl', rd_mid, hw]
      by_cases h2 : lo ≤ x
      · have h3 : ¬ x ≤ hi := fun h3 => h1 ⟨h2, h3⟩
        simp [spec_l1In.f, h2, h3]
      · simp [spec_l1In.f, h2]
theorem l1All_ok (l : List Int) (lo hi : Int) (h : l.length ≤ 9223372036854775806) : Ev (fun k => spec_l1All.f k l lo hi) (l.all fun x => decide (lo ≤ x ∧ x ≤ hi)) :=
  Ev.congr (fun _ => rfl) (l1All_l0 lo hi l [] (by simpa using h))

/-! the checksum of each track's holes -/
def ownOf (t : Int) (l : List S33) : List S33 := l.filter fun x => !impl_TrackChecksums.out t x
theorem ownOf_nil (t : Int) : ownOf t [] = [] := rfl
theorem ownOf_cons (t : Int) (x : S33) (l : List S33) : ownOf t (x :: l) = (if x.f0 = t then [x] else []) ++ ownOf t l := by
  unfold ownOf
  by_cases c : x.f0 = t
  · rw [List.filter_cons_of_pos (by simp [impl_TrackChecksums.out, c]), if_pos c]; rfl
  · rw [List.filter_cons_of_neg (by simp [impl_TrackChecksums.out, c]), if_neg c]; rfl
theorem ownOf_len (t : Int) (l : List S33) : (ownOf t l).length ≤ l.length := List.length_filter_le _ _
def trackSums (l : List S33) : Nat → Int → List Int
  | 0, _ => []
  | d + 1, t => sumOf 1 (ownOf t l) :: trackSums l d (t + 1)
theorem trackSums_len (l : List S33) (d : Nat) : ∀ t, (trackSums l d t).length = d := by
  induction d with
  | zero => intro t; rfl
  | succ d ih => intro t; simp [trackSums, ih]
theorem specTracks_l1 (l : List S33) (out : List Int) (ho : out.length ≤ 1000) (t : Int) (h0 : 0 ≤ t) (h1 : t < 20) (R : List Int × Bool) (suf : List S33) : ∀ (pre own : List S33), (pre ++ suf).length ≤ 1048576 → own.length ≤ pre.length →
    Ev (fun k => spec_TrackChecksums.l0 k l (out ++ [sumOf 1 (own ++ ownOf t suf)]) (t + 1)) R →
    Ev (fun k => spec_TrackChecksums.l1 k l out t own (pre ++ suf) ((pre ++ suf).length : Int) (pre.length : Int)) R := by
  induction suf with
  | nil =>
    intro pre own hl hw h
    simp only [List.append_nil] at hl
    rw [ownOf_nil, List.append_nil] at h
    obtain ⟨K1, e1⟩ := ckSum_ok own (by omega)
    obtain ⟨K2, e2⟩ := h
    dsimp only at e1 e2
    have w : wrap64 (t + 1) = t + 1 := wrapS (by omega) (by omega)
    refine ⟨K1 + K2 + 1, fun k hk => ?_⟩
    obtain ⟨m, rfl⟩ : ∃ m, k = m + 1 := ⟨k - 1, by omega⟩
    dsimp only
    rw [spec_TrackChecksums.l1, if_neg (by simp), e1 m (by omega)]
    simp only [Option.bind_some]
    rw [if_pos (by omega), w, e2 m (by omega)]
  | cons x suf ih =>
    intro pre own hl hw h
    have hlp : pre.length + 1 ≤ 1048576 := by simp at hl; omega
    have hl' : (pre.length : Int) < ((pre ++ x :: suf).length : Int) := by simp; omega
    have w : wrap64 ((pre.length : Int) + 1) = (pre.length : Int) + 1 := wrapS (by omega) (by omega)
    rw [ownOf_cons] at h
    by_cases c : x.f0 = t
    · rw [if_pos c, ← List.append_assoc] at h
      have h2 := ih (pre ++ [x]) (own ++ [x]) (by simp at hl ⊢; omega) (by simp; omega) h
      rw [snoc_app, snoc_leni] at h2
      refine ev_step h2 (fun k => ?_)
      rw [spec_TrackChecksums.l1, if_pos hl', if_pos (by omega), if_pos hl', rdH_mid, if_pos c, if_pos (by omega), w]
    · rw [if_neg c, List.nil_append] at h
      have h2 := ih (pre ++ [x]) own (by simp at hl ⊢; omega) (by simp; omega) h
      rw [snoc_app, snoc_leni] at h2
      refine ev_step h2 (fun k => ?_)
      rw [spec_TrackChecksums.l1, if_pos hl', if_pos (by omega), if_pos hl', rdH_mid, if_neg c, w]
theorem specTracks_l0 (l : List S33) (hl : l.length ≤ 1048576) (d : Nat) : ∀ (out : List Int) (t : Int), 0 ≤ t → t + d = 20 → out.length ≤ 100 - d →
    Ev (fun k => spec_TrackChecksums.l0 k l out t) (out ++ trackSums l d t, true) := by
  induction d with
  | zero =>
    intro out t h0 h1 ho
    refine ev_step (f := fun _ => some _) (Ev.now _) (fun k => ?_)
    rw [spec_TrackChecksums.l0, if_neg (by omega), trackSums, List.append_nil]
  | succ d ih =>
    intro out t h0 h1 ho
    have h := ih (out ++ [sumOf 1 (ownOf t l)]) (t + 1) (by omega) (by omega) (by simp; omega)
    have h2 := specTracks_l1 l out (by omega) t h0 (by omega) _ l [] [] (by simpa using hl) (by simp) h
    simp only [List.nil_append, List.length_nil, Int.natCast_zero] at h2
    refine ev_step (ev_eq h2 (by rw [trackSums]; simp)) (fun k => ?_)
    rw [spec_TrackChecksums.l0, if_pos (by omega)]
theorem implTracks_l0 (l : List S33) (hl : l.length ≤ 1048576) (d : Nat) : ∀ (out : List Int) (t : Int), 0 ≤ t → t + d = 20 → out.length ≤ 100 - d →
    Ev (fun k => impl_TrackChecksums.l0 k l out t) (out ++ trackSums l d t) := by
  induction d with
  | zero =>
    intro out t h0 h1 ho
    refine ev_step (f := fun _ => some _) (Ev.now _) (fun k => ?_)
    rw [impl_TrackChecksums.l0, if_neg (by omega), trackSums, List.append_nil]
  | succ d ih =>
    intro out t h0 h1 ho
    have h := ih (out ++ [sumOf 1 (ownOf t l)]) (t + 1) (by omega) (by omega) (by simp; omega)
    obtain ⟨K1, e1⟩ := checksumOf_ok (ownOf t l) (by have := ownOf_len t l; omega)
    obtain ⟨K2, e2⟩ := h
    dsimp only at e1 e2
    have w : wrap64 (t + 1) = t + 1 := wrapS (by omega) (by omega)
    have et : out ++ trackSums l (d + 1) t = (out ++ [sumOf 1 (ownOf t l)]) ++ trackSums l d (t + 1) := by rw [trackSums]; simp
    refine ⟨K1 + K2 + 1, fun k hk => ?_⟩
    obtain ⟨m, rfl⟩ : ∃ m, k = m + 1 := ⟨k - 1, by omega⟩
    have q1 := e1 m (by omega)
    unfold ownOf at q1
    dsimp only
    rw [impl_TrackChecksums.l0, if_pos (by omega), q1]
    simp only [Option.bind_some]
    rw [if_pos (by omega), w, et]
    exact e2 m (by omega)
def tracksR (l : List S33) : List Int × Bool := if good l = true then (trackSums l 20 0, true) else ([], false)
theorem tracksR_len (l : List S33) : (tracksR l).1.length ≤ 20 := by
  unfold tracksR
  by_cases c : good l = true
  · rw [if_pos c]; simp [trackSums_len]
  · rw [if_neg c]; simp
theorem specTracks_ok (l : List S33) (hl : l.length ≤ 1048576) : Ev (fun k => spec_TrackChecksums.f k l) (tracksR l) := by
  refine Ev.bind (shGood_ok l (by omega)) ?_
  cases g : good l with
  | false => exact ev_of_eq (fun _ => by simp only [tracksR, g, Bool.false_eq_true, if_false])
  | true =>
    simp only [if_true]
    exact ev_eq (specTracks_l0 l hl 20 [] 0 (by omega) (by omega) (by simp)) (by simp only [tracksR, g, if_true, List.nil_append])
theorem implTracks_ok (l : List S33) (hl : l.length ≤ 1048576) : Ev (fun k => impl_TrackChecksums.f k l) (tracksR l) := by
  refine Ev.bind (isSheet_ok l (by omega)) ?_
  cases g : good l with
  | false => exact ev_of_eq (fun _ => by simp only [tracksR, g, Bool.false_eq_true, if_false])
  | true =>
    have c : l.length < 1000000000 := by omega
    simp only [if_true, c]
    exact Ev.bind (implTracks_l0 l hl 20 [] 0 (by omega) (by omega) (by simp)) (ev_of_eq (fun _ => by simp only [tracksR, g, if_true, List.nil_append]))

/-! tracks that differ -/
def tracksOk (l : List Int) : Bool := (l.all fun x => decide (0 ≤ x ∧ x ≤ 1000002)) && decide (l.length = 20)
theorem ckTracks_ok (l : List Int) (h : l.length ≤ 9223372036854775806) : Ev (fun k => spec_ckTracks.f k l) (tracksOk l) := by
  by_cases h2 : l.length = 20
  · refine Ev.congr (fun k => ?_) (ev_eq (l1All_ok l 0 1000002 h) ?_)
    · rw [spec_ckTracks.f, if_pos (by omega)]; simp
    · simp [tracksOk, h2]
  · refine Ev.congr (f := fun _ => some (tracksOk l)) (fun k => ?_) (Ev.now _)
    rw [spec_ckTracks.f, if_neg (by omega)]
    simp [tracksOk, h2]

theorem areTracks_l0 (l : List Int) (suf : List Int) : ∀ pre : List Int, (pre ++ suf).length ≤ 9223372036854775806 →
    Ev (fun k => impl_areTrackChecksums.l0 k l (pre ++ suf) ((pre ++ suf).length : Int) (pre.length : Int)) ((suf.all fun x => decide (0 ≤ x ∧ x ≤ 1000002)) && decide (l.length = 20)) := by
  induction suf with
  | nil =>
    intro pre _
    refine ev_step (f := fun _ => some _) (Ev.now _) (fun k => ?_)
    rw [impl_areTrackChecksums.l0, if_neg (by simp)]
    have e : ((l.length : Int) == 20) = decide (l.length = 20) := by
      by_cases h : l.length = 20
      · simp [h]
      · simp [h]; omega
    rw [e]; simp
  | cons x suf ih =>
    intro pre hl
    have h := ih (pre ++ [x]) (by simp at hl ⊢; omega)
    rw [snoc_app, snoc_leni] at h
    have hl' : (pre.length : Int) < ((pre ++ x :: suf).length : Int) := by simp; omega
    have hw : wrap64 ((pre.length : Int) + 1) = (pre.length : Int) + 1 := wrapS (by omega) (by simp at hl; omega)
    by_cases h1 : 0 ≤ x ∧ x ≤ 1000002
    · refine ev_step (ev_eq h (by simp [h1])) (fun k => ?_)
      rw [impl_areTrackChecksums.l0, if_pos hl', if_pos (by omega), if_pos hl', rd_mid, hw]
      simp [impl_isChecksum.f, h1, show x < 1000003 by omega]
    · refine ev_step (f := fun _ => some _) (Ev.now _) (fun k => ?_)
      rw [impl_areTrackChecksums.l0, if_pos hl', if_pos (by omega), if_pos hl', rd_mid, hw]
      by_cases h2 : 0 ≤ x
      · have h3 : ¬ x ≤ 1000002 := fun h3 => h1 ⟨h2, h3⟩
        simp [impl_isChecksum.f, h2, h3, show ¬ x < 1000003 by omega]
      · simp [impl_isChecksum.f, h2]
theorem areTracks_ok (l : List Int) (h : l.length ≤ 9223372036854775806) : Ev (fun k => impl_areTrackChecksums.f k l) (tracksOk l) :=
  Ev.congr (fun _ => rfl) (areTracks_l0 l l [] (by simpa using h))

/-- The tracks from number n on at which two lists part. -/
def partAt : Nat → List Int → List Int → List Int
  | n, x :: a, y :: b => if x = y then partAt (n + 1) a b else (n : Int) :: partAt (n + 1) a b
  | _, _, _ => []

theorem specDiff_l0 (n : Nat) (a : List Int) : ∀ (b pa pb out : List Int), pa.length = n → pb.length = n → a.length = b.length → (pa ++ a).length ≤ 1048576 → out.length ≤ n →
    ∀ m, m = n → Ev (fun k => spec_DifferentTracks.l0 k (pb ++ b) out (pa ++ a) ((pa ++ a).length : Int) (m : Int)) (out ++ partAt n a b, true) := by
  induction a generalizing n with
  | nil =>
    intro b pa pb out hpa hpb hab hl ho m hm
    refine ev_step (f := fun _ => some _) (Ev.now _) (fun k => ?_)
    rw [spec_DifferentTracks.l0, if_neg (by simp; omega)]
    simp [partAt]
  | cons x a ih =>
    intro b pa pb out hpa hpb hab hl ho m hm
    cases b with
    | nil => simp at hab
    | cons y b =>
      subst hm
      have hl' : (m : Int) < ((pa ++ x :: a).length : Int) := by simp; omega
      have hl2 : (m : Int) < ((pb ++ y :: b).length : Int) := by simp; omega
      have hw : wrap64 ((m : Int) + 1) = ((m + 1 : Nat) : Int) := by rw [wrapS (by omega) (by simp at hl; omega)]; simp
      have e1 : rd (pa ++ x :: a) (m : Int) = x := by rw [← hpa]; exact rd_mid _ _ _
      have e2 : rd (pb ++ y :: b) (m : Int) = y := by rw [← hpb]; exact rd_mid _ _ _
      simp only [List.length_cons, Nat.add_right_cancel_iff] at hab
      by_cases h : x = y
      · have h1 := ih (m + 1) b (pa ++ [x]) (pb ++ [y]) out (by simp [hpa]) (by simp [hpb]) hab (by simp at hl ⊢; omega) (by omega) (m + 1) rfl
        rw [snoc_app, snoc_app] at h1
        refine ev_step (ev_eq h1 (by simp [partAt, h])) (fun k => ?_)
        rw [spec_DifferentTracks.l0, if_pos hl', if_pos (by omega), if_pos hl', if_pos hl2, e1, e2, if_pos h, hw]
      · have h1 := ih (m + 1) b (pa ++ [x]) (pb ++ [y]) (out ++ [(m : Int)]) (by simp [hpa]) (by simp [hpb]) hab (by simp at hl ⊢; omega) (by simp; omega) (m + 1) rfl
        rw [snoc_app, snoc_app] at h1
        refine ev_step (ev_eq h1 (by simp [partAt, h])) (fun k => ?_)
        rw [spec_DifferentTracks.l0, if_pos hl', if_pos (by omega), if_pos hl', if_pos hl2, e1, e2, if_neg h, if_pos (by simp at hl; omega), hw]

theorem implDiff_l0 (n : Nat) (a : List Int) : ∀ (b pa pb out : List Int), pa.length = n → pb.length = n → a.length = b.length → (pa ++ a).length ≤ 1048576 → out.length ≤ n →
    ∀ m, m = n → Ev (fun k => impl_DifferentTracks.l0 k (pa ++ a) (pb ++ b) out ((pa ++ a).length : Int) (m : Int)) (out ++ partAt n a b, true) := by
  induction a generalizing n with
  | nil =>
    intro b pa pb out hpa hpb hab hl ho m hm
    refine ev_step (f := fun _ => some _) (Ev.now _) (fun k => ?_)
    rw [impl_DifferentTracks.l0, if_neg (by simp; omega)]
    simp [partAt]
  | cons x a ih =>
    intro b pa pb out hpa hpb hab hl ho m hm
    cases b with
    | nil => simp at hab
    | cons y b =>
      subst hm
      have hl' : (m : Int) < ((pa ++ x :: a).length : Int) := by simp; omega
      have hl2 : (m : Int) < ((pb ++ y :: b).length : Int) := by simp; omega
      have hw : wrap64 ((m : Int) + 1) = ((m + 1 : Nat) : Int) := by rw [wrapS (by omega) (by simp at hl; omega)]; simp
      have e1 : rd (pa ++ x :: a) (m : Int) = x := by rw [← hpa]; exact rd_mid _ _ _
      have e2 : rd (pb ++ y :: b) (m : Int) = y := by rw [← hpb]; exact rd_mid _ _ _
      simp only [List.length_cons, Nat.add_right_cancel_iff] at hab
      by_cases h : x = y
      · have h1 := ih (m + 1) b (pa ++ [x]) (pb ++ [y]) out (by simp [hpa]) (by simp [hpb]) hab (by simp at hl ⊢; omega) (by omega) (m + 1) rfl
        rw [snoc_app, snoc_app] at h1
        refine ev_step (ev_eq h1 (by simp [partAt, h])) (fun k => ?_)
        rw [impl_DifferentTracks.l0, if_pos hl', if_pos (by omega), if_pos hl', if_pos hl2, e1, e2, if_pos h, hw]
      · have h1 := ih (m + 1) b (pa ++ [x]) (pb ++ [y]) (out ++ [(m : Int)]) (by simp [hpa]) (by simp [hpb]) hab (by simp at hl ⊢; omega) (by simp; omega) (m + 1) rfl
        rw [snoc_app, snoc_app] at h1
        refine ev_step (ev_eq h1 (by simp [partAt, h])) (fun k => ?_)
        rw [impl_DifferentTracks.l0, if_pos hl', if_pos (by omega), if_pos hl', if_pos hl2, e1, e2, if_neg h, if_pos (by simp at hl; omega), hw]

def diffs (a b : List Int) : List Int × Bool := if (tracksOk a && tracksOk b) = true then (partAt 0 a b, true) else ([], false)
theorem tracks_len {l : List Int} (h : tracksOk l = true) : l.length = 20 := by
  simp only [tracksOk, Bool.and_eq_true, decide_eq_true_eq] at h; exact h.2
theorem partAt_len (a : List Int) : ∀ (n : Nat) (b : List Int), (partAt n a b).length ≤ a.length := by
  induction a with
  | nil => intro n b; simp [partAt]
  | cons x a ih =>
    intro n b
    cases b with
    | nil => simp [partAt]
    | cons y b =>
      simp only [partAt]
      have := ih (n + 1) b
      split <;> simp <;> omega

theorem specDiff_ok (a b : List Int) (ha : a.length ≤ 1048576) (hb : b.length ≤ 1048576) : Ev (fun k => spec_DifferentTracks.f k a b) (diffs a b) := by
  refine Ev.bind (ckTracks_ok a (by omega)) ?_
  cases h1 : tracksOk a with
  | false =>
    simp only [Bool.false_eq_true, if_false]
    refine ev_step (f := fun _ => some _) (Ev.now _) (fun k => ?_)
    rw [spec_DifferentTracks.j0, if_pos rfl]
    simp [diffs, h1]
  | true =>
    simp only [if_true]
    refine Ev.bind (ckTracks_ok b (by omega)) ?_
    cases h2 : tracksOk b with
    | false =>
      refine ev_step (f := fun _ => some _) (Ev.now _) (fun k => ?_)
      rw [spec_DifferentTracks.j0]
      simp [diffs, h2]
    | true =>
      have h := specDiff_l0 0 a b [] [] [] rfl rfl (by rw [tracks_len h1, tracks_len h2]) (by simpa using ha) (by simp) 0 rfl
      refine ev_step (ev_eq h (by simp [diffs, h1, h2])) (fun k => ?_)
      rw [spec_DifferentTracks.j0]
      simp

theorem implDiff_ok (a b : List Int) (ha : a.length ≤ 1048576) (hb : b.length ≤ 1048576) : Ev (fun k => impl_DifferentTracks.f k a b) (diffs a b) := by
  refine Ev.bind (areTracks_ok a (by omega)) ?_
  cases h1 : tracksOk a with
  | false =>
    simp only [Bool.false_eq_true, if_false]
    refine ev_step (f := fun _ => some _) (Ev.now _) (fun k => ?_)
    rw [impl_DifferentTracks.j0, if_pos rfl]
    simp [diffs, h1]
  | true =>
    simp only [if_true]
    refine Ev.bind (areTracks_ok b (by omega)) ?_
    cases h2 : tracksOk b with
    | false =>
      refine ev_step (f := fun _ => some _) (Ev.now _) (fun k => ?_)
      rw [impl_DifferentTracks.j0]
      simp [diffs, h2]
    | true =>
      have h := implDiff_l0 0 a b [] [] [] rfl rfl (by rw [tracks_len h1, tracks_len h2]) (by simpa using ha) (by simp) 0 rfl
      refine ev_step (ev_eq h (by simp [diffs, h1, h2])) (fun k => ?_)
      rw [impl_DifferentTracks.j0]
      simp

theorem ck_back (n : Int) (h0 : 0 ≤ n) (h1 : n ≤ 9223372036854775807) : 4004001 * (n.tdiv 4004001) + 2001 * ((n.tmod 4004001).tdiv 2001) + n.tmod 2001 = n := by
  have e1 : n.tmod 4004001 = n % 4004001 := Int.tmod_eq_emod_of_nonneg h0
  rw [e1, Int.tdiv_eq_ediv_of_nonneg h0, Int.tmod_eq_emod_of_nonneg h0, Int.tdiv_eq_ediv_of_nonneg (by omega)]
  omega

/-! checksums of sheets -/
theorem ckIs_ok (s : Int) : spec_ckIs.f s = impl_isChecksum.f s := by
  unfold spec_ckIs.f spec_l1In.f impl_isChecksum.f
  by_cases h : 0 ≤ s
  · by_cases h1 : s < 1000003
    · simp [h, h1, show s ≤ 1000002 by omega]
    · simp [h, h1, show ¬ s ≤ 1000002 by omega]
  · simp [h]
theorem isCk_some (s : Int) : ∃ b, impl_isChecksum.f s = some b := by
  unfold impl_isChecksum.f; split <;> exact ⟨_, rfl⟩
theorem specChecksumOf_ok (l : List S33) (h : l.length ≤ 9223372036854775806) : Ev (fun k => spec_ChecksumOf.f k l) (if good l = true then (sumOf 1 l, true) else (0, false)) := by
  refine Ev.bind (shGood_ok l h) ?_
  by_cases g : good l = true
  · simp only [g, if_true]
    exact Ev.bind (ckSum_ok l h) ev_const
  · simp only [g, if_false]
    exact ev_const
theorem implChecksumOf_ok (l : List S33) (h : l.length ≤ 9223372036854775806) : Ev (fun k => impl_ChecksumOf.f k l) (if good l = true then (sumOf 1 l, true) else (0, false)) := by
  refine Ev.bind (isSheet_ok l h) ?_
  by_cases g : good l = true
  · simp only [g, if_true]
    exact Ev.bind (checksumOf_ok l h) ev_const
  · simp only [g, if_false]
    exact ev_const

/-! the decimal numeral, as the model writes it -/
theorem bytes_append (a b : List UInt8) : (⟨a.toArray⟩ : ByteArray) ++ ⟨b.toArray⟩ = ⟨(a ++ b).toArray⟩ := by
  apply ByteArray.ext
  rw [ByteArray.data_append]
  simp
theorem bytes_size (a : List UInt8) : (⟨a.toArray⟩ : ByteArray).size = a.length := by simp [ByteArray.size]
theorem dec_len (k n : Nat) (hn : n < 10 ^ (k + 1)) : (Lib.decDigits n).length ≤ k + 1 := by
  induction k generalizing n with
  | zero =>
    simp at hn
    rw [Lib.decDigits_one hn]
    simp
  | succ k ih =>
    have hn' : n < 10 * 10 ^ (k + 1) := by rw [Nat.pow_succ] at hn; omega
    by_cases h : n < 10
    · rw [Lib.decDigits_one h]; simp
    · have := ih (n / 10) (by omega)
      rw [Lib.decDigits, dif_neg h, List.length_append]
      simp only [List.length_cons, List.length_nil]
      omega
theorem num_ev (u : Nat) (hu : u < 9223372036854775807) : Ev (fun k => spec_l1Num.f k (u : Int)) (⟨(Lib.decDigits u).toArray⟩ : ByteArray) := by
  induction u using Nat.strongRecOn with
  | _ u ih =>
    by_cases h : u < 10
    · refine Ev.step (f := fun _ => some (⟨(Lib.decDigits u).toArray⟩ : ByteArray)) (fun k => ?_) (Ev.now _)
      simp only [spec_l1Num.f]
      rw [if_pos (by omega), Lib.decDigits_one h, wrapS (by omega) (by omega), Int.emod_eq_of_lt (by omega) (by omega)]
      congr 2
    · have hd : wrap64 (Int.tdiv (u : Int) 10) = ((u / 10 : Nat) : Int) := by
        rw [Int.tdiv_eq_ediv_of_nonneg (by omega), wrapS (by omega) (by omega)]
        omega
      have hm : (wrap64 (48 + Int.tmod (u : Int) 10)) % 256 = ((48 + u % 10 : Nat) : Int) := by
        rw [Int.tmod_eq_emod_of_nonneg (by omega), wrapS (by omega) (by omega)]
        omega
      have hl : (Lib.decDigits (u / 10)).length ≤ 19 := dec_len 18 (u / 10) (by omega)
      have hc : (strOfNums [((48 + u % 10 : Nat) : Int)]) = (⟨[UInt8.ofNat (48 + u % 10)].toArray⟩ : ByteArray) := rfl
      refine Ev.step (f := fun k => (spec_l1Num.f k ((u / 10 : Nat) : Int)).bind fun t => if t.size + (strOfNums [((48 + u % 10 : Nat) : Int)]).size ≤ 9223372036854775807 then some (t ++ strOfNums [((48 + u % 10 : Nat) : Int)]) else none) (fun k => ?_) ?_
      · simp only [spec_l1Num.f]
        rw [if_neg (by omega), hd, hm]
        rfl
      · refine Ev.bind (ih (u / 10) (by omega) (by omega)) ?_
        refine Ev.congr (f := fun _ => some (⟨(Lib.decDigits u).toArray⟩ : ByteArray)) (fun k => ?_) (Ev.now _)
        rw [hc, if_pos (by simp [ByteArray.size]; omega), bytes_append, Lib.decDigits.eq_1 u, dif_neg h]
theorem num_int (a : Int) (h0 : 0 ≤ a) (h1 : a < 9223372036854775807) : Ev (fun k => spec_l1Num.f k a) (⟨(Lib.itoa a).toArray⟩ : ByteArray) := by
  obtain ⟨u, rfl⟩ : ∃ u : Nat, a = u := ⟨a.toNat, by omega⟩
  rw [Lib.itoa_nonneg]
  exact num_ev u (by omega)
theorem itoa_len (a : Int) (h0 : 0 ≤ a) (h1 : a < 9223372036854775807) : (Lib.itoa a).length ≤ 19 := by
  obtain ⟨u, rfl⟩ : ∃ u : Nat, a = u := ⟨a.toNat, by omega⟩
  rw [Lib.itoa_nonneg]
  exact dec_len 18 u (by omega)

/-! a checksum read -/
theorem bt_data (s : ByteArray) (i : Nat) : bt s (i : Int) = ((s.data.toList.getD i 0).toNat : Int) := by
  unfold bt
  simp only [Int.toNat_natCast]
  split
  · rename_i h
    have h2 : i < s.data.toList.length := by simpa using h
    rw [List.getD_eq_getElem?_getD, List.getElem?_eq_getElem h2]
    rfl
  · rename_i h
    have h2 : ¬ i < s.data.toList.length := by simpa using h
    rw [List.getD_eq_getElem?_getD, List.getElem?_eq_none (by omega)]
    rfl
theorem bt_rangeN (s : ByteArray) (i : Nat) : 0 ≤ bt s (i : Int) ∧ bt s (i : Int) ≤ 255 := by
  rw [bt_data]
  have := (s.data.toList.getD i 0).toNat_lt
  omega
theorem one_data (s : ByteArray) : ((⟨#[49]⟩ : ByteArray) ++ s).data.toList = 49 :: s.data.toList := by
  simp
theorem one_size (s : ByteArray) : ((⟨#[49]⟩ : ByteArray) ++ s).size = s.size + 1 := by
  have h := congrArg List.length (one_data s)
  rw [List.length_cons, Array.length_toList, Array.length_toList] at h
  exact h
theorem bt_one (s : ByteArray) (i : Nat) : bt ((⟨#[49]⟩ : ByteArray) ++ s) ((i : Int) + 1) = bt s (i : Int) := by
  have e : (i : Int) + 1 = ((i + 1 : Nat) : Int) := by simp
  rw [e, bt_data, bt_data, one_data, List.getD_cons_succ]
theorem bt_one0 (s : ByteArray) : bt ((⟨#[49]⟩ : ByteArray) ++ s) 0 = 49 := by
  have h := bt_data ((⟨#[49]⟩ : ByteArray) ++ s) 0
  rw [one_data] at h
  simpa using h

/-- d digits more, from place i on. -/
def dig (s : ByteArray) : Nat → Nat → Int → Option Int
  | 0, _, n => some n
  | d + 1, i, n => if bt s (i : Int) < 48 then none else if bt s (i : Int) > 57 then none else dig s d (i + 1) (10 * n + (bt s (i : Int) - 48))

theorem pow_small (i : Nat) (h : i ≤ 8) : (1 : Int) ≤ 10 ^ i ∧ (10 : Int) ^ i ≤ 100000000 := by
  have : i = 0 ∨ i = 1 ∨ i = 2 ∨ i = 3 ∨ i = 4 ∨ i = 5 ∨ i = 6 ∨ i = 7 ∨ i = 8 := by omega
  rcases this with rfl | rfl | rfl | rfl | rfl | rfl | rfl | rfl | rfl <;> decide

def specRead (r : Option Int) : Int × Bool := match r with
  | none => (0, false)
  | some m => if 0 ≤ m ∧ m ≤ 1000002 then (m, true) else (0, false)

theorem specRead_l0 (s : ByteArray) (d : Nat) : ∀ (i : Nat) (n : Int), i + d = s.size → s.size ≤ 8 → 0 ≤ n → n < 10 ^ i →
    Ev (fun k => spec_ReadChecksum.l0 k s n (i : Int)) (specRead (dig s d i n)) := by
  induction d with
  | zero =>
    intro i n hi hs h0 h1
    refine ev_step (f := fun _ => some _) (Ev.now _) (fun k => ?_)
    rw [spec_ReadChecksum.l0, if_neg (by omega)]
    by_cases h2 : n ≤ 1000002
    · simp [spec_ckIs.f, spec_l1In.f, h0, h2, dig, specRead]
    · simp [spec_ckIs.f, spec_l1In.f, h0, h2, dig, specRead]
  | succ d ih =>
    intro i n hi hs h0 h1
    have hp := pow_small i (by omega)
    have hb := bt_rangeN s i
    by_cases c1 : bt s (i : Int) < 48
    · refine ev_step (f := fun _ => some _) (Ev.now _) (fun k => ?_)
      rw [spec_ReadChecksum.l0, if_pos (by omega), if_pos (by omega), if_pos c1]
      simp [dig, c1, specRead]
    by_cases c2 : bt s (i : Int) > 57
    · refine ev_step (f := fun _ => some _) (Ev.now _) (fun k => ?_)
      rw [spec_ReadChecksum.l0, if_pos (by omega), if_pos (by omega), if_neg c1, if_pos c2]
      simp [dig, c1, c2, specRead]
    have h := ih (i + 1) (10 * n + (bt s (i : Int) - 48)) (by omega) hs (by omega) (by rw [Int.pow_succ]; omega)
    refine ev_step (ev_eq h (by simp [dig, c1, c2])) (fun k => ?_)
    rw [spec_ReadChecksum.l0, if_pos (by omega), if_pos (by omega), if_neg c1, if_neg c2, Int.emod_eq_of_lt (by omega) (by omega), wrapS (x := 10 * n) (by omega) (by omega), wrapS (by omega) (by omega), wrapS (by omega) (by omega)]
    simp

def implRead (r : Option Int) : Int × Bool := match r with
  | none => (0, false)
  | some m => (m, true)

theorem decimal_l0 (s : ByteArray) (d : Nat) : ∀ (i : Nat) (n : Int), i + d = s.size → s.size ≤ 8 → 0 ≤ n → n < 10 ^ i →
    Ev (fun k => impl_decimal.l0 k ((⟨#[49]⟩ : ByteArray) ++ s) (10 ^ i + n) ((i : Int) + 1)) (implRead ((dig s d i n).map (fun m => 10 ^ s.size + m))) := by
  induction d with
  | zero =>
    intro i n hi hs h0 h1
    refine ev_step (f := fun _ => some _) (Ev.now _) (fun k => ?_)
    rw [impl_decimal.l0, if_neg (by rw [one_size]; omega)]
    have : i = s.size := by omega
    subst this
    simp [dig, implRead]
  | succ d ih =>
    intro i n hi hs h0 h1
    have hp := pow_small i (by omega)
    have hb := bt_rangeN s i
    have hz : (i : Int) + 1 < ((((⟨#[49]⟩ : ByteArray) ++ s).size : Nat) : Int) := by rw [one_size]; omega
    by_cases c1 : bt s (i : Int) < 48
    · refine ev_step (f := fun _ => some _) (Ev.now _) (fun k => ?_)
      rw [impl_decimal.l0, if_pos hz, if_pos (by omega), bt_one, if_pos c1]
      simp [dig, c1, implRead]
    by_cases c2 : bt s (i : Int) > 57
    · refine ev_step (f := fun _ => some _) (Ev.now _) (fun k => ?_)
      rw [impl_decimal.l0, if_pos hz, if_pos (by omega), bt_one, if_neg c1, if_pos c2]
      simp [dig, c1, c2, implRead]
    have h := ih (i + 1) (10 * n + (bt s (i : Int) - 48)) (by omega) hs (by omega) (by rw [Int.pow_succ]; omega)
    refine ev_step (ev_eq h (by simp [dig, c1, c2])) (fun k => ?_)
    rw [impl_decimal.l0, if_pos hz, if_pos (by omega), bt_one, if_neg c1, if_neg c2, Int.emod_eq_of_lt (by omega) (by omega), wrapS (x := 10 * (10 ^ i + n)) (by omega) (by omega), wrapS (by omega) (by omega), wrapS (by omega) (by omega)]
    have e1 : 10 * (10 ^ i + n) + (bt s (i : Int) - 48) = 10 ^ (i + 1) + (10 * n + (bt s (i : Int) - 48)) := by rw [Int.pow_succ]; omega
    have e2 : ((i + 1 : Nat) : Int) = (i : Int) + 1 := by simp
    rw [e1, e2]

theorem decimal_ok (s : ByteArray) (hs : s.size ≤ 8) : Ev (fun k => impl_decimal.f k ((⟨#[49]⟩ : ByteArray) ++ s)) (implRead ((dig s s.size 0 0).map (fun m => 10 ^ s.size + m))) := by
  have h := decimal_l0 s s.size 0 0 (by omega) hs (by omega) (by decide)
  have h1 : Ev (fun k => impl_decimal.l0 k ((⟨#[49]⟩ : ByteArray) ++ s) 0 0) (implRead ((dig s s.size 0 0).map (fun m => 10 ^ s.size + m))) := by
    refine ev_step h (fun k => ?_)
    rw [impl_decimal.l0, if_pos (by rw [one_size]; omega), if_pos (by omega), bt_one0]
    simp [wrap64]
  have h2 : Ev (fun k => impl_decimal.j0 k ((⟨#[49]⟩ : ByteArray) ++ s) false) (implRead ((dig s s.size 0 0).map (fun m => 10 ^ s.size + m))) := by
    refine ev_step h1 (fun k => ?_)
    rw [impl_decimal.j0, if_neg (by decide)]
  refine Ev.congr (fun k => ?_) h2
  have hne : ¬ ((⟨#[49]⟩ : ByteArray) ++ s).toList = [] := by
    rw [ByteArray.toList_eq, one_data]
    simp
  rw [impl_decimal.f, if_neg hne, if_neg (by rw [one_size]; omega), if_pos (by rw [one_size]; omega), bt_one0, if_neg (by decide)]

theorem decimal_long (s : ByteArray) (hs : 8 < s.size) : Ev (fun k => impl_decimal.f k ((⟨#[49]⟩ : ByteArray) ++ s)) (0, false) := by
  have h2 : Ev (fun k => impl_decimal.j0 k ((⟨#[49]⟩ : ByteArray) ++ s) true) (0, false) := by
    refine ev_step (f := fun _ => some _) (Ev.now _) (fun k => ?_)
    rw [impl_decimal.j0, if_pos rfl]
  refine Ev.congr (fun k => ?_) h2
  rw [impl_decimal.f]
  split
  · rfl
  · rw [if_pos (by rw [one_size]; omega)]

theorem specReadCk_ok (s : ByteArray) (h : s.size = 7) : Ev (fun k => spec_ReadChecksum.f k s) (specRead (dig s 7 0 0)) := by
  have h1 := specRead_l0 s 7 0 0 (by omega) (by omega) (by omega) (by decide)
  refine Ev.congr (fun k => ?_) h1
  rw [spec_ReadChecksum.f, if_pos (by omega)]
  rfl

theorem implReadCk_ok (s : ByteArray) (h : s.size = 7) : Ev (fun k => impl_ReadChecksum.f k s) (specRead (dig s 7 0 0)) := by
  have h1 := decimal_ok s (by omega)
  rw [h] at h1
  have hb : ∀ m, dig s 7 0 0 = some m → 0 ≤ m ∧ m < 10000000 := by
    have key : ∀ (d i : Nat) (n m : Int), i + d = 7 → 0 ≤ n → n < 10 ^ i → dig s d i n = some m → 0 ≤ m ∧ m < 10000000 := by
      intro d
      induction d with
      | zero =>
        intro i n m hi h0 h1 h2
        obtain rfl : i = 7 := by omega
        simp only [dig, Option.some.injEq] at h2
        subst h2
        exact ⟨h0, by simpa using h1⟩
      | succ d ih =>
        intro i n m hi h0 h1 h2
        simp only [dig] at h2
        have hp := pow_small i (by omega)
        split at h2
        · simp at h2
        · split at h2
          · simp at h2
          · exact ih (i + 1) _ m (by omega) (by omega) (by rw [Int.pow_succ]; omega) h2
    intro m hm
    exact key 7 0 0 m (by omega) (by omega) (by decide) hm
  refine Ev.congr (f := fun k => (impl_decimal.f k ((⟨#[49]⟩ : ByteArray) ++ s)).bind (fun bt103 => (if bt103.2 = true then (if (s.size : Int) = 7 then ((impl_isChecksum.f (wrap64 (bt103.1 - 10000000))).bind fun t105 => (if t105 = true then (some (wrap64 (bt103.1 - 10000000), true)) else (some (0, false)))) else (some (0, false))) else (some (0, false))))) (fun k => ?_) (Ev.bind h1 ?_)
  · rw [impl_ReadChecksum.f, if_pos (by omega)]
  · cases hd : dig s 7 0 0 with
    | none =>
      refine Ev.congr (f := fun _ => some _) (fun k => ?_) (Ev.now _)
      simp [implRead, specRead]
    | some m =>
      have hm := hb m hd
      refine Ev.congr (f := fun _ => some _) (fun k => ?_) (Ev.now _)
      have e1 : wrap64 (10 ^ 7 + m - 10000000) = m := by rw [wrapS (by omega) (by omega)]; omega
      simp only [implRead, Option.map_some, if_true, e1, h, impl_isChecksum.f]
      by_cases h2 : m ≤ 1000002
      · simp [specRead, hm.1, h2, show m < 1000003 by omega]
      · simp [specRead, hm.1, h2, show ¬ m < 1000003 by omega]

/-! the text of a checksum, and reading it back -/
theorem dec_pad (k n : Nat) (hn : n < 10 ^ (k + 1)) : (Lib.decDigits n).length ≤ k + 1 ∧ List.replicate (k + 1 - (Lib.decDigits n).length) 48 ++ Lib.decDigits n = DoorLib.tailDigits (k + 1) n := by
  induction k generalizing n with
  | zero =>
    simp at hn
    rw [Lib.decDigits_one hn]
    refine ⟨by simp, ?_⟩
    simp [DoorLib.tailDigits, Nat.mod_eq_of_lt hn]
  | succ k ih =>
    have hn' : n < 10 * 10 ^ (k + 1) := by rw [Nat.pow_succ] at hn; omega
    obtain ⟨hl, he⟩ := ih (n / 10) (by omega)
    by_cases h : n < 10
    · have h0 : n / 10 = 0 := by omega
      rw [h0] at hl he
      rw [Lib.decDigits_one (show (0 : Nat) < 10 by omega)] at hl he
      rw [Lib.decDigits_one h]
      refine ⟨by simp, ?_⟩
      rw [DoorLib.tailDigits, h0, ← he, Nat.mod_eq_of_lt h]
      simp only [List.length_cons, List.length_nil, Nat.zero_add, Nat.add_sub_cancel]
      rw [List.replicate_succ', List.append_assoc, List.append_assoc]
      rfl
    · rw [Lib.decDigits, dif_neg h]
      refine ⟨by simp; omega, ?_⟩
      rw [DoorLib.tailDigits, ← he]
      simp only [List.length_append, List.length_cons, List.length_nil, Nat.zero_add, List.append_assoc]
      congr 2
      omega
theorem pad_ev (m : Nat) (l : List UInt8) (hm : m = 7 - l.length) : Ev (fun k => spec_ckText.l0 k (⟨l.toArray⟩ : ByteArray)) (⟨(List.replicate m 48 ++ l).toArray⟩ : ByteArray) := by
  induction m generalizing l with
  | zero =>
    refine ev_step (f := fun _ => some (⟨l.toArray⟩ : ByteArray)) (Ev.now _) (fun k => ?_)
    rw [spec_ckText.l0, if_neg (by simp [ByteArray.size]; omega)]
  | succ m ih =>
    have h := ih (48 :: l) (by simp; omega)
    have e : List.replicate (m + 1) (48 : UInt8) ++ l = List.replicate m 48 ++ 48 :: l := by rw [List.replicate_succ', List.append_assoc]; rfl
    rw [e]
    refine ev_step h (fun k => ?_)
    have e2 := bytes_append [48] l
    rw [spec_ckText.l0, if_pos (by simp [ByteArray.size]; omega), if_pos (by simp [ByteArray.size]; omega), show (⟨#[48]⟩ : ByteArray) = ⟨[(48 : UInt8)].toArray⟩ from rfl, e2]
    rfl
theorem cktext_ev (n : Nat) (hn : n < 10000000) : Ev (fun k => spec_ckText.f k (n : Int)) (⟨(DoorLib.tailDigits 7 n).toArray⟩ : ByteArray) := by
  rw [← (dec_pad 6 n (by simpa using hn)).2]
  exact Ev.bind (num_ev n (by omega)) (pad_ev _ _ rfl)
def ckR (a : Int) : ByteArray × Bool := if 0 ≤ a ∧ a < 1000003 then ((⟨(DoorLib.tailDigits 7 a.toNat).toArray⟩ : ByteArray), true) else ((⟨#[]⟩ : ByteArray), false)
theorem implText_ok (a : Int) : impl_ChecksumText.f a = some (ckR a) := by
  rw [impl_ChecksumText.f, ckR]
  by_cases h : 0 ≤ a ∧ a < 1000003
  · rw [if_pos h, if_pos h]
  · rw [if_neg h, if_neg h]
theorem ckIs_is (a : Int) : spec_ckIs.f a = some (decide (0 ≤ a ∧ a < 1000003)) := by
  unfold spec_ckIs.f spec_l1In.f
  by_cases h0 : a ≥ 0
  · rw [if_pos h0, Option.bind_some]; exact congrArg some (decide_eq_decide.2 ⟨fun q => ⟨h0, by omega⟩, fun q => by have := q.2; omega⟩)
  · rw [if_neg h0, Option.bind_some]; exact congrArg some (decide_eq_false (by omega)).symm
theorem specText_ok (a : Int) : Ev (fun k => spec_ChecksumText.f k a) (ckR a) := by
  by_cases h : 0 ≤ a ∧ a < 1000003
  · obtain ⟨n, rfl⟩ : ∃ n : Nat, a = n := ⟨a.toNat, by omega⟩
    obtain ⟨K, e⟩ := cktext_ev n (by omega)
    refine ⟨K, fun k hk => ?_⟩
    have e := e k hk
    dsimp only at e ⊢
    rw [spec_ChecksumText.f, ckIs_is, decide_eq_true h, Option.bind_some, if_pos rfl, e, Option.bind_some, ckR, if_pos h]
    rfl
  · refine ev_of_eq (fun k => ?_)
    rw [spec_ChecksumText.f, ckIs_is, decide_eq_false h, Option.bind_some, if_neg (by simp), ckR, if_neg h]
theorem u8dig (m : Nat) (h : m < 10) : (UInt8.ofNat (48 + m)).toNat = 48 + m := by
  rw [UInt8.toNat_ofNat']; exact Nat.mod_eq_of_lt (by omega)
theorem dig_tail (n : Nat) (hn : n < 10000000) : dig (⟨(DoorLib.tailDigits 7 n).toArray⟩ : ByteArray) 7 0 0 = some (n : Int) := by
  have hb : ∀ (i : Nat) (m : Nat), m < 10 → (DoorLib.tailDigits 7 n)[i]? = some (UInt8.ofNat (48 + m)) → bt (⟨(DoorLib.tailDigits 7 n).toArray⟩ : ByteArray) (i : Int) = 48 + (m : Int) := by
    intro i m hm h
    rw [bt_data, List.getD_eq_getElem?_getD]
    simp only
    rw [h, Option.getD_some, u8dig m hm]
    omega
  have b0 := hb 0 (n / 10 / 10 / 10 / 10 / 10 / 10 % 10) (Nat.mod_lt _ (by omega)) (by simp [DoorLib.tailDigits])
  have b1 := hb 1 (n / 10 / 10 / 10 / 10 / 10 % 10) (Nat.mod_lt _ (by omega)) (by simp [DoorLib.tailDigits])
  have b2 := hb 2 (n / 10 / 10 / 10 / 10 % 10) (Nat.mod_lt _ (by omega)) (by simp [DoorLib.tailDigits])
  have b3 := hb 3 (n / 10 / 10 / 10 % 10) (Nat.mod_lt _ (by omega)) (by simp [DoorLib.tailDigits])
  have b4 := hb 4 (n / 10 / 10 % 10) (Nat.mod_lt _ (by omega)) (by simp [DoorLib.tailDigits])
  have b5 := hb 5 (n / 10 % 10) (Nat.mod_lt _ (by omega)) (by simp [DoorLib.tailDigits])
  have b6 := hb 6 (n % 10) (Nat.mod_lt _ (by omega)) (by simp [DoorLib.tailDigits])
  generalize (⟨(DoorLib.tailDigits 7 n).toArray⟩ : ByteArray) = s at b0 b1 b2 b3 b4 b5 b6
  clear hb
  rw [dig, b0, if_neg (by omega), if_neg (by omega), dig, b1, if_neg (by omega), if_neg (by omega), dig, b2, if_neg (by omega), if_neg (by omega), dig, b3, if_neg (by omega), if_neg (by omega), dig, b4, if_neg (by omega), if_neg (by omega), dig, b5, if_neg (by omega), if_neg (by omega), dig, b6, if_neg (by omega), if_neg (by omega), dig]
  congr 1
  omega
theorem ck_size (n : Nat) : (⟨(DoorLib.tailDigits 7 n).toArray⟩ : ByteArray).size = 7 := by
  rw [bytes_size, DoorLib.tailDigits_length]
/-- The text of a checksum is read back. -/
theorem read_back (n : Nat) (hn : n < 1000003) : Ev (fun k => impl_ReadChecksum.f k (⟨(DoorLib.tailDigits 7 n).toArray⟩ : ByteArray)) ((n : Int), true) := by
  have h := implReadCk_ok _ (ck_size n)
  rw [dig_tail n (by omega)] at h
  refine ev_eq h ?_
  simp only [specRead]
  rw [if_pos (by omega)]
theorem ck_lt (s t a b : Int) (h0 : 0 ≤ s) (h1 : s ≤ 1000002) (g : holeOk t a b = true) : 0 ≤ ck s t a b ∧ ck s t a b ≤ 1000002 := by
  obtain ⟨b1, b2, b3, b4, b5, b6⟩ := holeOk_bounds g
  unfold ck
  rw [wrapS (x := 31 * s) (by omega) (by omega), wrapS (x := 4004001 * t) (by omega) (by omega), wrapS (x := 2001 * a) (by omega) (by omega), wrapS (x := 4004001 * t + 2001 * a) (by omega) (by omega), wrapS (x := 4004001 * t + 2001 * a + b) (by omega) (by omega), wrapS (by omega) (by omega), Int.tmod_eq_emod_of_nonneg (by omega)]
  omega
theorem sumOf_lt (l : List S33) : ∀ s, 0 ≤ s → s ≤ 1000002 → (∀ x ∈ l, holeOk x.f0 x.f1 x.f2 = true) → 0 ≤ sumOf s l ∧ sumOf s l ≤ 1000002 := by
  induction l with
  | nil => intro s h0 h1 _; exact ⟨h0, h1⟩
  | cons x l ih =>
    intro s h0 h1 h
    rw [sumOf]
    obtain ⟨c1, c2⟩ := ck_lt s x.f0 x.f1 x.f2 h0 h1 (h x (by simp))
    exact ih _ c1 c2 (fun y hy => h y (by simp [hy]))
theorem trackSums_get (l : List S33) (d : Nat) : ∀ (t : Int) (n : Nat), n < d → (trackSums l d t).getD n 0 = sumOf 1 (ownOf (t + n) l) := by
  induction d with
  | zero => intro t n h; omega
  | succ d ih =>
    intro t n h
    rw [trackSums]
    rcases n with _ | n
    · simp
    · rw [List.getD_cons_succ, ih (t + 1) n (by omega)]
      have : t + 1 + (n : Int) = t + ((n + 1 : Nat) : Int) := by omega
      rw [this]
theorem trackSums_all (l : List S33) (h : ∀ x ∈ l, holeOk x.f0 x.f1 x.f2 = true) (d : Nat) : ∀ t, ∀ x ∈ trackSums l d t, 0 ≤ x ∧ x ≤ 1000002 := by
  induction d with
  | zero => intro t x hx; cases hx
  | succ d ih =>
    intro t x hx
    rw [trackSums] at hx
    rcases List.mem_cons.1 hx with rfl | q
    · exact sumOf_lt _ 1 (by omega) (by omega) (fun y hy => h y (List.mem_filter.1 hy).1)
    · exact ih _ x q
theorem tracks_good (l : List S33) (g : good l = true) : tracksOk (trackSums l 20 0) = true := by
  have h := ((good_iff l).1 g).1
  unfold tracksOk
  rw [Bool.and_eq_true]
  refine ⟨List.all_eq_true.2 (fun x hx => decide_eq_true (trackSums_all l h 20 0 x hx)), decide_eq_true (trackSums_len l 20 0)⟩
theorem partAt_self (a : List Int) : ∀ n, partAt n a a = [] := by
  induction a with
  | nil => intro n; rfl
  | cons x a ih => intro n; rw [partAt, if_pos rfl]; exact ih _
/-- The number of a hole, and the hole of that number. -/
theorem number_ok (t a b : Int) (g : holeOk t a b = true) : spec_HoleNumber.f t a b = some (4004001 * t + 2001 * a + b, true) ∧ impl_HoleNumber.f t a b = some (4004001 * t + 2001 * a + b, true) ∧ impl_HoleOfNumber.f (4004001 * t + 2001 * a + b) = some (t, a, b, true) := by
  obtain ⟨b1, b2, b3, b4, b5, b6⟩ := holeOk_bounds g
  refine ⟨?_, ?_, ?_⟩
  · simp only [spec_HoleNumber.f, shHole_ok, g, spec_ckNumber.f, Option.bind_some, if_true]
    rw [wrapS (x := 4004001 * t) (by omega) (by omega), wrapS (x := 2001 * a) (by omega) (by omega), wrapS (x := 4004001 * t + 2001 * a) (by omega) (by omega), wrapS (by omega) (by omega)]
  · simp only [impl_HoleNumber.f, isHole_ok, g, impl_holeNumber.f, Option.bind_some, if_true]
    rw [Int.mul_comm t, Int.mul_comm a, wrapS (x := 4004001 * t) (by omega) (by omega), wrapS (x := 2001 * a) (by omega) (by omega), wrapS (x := 4004001 * t + 2001 * a) (by omega) (by omega), wrapS (by omega) (by omega)]
  · have e1 : (4004001 * t + 2001 * a + b).tdiv 4004001 = t := by rw [Int.tdiv_eq_ediv_of_nonneg (by omega)]; omega
    have e2 : ((4004001 * t + 2001 * a + b).tmod 4004001).tdiv 2001 = a := by rw [Int.tmod_eq_emod_of_nonneg (by omega), Int.tdiv_eq_ediv_of_nonneg (by omega)]; omega
    have e3 : (4004001 * t + 2001 * a + b).tmod 2001 = b := by rw [Int.tmod_eq_emod_of_nonneg (by omega)]; omega
    rw [impl_HoleOfNumber.f, if_neg (by omega), e1, e2, e3, wrapS (x := t) (by omega) (by omega), wrapS (x := a) (by omega) (by omega), isHole_ok, g, Option.bind_some, if_pos rfl]
theorem extend_same (s t a b : Int) : impl_ExtendChecksum.f s t a b = spec_ExtendChecksum.f s t a b := by
  obtain ⟨c, hc⟩ := isCk_some s
  simp only [spec_ExtendChecksum.f, impl_ExtendChecksum.f, ckIs_ok, hc, shHole_ok, isHole_ok, spec_ckExtend.f, impl_extendChecksum.f, spec_ckNumber.f, impl_holeNumber.f, Option.bind_some, Int.mul_comm t, Int.mul_comm a]
theorem extend_yes (s t a b : Int) (h0 : 0 ≤ s) (h1 : s ≤ 1000002) (g : holeOk t a b = true) : spec_ExtendChecksum.f s t a b = some (ck s t a b, true) := by
  simp only [spec_ExtendChecksum.f, ckIs_is, decide_eq_true (show 0 ≤ s ∧ s < 1000003 from ⟨h0, by omega⟩), shHole_ok, g, ckExtend_ok, Option.bind_some, if_true]
theorem holeOf_same (n : Int) (hn : -9223372036854775808 ≤ n ∧ n ≤ 9223372036854775807) : ∃ r, impl_HoleOfNumber.f n = some r ∧ spec_HoleOfNumber.f n = some r := by
  by_cases c : n < 0
  · exact ⟨(0, 0, 0, false), by rw [impl_HoleOfNumber.f, if_pos c], by rw [spec_HoleOfNumber.f, if_pos c]⟩
  · have hk := ck_back n (by omega) hn.2
    have w1 : wrap64 (n.tdiv 4004001) = n.tdiv 4004001 := by rw [Int.tdiv_eq_ediv_of_nonneg (by omega)]; exact wrapS (by omega) (by omega)
    have w2 : wrap64 ((n.tmod 4004001).tdiv 2001) = (n.tmod 4004001).tdiv 2001 := by rw [Int.tmod_eq_emod_of_nonneg (by omega), Int.tdiv_eq_ediv_of_nonneg (by omega)]; exact wrapS (by omega) (by omega)
    cases g : holeOk (n.tdiv 4004001) ((n.tmod 4004001).tdiv 2001) (n.tmod 2001) with
    | false =>
      refine ⟨(0, 0, 0, false), ?_, ?_⟩
      · rw [impl_HoleOfNumber.f, if_neg c, w1, w2, isHole_ok, g, Option.bind_some, if_neg (by simp)]
      · rw [spec_HoleOfNumber.f, if_neg c, w1, w2, shHole_ok, g, Option.bind_some, if_neg (by simp)]
    | true =>
      obtain ⟨b1, b2, b3, b4, b5, b6⟩ := holeOk_bounds g
      have hc : spec_ckNumber.f (n.tdiv 4004001) ((n.tmod 4004001).tdiv 2001) (n.tmod 2001) = some n := by
        rw [spec_ckNumber.f]
        rw [wrapS (x := 4004001 * n.tdiv 4004001) (by omega) (by omega), wrapS (x := 2001 * (n.tmod 4004001).tdiv 2001) (by omega) (by omega), wrapS (x := 4004001 * n.tdiv 4004001 + 2001 * (n.tmod 4004001).tdiv 2001) (by omega) (by omega), hk, wrapS hn.1 hn.2]
      refine ⟨(n.tdiv 4004001, (n.tmod 4004001).tdiv 2001, n.tmod 2001, true), ?_, ?_⟩
      · rw [impl_HoleOfNumber.f, if_neg c, w1, w2, isHole_ok, g, Option.bind_some, if_pos rfl]
      · rw [spec_HoleOfNumber.f, if_neg c, w1, w2, shHole_ok, g, Option.bind_some, if_pos rfl, hc, Option.bind_some, if_pos rfl]
theorem readCk_same (s : ByteArray) (hs : s.size ≤ 1048576) : ∃ r, Ev (fun k => impl_ReadChecksum.f k s) r ∧ Ev (fun k => spec_ReadChecksum.f k s) r := by
  by_cases h7 : s.size = 7
  · exact ⟨_, implReadCk_ok s h7, specReadCk_ok s h7⟩
  · refine ⟨(0, false), ?_, ev_of_eq (fun k => by rw [spec_ReadChecksum.f, if_neg (by omega)])⟩
    have hd : ∃ r, Ev (fun k => impl_decimal.f k ((⟨#[49]⟩ : ByteArray) ++ s)) r := by
      by_cases h8 : s.size ≤ 8
      · exact ⟨_, decimal_ok s h8⟩
      · exact ⟨_, decimal_long s (by omega)⟩
    obtain ⟨r, K, hK⟩ := hd
    refine ⟨K, fun k hk => ?_⟩
    have e := hK k hk
    dsimp only at e ⊢
    rw [impl_ReadChecksum.f, if_pos (by omega), e]
    simp only [Option.bind_some]
    split
    · rw [if_neg (by omega)]
    · rfl

end Go.Proofs.YtpbffmjjhmllbaaDoor.LFnChecksumsA
