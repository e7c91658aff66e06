/- For every input the law FnExactUsedSources answers true, after some number of rounds; the condition is the input's own bound. -/
import Derived.Test.YtockbgeloiekdaaQFnExactUsedSourcesx11
import Derived.Test.YtockbgeloiekdaaBase
namespace Go.Proofs.Ytockbgeloiekdaa.LUsedSources
open Go Go.RowKit Go.Proofs.Ytockbgeloiekdaa.QFnExactUsedSources Go.Proofs.YtockbgeloiekdaaW.PrintWords Go.Proofs.YtockbgeloiekdaaW.PrintLast Go.Proofs.YtockbgeloiekdaaW.PrintMore Go.Proofs.Ytockbgeloiekdaa.Base
set_option linter.unusedVariables false
set_option linter.unusedSimpArgs false

/-! slices of ints: copied, held against each other, marked -/
theorem eqIntS_l0 (suf : List Int) : ∀ pre : List Int, (pre ++ suf).length ≤ 9223372036854775806 → Ev (fun k => laws_eqIntS.l0 k (pre ++ suf) (pre ++ suf) (pre.length : Int)) true := by
  induction suf with
  | nil =>
    intro pre _
    refine ev_step ev_const (fun k => ?_)
    rw [laws_eqIntS.l0, if_neg (by simp)]
  | cons x suf ih =>
    intro pre hl
    have h := ih (pre ++ [x]) (by simp at hl ⊢; omega)
    rw [snoc_app, snoc_leni] at h
    have hl' : (pre.length : Int) < ((pre ++ x :: suf).length : Int) := by simp; omega
    refine ev_step h (fun k => ?_)
    rw [laws_eqIntS.l0, if_pos hl', if_pos (by omega), if_pos hl', if_pos rfl, wrapS (by omega) (by simp at hl; omega)]

theorem eqIntS_same (l : List Int) (h : l.length ≤ 9223372036854775806) : Ev (fun k => laws_eqIntS.f k l l) true := by
  have := eqIntS_l0 l [] (by simpa using h)
  refine Ev.congr (fun k => ?_) this
  simp [laws_eqIntS.f]

/-- a, a + 1, .. -/
def countUp : Int → Nat → List Int
  | _, 0 => []
  | a, n + 1 => a :: countUp (a + 1) n
theorem countUp_length (n : Nat) : ∀ a, (countUp a n).length = n := by
  induction n with
  | zero => intro a; rfl
  | succ n ih => intro a; simp [countUp, ih]

theorem markIntS_l0 (suf : List Int) : ∀ (pre : List Int) (a : Int), (pre ++ suf).length ≤ 1048576000 → 0 ≤ a → a + suf.length ≤ 4000000000000 → Ev (fun k => laws_markIntS.l0 k (pre ++ suf) a (pre.length : Int)) (a + suf.length, pre ++ countUp a suf.length) := by
  induction suf with
  | nil =>
    intro pre a _ _ _
    refine ev_step ev_const (fun k => ?_)
    rw [laws_markIntS.l0, if_neg (by simp)]
    simp [countUp]
  | cons x suf ih =>
    intro pre a hl h0 h1
    simp only [List.length_cons] at h1
    have h := ih (pre ++ [a]) (a + 1) (by simp at hl ⊢; omega) (by omega) (by omega)
    rw [snoc_app, snoc_app, snoc_leni] at h
    have hl' : (pre.length : Int) < ((pre ++ x :: suf).length : Int) := by simp; omega
    refine ev_step (ev_eq h ?_) (fun k => ?_)
    · simp only [List.length_cons, countUp, Prod.mk.injEq, and_true]; omega
    · rw [laws_markIntS.l0, if_pos hl', if_pos (by omega), wrapS (x := (pre.length : Int) + 1) (by omega) (by simp at hl; omega), wrapS (x := a + 1) (by omega) (by omega), set_mid _ _ _ _ _ (by simp)]

theorem markIntS_marks (l : List Int) (a : Int) (hl : l.length ≤ 1048576000) (h0 : 0 ≤ a) (h1 : a ≤ 1000000000000) : Ev (fun k => laws_markIntS.f k l a) (a + l.length, countUp a l.length) := by
  have := markIntS_l0 l [] a (by simpa using hl) h0 (by omega)
  refine Ev.congr (f := fun k => laws_markIntS.l0 k l a 0) (fun k => rfl) (by simpa using this)

theorem heldIntS_l0 (n : Nat) : ∀ (pre : List Int) (a : Int), pre.length + n ≤ 1048576000 → 0 ≤ a → a + n ≤ 4000000000000 → Ev (fun k => laws_heldIntS.l0 k (pre ++ countUp a n) a (pre.length : Int)) (a + n) := by
  induction n with
  | zero =>
    intro pre a _ _ _
    refine ev_step ev_const (fun k => ?_)
    rw [laws_heldIntS.l0, if_neg (by simp [countUp])]
    simp
  | succ n ih =>
    intro pre a hl h0 h1
    have h := ih (pre ++ [a]) (a + 1) (by simp; omega) (by omega) (by omega)
    rw [snoc_app, snoc_leni] at h
    refine ev_step (ev_eq h (by omega)) (fun k => ?_)
    rw [laws_heldIntS.l0, countUp, if_pos (by simp; omega), if_pos (by omega), rd_mid, if_pos rfl, wrapS (x := (pre.length : Int) + 1) (by omega) (by omega), wrapS (x := a + 1) (by omega) (by omega)]

theorem heldIntS_marked (n : Nat) (a : Int) (hl : n ≤ 1048576000) (h0 : 0 ≤ a) (h1 : a ≤ 1000000000000) : Ev (fun k => laws_heldIntS.f k (countUp a n) a) (a + n) := by
  have := heldIntS_l0 n [] a (by simpa using hl) h0 (by omega)
  refine Ev.congr (f := fun k => laws_heldIntS.l0 k (countUp a n) a 0) (fun k => rfl) (by simpa using this)

/-! slices of parts: copied, held against each other, measured; good parts -/
def toP (x : S62) : S59 := ⟨x.f0, x.f1, x.f2⟩
theorem rdLP_mid (pre suf : List S62) (x : S62) : rd_T62 (pre ++ x :: suf) (pre.length : Int) = x := getD_mid _ _ _ _ _ (by simp)
theorem rdP_mid (pre suf : List S59) (x : S59) : rd_T59 (pre ++ x :: suf) (pre.length : Int) = x := getD_mid _ _ _ _ _ (by simp)
theorem szPartS_ok (l : List S62) (n : Int) (h0 : 0 ≤ n) (h1 : n ≤ 1048576) (h : l.length ≤ 140737488351232) : laws_szPartS.f l n = some (if n - (l.length : Int) < 0 then -1 else n - (l.length : Int)) := by
  have w1 : wrap64 (n - (l.length : Int)) = n - (l.length : Int) := wrapS (by omega) (by omega)
  rw [laws_szPartS.f, w1]
  split <;> rfl
theorem toPartS_l0 (suf : List S62) : ∀ pre : List S62, (pre ++ suf).length ≤ 9223372036854775806 →
    Ev (fun k => laws_toPartS.l0 k (pre ++ suf) (pre.map toP ++ List.replicate suf.length z59) (pre.length : Int)) ((pre ++ suf).map toP) := by
  induction suf with
  | nil =>
    intro pre _
    refine ev_step ev_const (fun k => ?_)
    rw [laws_toPartS.l0, if_neg (by simp)]
    simp
  | cons x suf ih =>
    intro pre hl
    have h := ih (pre ++ [x]) (by simp at hl ⊢; omega)
    rw [snoc_app, snoc_leni, List.map_append, List.map_cons, List.map_nil, snoc_app] at h
    have hl' : (pre.length : Int) < ((pre ++ x :: suf).length : Int) := by simp; omega
    refine ev_step h (fun k => ?_)
    rw [laws_toPartS.l0, if_pos hl', if_pos (by omega), rdLP_mid]
    simp only [laws_toPart.f, Option.bind_some]
    rw [if_pos (by simp; omega), wrapS (by omega) (by simp at hl; omega), List.length_cons, List.replicate_succ, set_mid _ _ _ _ _ (by simp)]
    rfl
theorem toPartS_copy (l : List S62) (h : l.length ≤ 1048576) : Ev (fun k => laws_toPartS.f k l) (l.map toP) := by
  have := toPartS_l0 l [] (by simp; omega)
  refine Ev.congr (fun k => ?_) this
  rw [laws_toPartS.f, if_pos (by omega), if_pos (by omega)]
  simp
theorem eqPartS_l0 (suf : List S59) : ∀ pre : List S59, (pre ++ suf).length ≤ 9223372036854775806 → Ev (fun k => laws_eqPartS.l0 k (pre ++ suf) (pre ++ suf) (pre.length : Int)) true := by
  induction suf with
  | nil =>
    intro pre _
    refine ev_step ev_const (fun k => ?_)
    rw [laws_eqPartS.l0, if_neg (by simp)]
  | cons x suf ih =>
    intro pre hl
    have h := ih (pre ++ [x]) (by simp at hl ⊢; omega)
    rw [snoc_app, snoc_leni] at h
    have hl' : (pre.length : Int) < ((pre ++ x :: suf).length : Int) := by simp; omega
    refine ev_step h (fun k => ?_)
    rw [laws_eqPartS.l0, if_pos hl', if_pos (by omega), if_pos hl']
    simp only [laws_eqPart.f, if_true, Option.bind_some]
    rw [wrapS (by omega) (by simp at hl; omega)]
theorem eqPartS_same (l : List S59) (h : l.length ≤ 9223372036854775806) : Ev (fun k => laws_eqPartS.f k l l) true := by
  have := eqPartS_l0 l [] (by simpa using h)
  refine Ev.congr (fun k => ?_) this
  simp [laws_eqPartS.f]
def partOk (x : S59) : Bool := decide (0 ≤ x.f0 ∧ x.f0 ≤ 3 ∧ 0 ≤ x.f1 ∧ x.f1 < x.f2 ∧ x.f2 ≤ 2000)
def lenOf : List S59 → Int → Int
  | [], m => m
  | x :: l, m => lenOf l (wrap64 (m + wrap64 (x.f2 - x.f1)))
theorem l1In_ok (a b c : Int) : spec_l1In.f a b c = some (decide (b ≤ a ∧ a ≤ c)) := by
  unfold spec_l1In.f
  by_cases h : a ≥ b
  · rw [if_pos h]; congr 1; exact decide_eq_decide.2 ⟨fun q => ⟨h, q⟩, fun q => q.2⟩
  · rw [if_neg h]; congr 1; exact (decide_eq_false (fun q => h q.1)).symm
theorem edPart_ok (a b c : Int) : spec_edPart.f a b c = some (partOk ⟨a, b, c⟩) := by
  unfold spec_edPart.f spec_shStep.f
  simp only [l1In_ok, Option.bind_some]
  by_cases h1 : 0 ≤ a ∧ a ≤ 3
  · rw [if_pos (decide_eq_true h1)]
    by_cases h2 : 0 ≤ b ∧ b ≤ 1999
    · rw [if_pos (decide_eq_true h2), wrapS (by omega) (by omega)]
      congr 1
      exact decide_eq_decide.2 (by simp only; omega)
    · rw [if_neg (by simpa using h2)]
      congr 1
      exact (decide_eq_false (by simp only; omega)).symm
  · rw [if_neg (by simpa using h1)]
    congr 1
    exact (decide_eq_false (by simp only; omega)).symm
theorem edLength_l0 (suf : List S59) : ∀ (pre : List S59) (m : Int), (pre ++ suf).length ≤ 1048576 →
    Ev (fun k => spec_edLength.l0 k m (pre ++ suf) ((pre ++ suf).length : Int) (pre.length : Int)) (lenOf suf m) := by
  induction suf with
  | nil =>
    intro pre m _
    refine ev_step (f := fun _ => some _) (Ev.now _) (fun k => ?_)
    rw [spec_edLength.l0, if_neg (by simp)]; rfl
  | cons x suf ih =>
    intro pre m hl
    have hlp : pre.length ≤ 1048576 := by simp at hl; omega
    have h := ih (pre ++ [x]) (wrap64 (m + wrap64 (x.f2 - x.f1))) (by simp at hl ⊢; omega)
    rw [snoc_app, snoc_leni] at h
    have hl' : (pre.length : Int) < ((pre ++ x :: suf).length : Int) := by simp; omega
    have hw : wrap64 ((pre.length : Int) + 1) = (pre.length : Int) + 1 := wrapS (by omega) (by omega)
    refine ev_step (ev_eq h rfl) (fun k => ?_)
    rw [spec_edLength.l0, if_pos hl', if_pos (by omega), if_pos hl', rdP_mid, hw]
theorem edLength_ok (l : List S59) (h : l.length ≤ 1048576) : Ev (fun k => spec_edLength.f k l) (lenOf l 0) :=
  Ev.congr (f := fun k => spec_edLength.l0 k 0 l (l.length : Int) 0) (fun _ => rfl) (edLength_l0 l [] 0 (by simpa using h))
theorem editionLength_l0 (suf : List S59) : ∀ (pre : List S59) (m : Int), (pre ++ suf).length ≤ 1048576 →
    Ev (fun k => impl_editionLength.l0 k m (pre ++ suf) ((pre ++ suf).length : Int) (pre.length : Int)) (lenOf suf m) := by
  induction suf with
  | nil =>
    intro pre m _
    refine ev_step (f := fun _ => some _) (Ev.now _) (fun k => ?_)
    rw [impl_editionLength.l0, if_neg (by simp)]; rfl
  | cons x suf ih =>
    intro pre m hl
    have hlp : pre.length ≤ 1048576 := by simp at hl; omega
    have h := ih (pre ++ [x]) (wrap64 (m + wrap64 (x.f2 - x.f1))) (by simp at hl ⊢; omega)
    rw [snoc_app, snoc_leni] at h
    have hl' : (pre.length : Int) < ((pre ++ x :: suf).length : Int) := by simp; omega
    have hw : wrap64 ((pre.length : Int) + 1) = (pre.length : Int) + 1 := wrapS (by omega) (by omega)
    refine ev_step (ev_eq h rfl) (fun k => ?_)
    rw [impl_editionLength.l0, if_pos hl', if_pos (by omega), if_pos hl', rdP_mid, hw]
theorem editionLength_ok (l : List S59) (h : l.length ≤ 1048576) : Ev (fun k => impl_editionLength.f k l) (lenOf l 0) :=
  Ev.congr (f := fun k => impl_editionLength.l0 k 0 l (l.length : Int) 0) (fun _ => rfl) (editionLength_l0 l [] 0 (by simpa using h))
def partsGood (l : List S59) : Bool := l.all partOk && (decide (l.length ≤ 12) && decide (lenOf l 0 ≤ 2000))
theorem edGood_l0 (l : List S59) (hll : l.length ≤ 1048576) (suf : List S59) : ∀ pre : List S59, (pre ++ suf).length ≤ 1048576 →
    Ev (fun k => spec_edGood.l0 k l (pre ++ suf) ((pre ++ suf).length : Int) (pre.length : Int)) (suf.all partOk && (decide (l.length ≤ 12) && decide (lenOf l 0 ≤ 2000))) := by
  induction suf with
  | nil =>
    intro pre _
    obtain ⟨K, e⟩ := edLength_ok l hll
    dsimp only at e
    refine ⟨K + 1, fun k hk => ?_⟩
    obtain ⟨m, rfl⟩ : ∃ m, k = m + 1 := ⟨k - 1, by omega⟩
    dsimp only
    rw [spec_edGood.l0, if_neg (by simp), e m (by omega)]
    by_cases c : l.length ≤ 12
    · rw [if_pos (by omega)]; simp [c]
    · rw [if_neg (by omega)]; simp [c]
  | cons x suf ih =>
    intro pre hl
    have hlp : pre.length ≤ 1048576 := by simp at hl; omega
    have h := ih (pre ++ [x]) (by simp at hl ⊢; omega)
    rw [snoc_app, snoc_leni] at h
    have hl' : (pre.length : Int) < ((pre ++ x :: suf).length : Int) := by simp; omega
    have hw : wrap64 ((pre.length : Int) + 1) = (pre.length : Int) + 1 := wrapS (by omega) (by omega)
    cases c : partOk x with
    | true =>
      refine ev_step (ev_eq h (by simp [c])) (fun k => ?_)
      rw [spec_edGood.l0, if_pos hl', if_pos (by omega), if_pos hl', rdP_mid, edPart_ok]
      simp only [Option.bind_some]
      rw [if_pos c, hw]
    | false =>
      refine ev_step (f := fun _ => some _) (Ev.now _) (fun k => ?_)
      rw [spec_edGood.l0, if_pos hl', if_pos (by omega), if_pos hl', rdP_mid, edPart_ok]
      simp only [Option.bind_some]
      rw [if_neg (by rw [show partOk ⟨x.f0, x.f1, x.f2⟩ = partOk x from rfl, c]; decide)]
      simp [c]
theorem edGood_ok (l : List S59) (h : l.length ≤ 1048576) : Ev (fun k => spec_edGood.f k l) (partsGood l) :=
  Ev.congr (f := fun k => spec_edGood.l0 k l l (l.length : Int) 0) (fun _ => rfl) (edGood_l0 l h l [] (by simpa using h))
def under (n : Int) (x : S59) : Bool := decide (x.f0 < n)
def areParts (l : List S59) (n : Int) : Bool := partsGood l && (decide (1 ≤ n ∧ n ≤ 4) && l.all (under n))
theorem implAreParts_l0 (l : List S59) (hll : l.length ≤ 1048576) (n : Int) (hn : n ≤ 4) (suf : List S59) : ∀ pre : List S59, (pre ++ suf).length ≤ 1048576 →
    Ev (fun k => impl_AreParts.l0 k l n (pre ++ suf) ((pre ++ suf).length : Int) (pre.length : Int)) (suf.all (fun x => partOk x && under n x) && decide (lenOf l 0 ≤ 2000)) := by
  induction suf with
  | nil =>
    intro pre _
    obtain ⟨K, e⟩ := editionLength_ok l hll
    dsimp only at e
    refine ⟨K + 1, fun k hk => ?_⟩
    obtain ⟨m, rfl⟩ : ∃ m, k = m + 1 := ⟨k - 1, by omega⟩
    dsimp only
    rw [impl_AreParts.l0, if_neg (by simp), e m (by omega)]
    simp
  | cons x suf ih =>
    intro pre hl
    have hlp : pre.length ≤ 1048576 := by simp at hl; omega
    have h := ih (pre ++ [x]) (by simp at hl ⊢; omega)
    rw [snoc_app, snoc_leni] at h
    have hl' : (pre.length : Int) < ((pre ++ x :: suf).length : Int) := by simp; omega
    have hw : wrap64 ((pre.length : Int) + 1) = (pre.length : Int) + 1 := wrapS (by omega) (by omega)
    by_cases c : 0 ≤ x.f0 ∧ x.f0 < n ∧ 0 ≤ x.f1 ∧ x.f1 < x.f2 ∧ x.f2 ≤ 2000
    · have c1 : partOk x = true := decide_eq_true (by omega)
      have c2 : under n x = true := decide_eq_true (by omega)
      refine ev_step (ev_eq h (by simp [c1, c2])) (fun k => ?_)
      rw [impl_AreParts.l0, if_pos hl', if_pos (by omega), if_pos hl', rdP_mid, if_neg (by omega), if_neg (by omega), if_neg (by omega), if_neg (by omega), if_neg (by omega), hw]
    · have c1 : (partOk x && under n x) = false := by
        simp only [partOk, under, Bool.and_eq_false_iff, decide_eq_false_iff_not]
        omega
      refine ev_step (f := fun _ => some _) (Ev.now _) (fun k => ?_)
      rw [impl_AreParts.l0, if_pos hl', if_pos (by omega), if_pos hl', rdP_mid]
      rw [List.all_cons, c1, Bool.false_and, Bool.false_and]
      repeat (first | rfl | (split; rfl))
      omega
theorem implAreParts_ok (l : List S59) (n : Int) (h : l.length ≤ 1048576) : Ev (fun k => impl_AreParts.f k l n) (areParts l n) := by
  have stop : ∀ b : Bool, b = true → areParts l n = false → Ev (fun k => impl_AreParts.j0 k l n b) (areParts l n) := fun b hb ha => by
    rw [ha, hb]
    refine ev_step (f := fun _ => some _) (Ev.now _) (fun k => ?_)
    rw [impl_AreParts.j0, if_pos rfl]
  by_cases c1 : n < 1
  · refine Ev.congr (fun k => by rw [impl_AreParts.f, if_pos c1]) (stop true rfl ?_)
    simp [areParts, show ¬ (1 ≤ n ∧ n ≤ 4) by omega]
  · by_cases c2 : n > 4
    · refine Ev.congr (fun k => by rw [impl_AreParts.f, if_neg c1, if_pos c2]) (stop true rfl ?_)
      simp [areParts, show ¬ (1 ≤ n ∧ n ≤ 4) by omega]
    · by_cases c3 : (l.length : Int) > 12
      · refine Ev.congr (fun k => by rw [impl_AreParts.f, if_neg c1, if_neg c2]) (stop _ (decide_eq_true c3) ?_)
        simp [areParts, partsGood, show ¬ l.length ≤ 12 by omega]
      · have h0 := implAreParts_l0 l h n (by omega) l [] (by simpa using h)
        refine Ev.congr (f := fun k => impl_AreParts.j0 k l n (decide ((l.length : Int) > 12))) (fun k => by rw [impl_AreParts.f, if_neg c1, if_neg c2]) ?_
        refine ev_step (ev_eq h0 ?_) (fun k => ?_)
        · simp only [areParts, partsGood, show l.length ≤ 12 by omega, show 1 ≤ n ∧ n ≤ 4 by omega, decide_true, Bool.true_and, and_self]
          rw [Bool.eq_iff_iff]
          simp only [Bool.and_eq_true, List.all_eq_true]
          constructor
          · rintro ⟨h1, h2⟩
            exact ⟨⟨fun x hx => (h1 x hx).1, h2⟩, fun x hx => (h1 x hx).2⟩
          · rintro ⟨⟨h1, h2⟩, h3⟩
            exact ⟨fun x hx => ⟨h1 x hx, h3 x hx⟩, h2⟩
        · rw [impl_AreParts.j0, if_neg (by simpa using c3)]; rfl

/-! sets of numbers: in order, each once -/
def putS : List Int → Int → List Int
  | [], n => [n]
  | x :: l, n => if x < n then x :: putS l n else if x = n then x :: l else n :: x :: l
theorem mem_putS (n y : Int) (l : List Int) : y ∈ putS l n ↔ y = n ∨ y ∈ l := by
  induction l with
  | nil => simp [putS]
  | cons x l ih =>
    rw [putS]
    by_cases c : x < n
    · rw [if_pos c, List.mem_cons, ih, List.mem_cons]; constructor
      · rintro (h | h | h) <;> simp [h]
      · rintro (h | h | h) <;> simp [h]
    · rw [if_neg c]
      by_cases e : x = n
      · rw [if_pos e, List.mem_cons]; subst e; simp
      · rw [if_neg e, List.mem_cons]
theorem putS_len (n : Int) (l : List Int) : (putS l n).length ≤ l.length + 1 := by
  induction l with
  | nil => simp [putS]
  | cons x l ih =>
    rw [putS]
    by_cases c : x < n
    · rw [if_pos c, List.length_cons, List.length_cons]; omega
    · rw [if_neg c]
      by_cases e : x = n
      · rw [if_pos e]; omega
      · rw [if_neg e]; simp
theorem sorted_putS (n : Int) (l : List Int) (h : l.Pairwise (· < ·)) : (putS l n).Pairwise (· < ·) := by
  induction l with
  | nil => simp [putS]
  | cons x l ih =>
    obtain ⟨hx, hl⟩ := List.pairwise_cons.1 h
    rw [putS]
    by_cases c : x < n
    · rw [if_pos c]
      refine List.pairwise_cons.2 ⟨fun y hy => ?_, ih hl⟩
      rcases (mem_putS n y l).1 hy with rfl | hy
      · exact c
      · exact hx y hy
    · rw [if_neg c]
      by_cases e : x = n
      · rw [if_pos e]; exact h
      · rw [if_neg e]
        refine List.pairwise_cons.2 ⟨fun y hy => ?_, h⟩
        rcases List.mem_cons.1 hy with rfl | hy
        · omega
        · have := hx y hy; omega
theorem sorted_ext : ∀ (l m : List Int), l.Pairwise (· < ·) → m.Pairwise (· < ·) → (∀ x, x ∈ l ↔ x ∈ m) → l = m
  | [], [], _, _, _ => rfl
  | [], y :: m, _, _, h => absurd ((h y).2 List.mem_cons_self) (by simp)
  | x :: l, [], _, _, h => absurd ((h x).1 List.mem_cons_self) (by simp)
  | x :: l, y :: m, hl, hm, h => by
    obtain ⟨hx, hl1⟩ := List.pairwise_cons.1 hl
    obtain ⟨hy, hm1⟩ := List.pairwise_cons.1 hm
    have e : x = y := by
      rcases List.mem_cons.1 ((h x).1 List.mem_cons_self) with e | h1
      · exact e
      · rcases List.mem_cons.1 ((h y).2 List.mem_cons_self) with e | h2
        · exact e.symm
        · have := hy x h1; have := hx y h2; omega
    subst e
    rw [sorted_ext l m hl1 hm1 (fun z => ?_)]
    constructor
    · intro hz
      rcases List.mem_cons.1 ((h z).1 (List.mem_cons_of_mem _ hz)) with e | h1
      · have := hx z hz; omega
      · exact h1
    · intro hz
      rcases List.mem_cons.1 ((h z).2 (List.mem_cons_of_mem _ hz)) with e | h1
      · have := hy z hz; omega
      · exact h1
theorem comp_inv (d : Array Int) (hs : ∀ i j, i < j → j < d.size → d[i]! ≤ d[j]!) (m : Nat) : m ≤ d.size → (Go.Lib.compactUpTo d m).Pairwise (· < ·) ∧ ∀ x, x ∈ Go.Lib.compactUpTo d m ↔ ∃ j, j < m ∧ d[j]! = x := by
  induction m with
  | zero => intro _; exact ⟨by simp [Go.Lib.compactUpTo], fun x => by simp [Go.Lib.compactUpTo]⟩
  | succ m ih =>
    intro hm
    obtain ⟨h1, h2⟩ := ih (by omega)
    rw [Go.Lib.compactUpTo_succ]
    by_cases c : m = 0 ∨ d[m]! ≠ d[m - 1]!
    · have hk : Go.Lib.keeps d m = true := by
        rcases c with c | c
        · exact Go.Lib.keeps_lt_one d m (by omega)
        · exact Go.Lib.keeps_pos c
      rw [hk, if_pos rfl]
      constructor
      · refine List.pairwise_append.2 ⟨h1, List.pairwise_singleton _ _, fun a ha b hb => ?_⟩
        rw [List.mem_singleton.1 hb]
        obtain ⟨j, hj, rfl⟩ := (h2 a).1 ha
        have h3 := hs (m - 1) m (by omega) (by omega)
        have h4 : d[j]! ≤ d[m - 1]! := by
          rcases Nat.lt_or_ge j (m - 1) with g | g
          · exact hs j (m - 1) g (by omega)
          · rw [show j = m - 1 by omega]; exact Int.le_refl _
        rcases c with c | c
        · omega
        · omega
      · intro x
        rw [List.mem_append, h2, List.mem_singleton]
        constructor
        · rintro (⟨j, hj, e⟩ | e)
          · exact ⟨j, by omega, e⟩
          · exact ⟨m, by omega, e.symm⟩
        · rintro ⟨j, hj, e⟩
          rcases Nat.lt_or_ge j m with g | g
          · exact .inl ⟨j, g, e⟩
          · rw [show j = m by omega] at e; exact .inr e.symm
    · have hm0 : 0 < m := by omega
      have he : d[m]! = d[m - 1]! := by
        rcases Classical.em (d[m]! = d[m - 1]!) with e | e
        · exact e
        · exact absurd (.inr e) c
      rw [Go.Lib.keeps_neg hm0 he, if_neg (by decide), List.append_nil]
      refine ⟨h1, fun x => ?_⟩
      rw [h2]
      constructor
      · rintro ⟨j, hj, e⟩; exact ⟨j, by omega, e⟩
      · rintro ⟨j, hj, e⟩
        rcases Nat.lt_or_ge j m with g | g
        · exact ⟨j, g, e⟩
        · rw [show j = m by omega, he] at e; exact ⟨m - 1, by omega, e⟩
def setOf (l : List Int) : List Int := Go.Lib.compact (l.mergeSort fun x y => decide (x ≤ y))
theorem setOf_sorted (l : List Int) : (setOf l).Pairwise (· < ·) ∧ ∀ x, x ∈ setOf l ↔ x ∈ l := by
  have hp : (l.mergeSort fun x y => decide (x ≤ y)).Pairwise (fun x y => decide (x ≤ y) = true) := List.pairwise_mergeSort (fun a b c h1 h2 => by simp at *; omega) (fun a b => by simp; omega) l
  have hmem : ∀ x, x ∈ (l.mergeSort fun x y => decide (x ≤ y)) ↔ x ∈ l := fun x => List.mem_mergeSort
  unfold setOf Go.Lib.compact
  generalize (l.mergeSort fun x y => decide (x ≤ y)) = s at hp hmem
  have hs : ∀ i j, i < j → j < s.toArray.size → s.toArray[i]! ≤ s.toArray[j]! := fun i j hij hj => by
    have h := List.pairwise_iff_getElem.1 hp i j (by simp at hj; omega) (by simpa using hj) hij
    simp only [decide_eq_true_eq] at h
    rw [getElem!_pos _ i (by omega), getElem!_pos _ j hj]
    simpa using h
  obtain ⟨h1, h2⟩ := comp_inv s.toArray hs s.length (by simp)
  refine ⟨h1, fun x => (h2 x).trans ((Iff.intro ?_ ?_).trans (hmem x))⟩
  · rintro ⟨j, hj, e⟩
    rw [getElem!_pos _ j (by simpa using hj)] at e
    rw [← e]; simp
  · intro hx
    obtain ⟨j, hj, e⟩ := List.getElem_of_mem hx
    exact ⟨j, hj, by rw [getElem!_pos _ j (by simpa using hj)]; simpa using e⟩
theorem setOf_len (l : List Int) : (setOf l).length ≤ l.length := by
  unfold setOf Go.Lib.compact Go.Lib.compactUpTo
  rw [List.length_map]
  refine Nat.le_trans (List.length_filter_le _ _) ?_
  simp
def putsS : List Int → List Int → List Int
  | o, [] => o
  | o, x :: l => putsS (putS o x) l
theorem putsS_sorted (l : List Int) : ∀ o : List Int, o.Pairwise (· < ·) → (putsS o l).Pairwise (· < ·) ∧ ∀ x, x ∈ putsS o l ↔ x ∈ o ∨ x ∈ l := by
  induction l with
  | nil => intro o h; exact ⟨h, fun x => by simp [putsS]⟩
  | cons y l ih =>
    intro o h
    obtain ⟨h1, h2⟩ := ih (putS o y) (sorted_putS y o h)
    refine ⟨h1, fun x => ?_⟩
    rw [putsS, h2, mem_putS, List.mem_cons]
    constructor
    · rintro ((h | h) | h) <;> simp [h]
    · rintro (h | h | h) <;> simp [h]
theorem putsS_eq (l : List Int) : putsS [] l = setOf l := by
  obtain ⟨h1, h2⟩ := putsS_sorted l [] List.Pairwise.nil
  obtain ⟨h3, h4⟩ := setOf_sorted l
  exact sorted_ext _ _ h1 h3 (fun x => by rw [h2, h4]; simp)
theorem l1Put_l0 (n : Int) (suf : List Int) : ∀ pre : List Int, (pre ++ suf).length ≤ 1000000000 →
    Ev (fun k => spec_l1Put.l0 k (pre ++ suf) n (pre.length : Int)) (pre ++ putS suf n) := by
  induction suf with
  | nil =>
    intro pre hl
    simp only [List.append_nil] at hl ⊢
    refine ev_step (f := fun _ => some _) (Ev.now _) (fun k => ?_)
    rw [spec_l1Put.l0, if_neg (by omega)]
    simp only [Option.bind_some]
    rw [if_pos (by omega), if_pos (by omega)]
    simp only [Int.toNat_natCast, List.take_length, List.drop_length, List.nil_append, List.length_nil, List.append_nil, putS]
    rw [if_pos (by omega), if_pos (by omega), if_pos (by simp; omega)]
  | cons x suf ih =>
    intro pre hl
    have hlp : pre.length + 1 ≤ 1000000000 := by simp at hl; omega
    have hl' : (pre.length : Int) < ((pre ++ x :: suf).length : Int) := by simp; omega
    have hw : wrap64 ((pre.length : Int) + 1) = (pre.length : Int) + 1 := wrapS (by omega) (by omega)
    by_cases c : x < n
    · have h := ih (pre ++ [x]) (by simp at hl ⊢; omega)
      rw [snoc_app, snoc_app, snoc_leni] at h
      refine ev_step (ev_eq h (by rw [putS, if_pos c])) (fun k => ?_)
      rw [spec_l1Put.l0, if_pos hl', if_pos (by omega), rd_mid, if_pos c, hw]
    · refine ev_step (f := fun _ => some _) (Ev.now _) (fun k => ?_)
      rw [spec_l1Put.l0, if_pos hl', if_pos (by omega), rd_mid, if_neg c, putS, if_neg c]
      by_cases e : x = n
      · rw [if_pos e, if_pos e]
      · rw [if_neg e, if_neg e]
        have ht : (pre ++ x :: suf).take pre.length = pre := List.take_left
        have hd : (pre ++ x :: suf).drop pre.length = x :: suf := List.drop_left
        simp only [Option.bind_some, Int.toNat_natCast, ht, hd, List.nil_append, List.length_nil]
        rw [if_pos (by omega), if_pos (by omega), if_pos (by omega), if_pos (by simp at hl ⊢; omega)]
        simp
theorem l1Put_ok (l : List Int) (n : Int) (h : l.length ≤ 1000000000) : Ev (fun k => spec_l1Put.f k l n) (putS l n) :=
  Ev.congr (f := fun k => spec_l1Put.l0 k l n 0) (fun _ => rfl) (by simpa using l1Put_l0 n l [] (by simpa using h))

/-! marks of parts -/
def mparts : Nat → Int → List S59
  | 0, _ => []
  | d + 1, a => (⟨a, a + 1, a + 1 + 1⟩ : S59) :: mparts d (a + 1 + 1 + 1)
theorem mparts_len (d : Nat) : ∀ a, (mparts d a).length = d := by
  induction d with
  | zero => intro a; rfl
  | succ d ih => intro a; simp [mparts, ih]
theorem markPartS_l0 (suf : List S59) : ∀ (pre : List S59) (a : Int), (pre ++ suf).length ≤ 9000000 → 0 ≤ a → a ≤ 1000000000 + 3 * pre.length →
    Ev (fun k => laws_markPartS.l0 k (pre ++ suf) a (pre.length : Int)) (a + 3 * suf.length, pre ++ mparts suf.length a) := by
  induction suf with
  | nil =>
    intro pre a _ _ _
    refine ev_step (f := fun _ => some _) (Ev.now _) (fun k => ?_)
    rw [laws_markPartS.l0, if_neg (by simp)]; simp [mparts]
  | cons x suf ih =>
    intro pre a hl h0 h1
    have hlp : pre.length ≤ 9000000 := by simp at hl; omega
    have w1 : wrap64 (a + 1) = a + 1 := wrapS (by omega) (by omega)
    have w2 : wrap64 (a + 1 + 1) = a + 1 + 1 := wrapS (by omega) (by omega)
    have w3 : wrap64 (a + 1 + 1 + 1) = a + 1 + 1 + 1 := wrapS (by omega) (by omega)
    have w5 : wrap64 ((pre.length : Int) + 1) = (pre.length : Int) + 1 := wrapS (by omega) (by omega)
    have sR : ∀ y z : S59, (pre ++ y :: suf).set ((pre.length : Int)).toNat z = pre ++ z :: suf := fun y z => set_mid _ _ _ _ _ (by simp)
    have hl' : (pre.length : Int) < ((pre ++ x :: suf).length : Int) := by simp; omega
    have h := ih (pre ++ [(⟨a, a + 1, a + 1 + 1⟩ : S59)]) (a + 1 + 1 + 1) (by simp at hl ⊢; omega) (by omega) (by simp; omega)
    rw [snoc_app, snoc_app, snoc_leni] at h
    refine ev_step (ev_eq h ?_) (fun k => ?_)
    · simp only [mparts, List.length_cons]
      congr 1
      omega
    · rw [laws_markPartS.l0, if_pos hl', if_pos (by omega)]
      simp only [rdP_mid, sR, w1, w2, w3, w5, Option.bind_some]
theorem markPartS_all (l : List S59) (a : Int) (hl : l.length ≤ 9000000) (h0 : 0 ≤ a) (h1 : a ≤ 1000000000) : Ev (fun k => laws_markPartS.f k l a) (a + 3 * l.length, mparts l.length a) :=
  Ev.congr (f := fun k => laws_markPartS.l0 k l a 0) (fun _ => rfl) (by simpa using markPartS_l0 l [] a (by simpa using hl) h0 (by simpa using h1))

/-! the sources of an edition's parts -/
theorem sortedSet_ok (l : List Int) (h : l.length < 1000000000) : impl_sortedSet.f l = some (setOf l) := by
  rw [impl_sortedSet.f, if_pos h]; rfl
theorem areParts4 (l : List S59) : areParts l 4 = partsGood l := by
  unfold areParts
  cases g : partsGood l with
  | false => rfl
  | true =>
    have h : l.all (under 4) = true := by
      rw [List.all_eq_true]
      intro x hx
      have h1 : l.all partOk = true := by
        unfold partsGood at g
        exact (Bool.and_eq_true_iff.1 g).1
      have h2 := List.all_eq_true.1 h1 x hx
      unfold partOk at h2
      have h3 := of_decide_eq_true h2
      exact decide_eq_true (by omega)
    rw [h]; rfl
theorem specSrc_l0 (suf : List S59) : ∀ (pre : List S59) (out : List Int), (pre ++ suf).length ≤ 4000000 → out.length ≤ pre.length →
    Ev (fun k => spec_UsedSources.l0 k out (pre ++ suf) ((pre ++ suf).length : Int) (pre.length : Int)) (putsS out (suf.map (fun x => x.f0)), true) := by
  induction suf with
  | nil =>
    intro pre out hl ho
    refine ev_step (f := fun _ => some _) (Ev.now _) (fun k => ?_)
    rw [spec_UsedSources.l0, if_neg (by simp)]; rfl
  | cons x suf ih =>
    intro pre out hl ho
    have hlp : pre.length + 1 ≤ 4000000 := by simp at hl; omega
    have hl' : (pre.length : Int) < ((pre ++ x :: suf).length : Int) := by simp; omega
    have hw : wrap64 ((pre.length : Int) + 1) = (pre.length : Int) + 1 := wrapS (by omega) (by omega)
    obtain ⟨K1, e1⟩ := l1Put_ok out x.f0 (by omega)
    have h := ih (pre ++ [x]) (putS out x.f0) (by simp at hl ⊢; omega) (by have := putS_len x.f0 out; simp; omega)
    rw [snoc_app, snoc_leni] at h
    obtain ⟨K2, e2⟩ := h
    dsimp only at e1 e2
    refine ⟨K1 + K2 + 1, fun k hk => ?_⟩
    obtain ⟨m, rfl⟩ : ∃ m, k = m + 1 := ⟨k - 1, by omega⟩
    dsimp only
    rw [spec_UsedSources.l0, if_pos hl', if_pos (by omega), if_pos hl', rdP_mid, e1 m (by omega)]
    simp only [Option.bind_some]
    rw [hw, e2 m (by omega)]; rfl
theorem implSrc_l0 (suf : List S59) : ∀ (pre : List S59) (out : List Int), (pre ++ suf).length ≤ 4000000 → out.length ≤ pre.length →
    Ev (fun k => impl_UsedSources.l0 k out (pre ++ suf) ((pre ++ suf).length : Int) (pre.length : Int)) (setOf (out ++ suf.map (fun x => x.f0)), true) := by
  induction suf with
  | nil =>
    intro pre out hl ho
    simp only [List.append_nil] at hl
    refine ev_step (f := fun _ => some _) (Ev.now _) (fun k => ?_)
    rw [impl_UsedSources.l0, if_neg (by simp), sortedSet_ok out (by omega)]
    simp
  | cons x suf ih =>
    intro pre out hl ho
    have hlp : pre.length + 1 ≤ 4000000 := by simp at hl; omega
    have hl' : (pre.length : Int) < ((pre ++ x :: suf).length : Int) := by simp; omega
    have hw : wrap64 ((pre.length : Int) + 1) = (pre.length : Int) + 1 := wrapS (by omega) (by omega)
    have h := ih (pre ++ [x]) (out ++ [x.f0]) (by simp at hl ⊢; omega) (by simp; omega)
    rw [snoc_app, snoc_leni] at h
    refine ev_step (ev_eq h (by simp)) (fun k => ?_)
    rw [impl_UsedSources.l0, if_pos hl', if_pos (by omega), if_pos hl', if_pos (by omega), rdP_mid, hw]
def srcR (l : List S59) : List Int × Bool := if partsGood l = true then (setOf (l.map (fun x => x.f0)), true) else ([], false)
theorem srcR_len (l : List S59) (h : l.length ≤ 1048576) : (srcR l).1.length ≤ 4000000 := by
  have h3 := setOf_len (l.map (fun x => x.f0))
  simp only [List.length_map] at h3
  unfold srcR
  by_cases c : partsGood l = true
  · rw [if_pos c]; simp only; omega
  · rw [if_neg c]; simp
theorem specSrc_ok (l : List S59) (h : l.length ≤ 1048576) : Ev (fun k => spec_UsedSources.f k l) (srcR l) := by
  refine Ev.bind (edGood_ok l h) ?_
  cases g : partsGood l with
  | false => exact ev_of_eq (fun _ => by simp only [srcR, g, Bool.false_eq_true, if_false])
  | true =>
    simp only [if_true]
    have h2 := specSrc_l0 l [] [] (by simp; omega) (by simp)
    simp only [List.nil_append, List.length_nil, Int.natCast_zero] at h2
    exact ev_eq h2 (by simp only [srcR, g, if_true, putsS_eq])
theorem implSrc_ok (l : List S59) (h : l.length ≤ 1048576) : Ev (fun k => impl_UsedSources.f k l) (srcR l) := by
  have he : Ev (fun k => impl_isEdition.f k l) (partsGood l) := by
    refine Ev.congr (fun k => ?_) (ev_eq (implAreParts_ok l 4 h) (areParts4 l))
    simp only [impl_isEdition.f]
    cases impl_AreParts.f k l 4 <;> rfl
  refine Ev.bind he ?_
  cases g : partsGood l with
  | false => exact ev_of_eq (fun _ => by simp only [srcR, g, Bool.false_eq_true, if_false])
  | true =>
    simp only [if_true]
    have h2 := implSrc_l0 l [] [] (by simp; omega) (by simp)
    simp only [List.nil_append, List.length_nil, Int.natCast_zero] at h2
    exact ev_eq h2 (by simp only [srcR, g, if_true])
theorem FnExactUsedSources (l : List S62) (hb : l.length * 24 ≤ 140737488351232) (hw : ∀ y ∈ l, ((Lit.int .i64 y.f0).wf = true) ∧ ((Lit.int .i64 y.f1).wf = true) ∧ ((Lit.int .i64 y.f2).wf = true)) : ∃ k, laws_FnExactUsedSources.f k l = some true := by
  have m1 : (-1 : Int) < 0 := by omega
  by_cases c : 1048576 < (l.length : Int)
  · have z0 := szPartS_ok l 1048576 (by omega) (by omega) (by omega)
    rw [if_pos (by omega)] at z0
    exact ⟨0, by simp only [laws_FnExactUsedSources.f, z0, Option.bind_some, m1, if_true]⟩
  have z0 := szPartS_ok l 1048576 (by omega) (by omega) (by omega)
  rw [if_neg (by omega)] at z0
  have n0 : ¬ (1048576 - (l.length : Int)) < 0 := by omega
  have hl : l.length ≤ 1048576 := by omega
  have hl2 : (l.map toP).length ≤ 1048576 := by simpa using hl
  have hr := srcR_len (l.map toP) hl2
  obtain ⟨K1, e1⟩ := toPartS_copy l hl
  obtain ⟨K3, e3⟩ := specSrc_ok (l.map toP) hl2
  obtain ⟨K4, e4⟩ := implSrc_ok (l.map toP) hl2
  obtain ⟨K5, e5⟩ := eqPartS_same (l.map toP) (by omega)
  obtain ⟨K7, e7⟩ := eqIntS_same (srcR (l.map toP)).1 (by omega)
  obtain ⟨K8, e8⟩ := markPartS_all (l.map toP) 1 (by omega) (by omega) (by omega)
  obtain ⟨K10, e10⟩ := markIntS_marks (srcR (l.map toP)).1 1 (by omega) (by omega) (by omega)
  obtain ⟨K11, e11⟩ := heldIntS_marked (srcR (l.map toP)).1.length 1 (by omega) (by omega) (by omega)
  have n2 : ¬ (1 + 3 * ((l.map toP).length : Int)) < 0 := by omega
  have n3 : ¬ (1 + ((srcR (l.map toP)).1.length : Int)) < 0 := by omega
  dsimp only at e1 e3 e4 e5 e7 e8 e10 e11
  refine ⟨K1 + K3 + K4 + K5 + K7 + K8 + K10 + K11 + 6, ?_⟩
  simp (disch := omega) only [laws_FnExactUsedSources.f, z0, n0, n2, n3, e1, e3, e4, e5, e7, e8, e10, e11, if_false, if_true, Option.bind_some, bnot_ne, Bool.false_eq_true]
  simp (disch := omega) only [laws_FnExactUsedSources.j0, z0, n0, n2, n3, e1, e3, e4, e5, e7, e8, e10, e11, if_false, if_true, Option.bind_some, bnot_ne, Bool.false_eq_true]
  simp (disch := omega) only [laws_FnExactUsedSources.j1, z0, n0, n2, n3, e1, e3, e4, e5, e7, e8, e10, e11, if_false, if_true, Option.bind_some, bnot_ne, Bool.false_eq_true]
  simp (disch := omega) only [laws_FnExactUsedSources.j2, z0, n0, n2, n3, e1, e3, e4, e5, e7, e8, e10, e11, if_false, if_true, Option.bind_some, bnot_ne, Bool.false_eq_true]

end Go.Proofs.Ytockbgeloiekdaa.LUsedSources
