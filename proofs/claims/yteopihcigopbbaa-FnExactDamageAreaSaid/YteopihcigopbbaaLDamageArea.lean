/- For every list of ints, index and value the law FnExactDamageArea answers true, after some number of rounds; the condition is the list's own bound. -/
import Derived.Test.YteopihcigopbbaaQFnExactDamageAreax3
import Derived.Test.YteopihcigopbbaaBase
namespace Go.Proofs.Yteopihcigopbbaa.LDamageArea
open Go Go.RowKit Go.Proofs.Yteopihcigopbbaa.QFnExactDamageArea Go.Proofs.YteopihcigopbbaaW.PrintWords Go.Proofs.YteopihcigopbbaaW.PrintLast Go.Proofs.YteopihcigopbbaaW.PrintMore Go.Proofs.Yteopihcigopbbaa.Base
set_option linter.unusedVariables false
set_option linter.unusedSimpArgs false

/-! slices of ints: copied, held against each other, marked -/
theorem eqIntS_l0 (suf : List Int) : ∀ pre : List Int, (pre ++ suf).length ≤ 9223372036854775806 → Ev (fun k => laws_eqIntS.l0 k (pre ++ suf) (pre ++ suf) (pre.length : Int)) true := by
  induction suf with
  | nil =>
    intro pre _
    refine ev_step ev_const (fun k => ?_)
    rw [laws_eqIntS.l0, if_neg (by simp)]
  | cons x suf ih =>
    intro pre hl
    have h := ih (pre ++ [x]) (by simp at hl ⊢; omega)
    rw [snoc_app, snoc_leni] at h
    have hl' : (pre.length : Int) < ((pre ++ x :: suf).length : Int) := by simp; omega
    refine ev_step h (fun k => ?_)
    rw [laws_eqIntS.l0, if_pos hl', if_pos (by omega), if_pos hl', if_pos rfl, wrapS (by omega) (by simp at hl; omega)]

theorem eqIntS_same (l : List Int) (h : l.length ≤ 9223372036854775806) : Ev (fun k => laws_eqIntS.f k l l) true := by
  have := eqIntS_l0 l [] (by simpa using h)
  refine Ev.congr (fun k => ?_) this
  simp [laws_eqIntS.f]

theorem toIntS_l0 (suf : List Int) : ∀ pre : List Int, (pre ++ suf).length ≤ 9223372036854775806 → Ev (fun k => laws_toIntS.l0 k (pre ++ suf) (pre ++ List.replicate suf.length 0) (pre.length : Int)) (pre ++ suf) := by
  induction suf with
  | nil =>
    intro pre _
    refine ev_step ev_const (fun k => ?_)
    rw [laws_toIntS.l0, if_neg (by simp)]
    simp
  | cons x suf ih =>
    intro pre hl
    have h := ih (pre ++ [x]) (by simp at hl ⊢; omega)
    rw [snoc_app, snoc_app, snoc_leni] at h
    have hl' : (pre.length : Int) < ((pre ++ x :: suf).length : Int) := by simp; omega
    refine ev_step h (fun k => ?_)
    rw [laws_toIntS.l0, if_pos hl', if_pos (by omega), if_pos (by simp; omega), rd_mid, wrapS (by omega) (by simp at hl; omega), List.length_cons, List.replicate_succ, set_mid _ _ _ _ _ (by simp)]

theorem toIntS_copy (l : List Int) (h : l.length ≤ 1048576) : Ev (fun k => laws_toIntS.f k l) l := by
  have := toIntS_l0 l [] (by simp; omega)
  refine Ev.congr (fun k => ?_) this
  rw [laws_toIntS.f, if_pos (by omega), if_pos (by omega)]
  simp

/-- a, a + 1, .. -/
def countUp : Int → Nat → List Int
  | _, 0 => []
  | a, n + 1 => a :: countUp (a + 1) n
theorem countUp_length (n : Nat) : ∀ a, (countUp a n).length = n := by
  induction n with
  | zero => intro a; rfl
  | succ n ih => intro a; simp [countUp, ih]

theorem markIntS_l0 (suf : List Int) : ∀ (pre : List Int) (a : Int), (pre ++ suf).length ≤ 1048576000 → 0 ≤ a → a + suf.length ≤ 4000000000000 → Ev (fun k => laws_markIntS.l0 k (pre ++ suf) a (pre.length : Int)) (a + suf.length, pre ++ countUp a suf.length) := by
  induction suf with
  | nil =>
    intro pre a _ _ _
    refine ev_step ev_const (fun k => ?_)
    rw [laws_markIntS.l0, if_neg (by simp)]
    simp [countUp]
  | cons x suf ih =>
    intro pre a hl h0 h1
    simp only [List.length_cons] at h1
    have h := ih (pre ++ [a]) (a + 1) (by simp at hl ⊢; omega) (by omega) (by omega)
    rw [snoc_app, snoc_app, snoc_leni] at h
    have hl' : (pre.length : Int) < ((pre ++ x :: suf).length : Int) := by simp; omega
    refine ev_step (ev_eq h ?_) (fun k => ?_)
    · simp only [List.length_cons, countUp, Prod.mk.injEq, and_true]; omega
    · rw [laws_markIntS.l0, if_pos hl', if_pos (by omega), wrapS (x := (pre.length : Int) + 1) (by omega) (by simp at hl; omega), wrapS (x := a + 1) (by omega) (by omega), set_mid _ _ _ _ _ (by simp)]

theorem markIntS_marks (l : List Int) (a : Int) (hl : l.length ≤ 1048576000) (h0 : 0 ≤ a) (h1 : a ≤ 1000000000000) : Ev (fun k => laws_markIntS.f k l a) (a + l.length, countUp a l.length) := by
  have := markIntS_l0 l [] a (by simpa using hl) h0 (by omega)
  refine Ev.congr (f := fun k => laws_markIntS.l0 k l a 0) (fun k => rfl) (by simpa using this)

theorem heldIntS_l0 (n : Nat) : ∀ (pre : List Int) (a : Int), pre.length + n ≤ 1048576000 → 0 ≤ a → a + n ≤ 4000000000000 → Ev (fun k => laws_heldIntS.l0 k (pre ++ countUp a n) a (pre.length : Int)) (a + n) := by
  induction n with
  | zero =>
    intro pre a _ _ _
    refine ev_step ev_const (fun k => ?_)
    rw [laws_heldIntS.l0, if_neg (by simp [countUp])]
    simp
  | succ n ih =>
    intro pre a hl h0 h1
    have h := ih (pre ++ [a]) (a + 1) (by simp; omega) (by omega) (by omega)
    rw [snoc_app, snoc_leni] at h
    refine ev_step (ev_eq h (by omega)) (fun k => ?_)
    rw [laws_heldIntS.l0, countUp, if_pos (by simp; omega), if_pos (by omega), rd_mid, if_pos rfl, wrapS (x := (pre.length : Int) + 1) (by omega) (by omega), wrapS (x := a + 1) (by omega) (by omega)]

theorem heldIntS_marked (n : Nat) (a : Int) (hl : n ≤ 1048576000) (h0 : 0 ≤ a) (h1 : a ≤ 1000000000000) : Ev (fun k => laws_heldIntS.f k (countUp a n) a) (a + n) := by
  have := heldIntS_l0 n [] a (by simpa using hl) h0 (by omega)
  refine Ev.congr (f := fun k => laws_heldIntS.l0 k (countUp a n) a 0) (fun k => rfl) (by simpa using this)

/-! all numbers of a list lie in a range -/
theorem l1All_l0 (lo hi : Int) (suf : List Int) : ∀ pre : List Int, (pre ++ suf).length ≤ 9223372036854775806 →
    Ev (fun k => spec_l1All.l0 k lo hi (pre ++ suf) ((pre ++ suf).length : Int) (pre.length : Int)) (suf.all fun x => decide (lo ≤ x ∧ x ≤ hi)) := by
  induction suf with
  | nil =>
    intro pre _
    refine ev_step (Ev.now _) (fun k => ?_)
    rw [spec_l1All.l0, if_neg (by simp)]
    rfl
  | cons x suf ih =>
    intro pre hl
    have h := ih (pre ++ [x]) (by simp at hl ⊢; omega)
    rw [snoc_app, snoc_leni] at h
    have hl' : (pre.length : Int) < ((pre ++ x :: suf).length : Int) := by simp; omega
    have hw : wrap64 ((pre.length : Int) + 1) = (pre.length : Int) + 1 := wrapS (by omega) (by simp at hl; omega)
    by_cases h1 : lo ≤ x ∧ x ≤ hi
    · refine ev_step (ev_eq h (by simp [h1])) (fun k => ?_)
      rw [spec_l1All.l0, if_pos hl', if_pos (by omega), if_pos hl', rd_mid, hw]
      simp [spec_l1In.f, h1]
    · refine ev_step (f := fun _ => some _) (Ev.now _) (fun k => ?_)
      rw [spec_l1All.l0, if_pos hl', if_pos (by omega), if_pos hl', rd_mid, hw]
      by_cases h2 : lo ≤ x
      · have h3 : ¬ x ≤ hi := fun h3 => h1 ⟨h2, h3⟩
        simp [spec_l1In.f, h2, h3]
      · simp [spec_l1In.f, h2]
theorem l1All_ok (l : List Int) (lo hi : Int) (h : l.length ≤ 9223372036854775806) : Ev (fun k => spec_l1All.f k l lo hi) (l.all fun x => decide (lo ≤ x ∧ x ≤ hi)) :=
  Ev.congr (fun _ => rfl) (l1All_l0 lo hi l [] (by simpa using h))

/-! an area -/
def areaOk (l : List Int) : Bool := (l.all fun x => decide (0 ≤ x ∧ x ≤ 9999)) && decide (l.length = 15)
theorem jrArea_ok (l : List Int) (h : l.length ≤ 9223372036854775806) : Ev (fun k => spec_jrArea.f k l) (areaOk l) := by
  by_cases h2 : l.length = 15
  · refine Ev.congr (fun k => ?_) (ev_eq (l1All_ok l 0 9999 h) ?_)
    · rw [spec_jrArea.f, if_pos (by omega)]; simp
    · simp [areaOk, h2]
  · refine Ev.congr (f := fun _ => some (areaOk l)) (fun k => ?_) (Ev.now _)
    rw [spec_jrArea.f, if_neg (by omega)]
    simp [areaOk, h2]
theorem isArea_l0 (l : List Int) (suf : List Int) : ∀ pre : List Int, (pre ++ suf).length ≤ 9223372036854775806 →
    Ev (fun k => impl_isArea.l0 k l (pre ++ suf) ((pre ++ suf).length : Int) (pre.length : Int)) ((suf.all fun x => decide (0 ≤ x ∧ x ≤ 9999)) && decide (l.length = 15)) := by
  induction suf with
  | nil =>
    intro pre _
    refine ev_step (f := fun _ => some _) (Ev.now _) (fun k => ?_)
    rw [impl_isArea.l0, if_neg (by simp)]
    have e : ((l.length : Int) == 15) = decide (l.length = 15) := by
      by_cases h : l.length = 15
      · simp [h]
      · simp [h]; omega
    rw [e]; simp
  | cons x suf ih =>
    intro pre hl
    have h := ih (pre ++ [x]) (by simp at hl ⊢; omega)
    rw [snoc_app, snoc_leni] at h
    have hl' : (pre.length : Int) < ((pre ++ x :: suf).length : Int) := by simp; omega
    have hw : wrap64 ((pre.length : Int) + 1) = (pre.length : Int) + 1 := wrapS (by omega) (by simp at hl; omega)
    by_cases h1 : 0 ≤ x ∧ x ≤ 9999
    · refine ev_step (ev_eq h (by simp [h1])) (fun k => ?_)
      rw [impl_isArea.l0, if_pos hl', if_pos (by omega), if_pos hl', rd_mid, hw, if_neg (by omega), if_neg (by omega)]
    · refine ev_step (f := fun _ => some _) (Ev.now _) (fun k => ?_)
      rw [impl_isArea.l0, if_pos hl', if_pos (by omega), if_pos hl', rd_mid, hw]
      by_cases h2 : x < 0
      · rw [if_pos h2]; simp [show ¬ 0 ≤ x by omega]
      · rw [if_neg h2, if_pos (by omega)]; simp [show ¬ x ≤ 9999 by omega]
theorem isArea_ok (l : List Int) (h : l.length ≤ 9223372036854775806) : Ev (fun k => impl_isArea.f k l) (areaOk l) :=
  Ev.congr (fun _ => rfl) (isArea_l0 l l [] (by simpa using h))
theorem l1Own_ok (l : List Int) (h : l.length ≤ 1048576000) : spec_l1Own.f l = some l := by
  unfold spec_l1Own.f
  simp only [Option.bind_some, List.length_nil, List.nil_append]
  rw [if_pos (by omega)]
theorem area_len {l : List Int} (h : areaOk l = true) : l.length = 15 := by
  simp only [areaOk, Bool.and_eq_true, decide_eq_true_eq] at h; exact h.2

def damaged (l : List Int) (i v : Int) : List Int × Bool := if areaOk l = true ∧ 0 ≤ i ∧ i ≤ 14 ∧ 0 ≤ v ∧ v ≤ 9999 then (l.set i.toNat v, true) else ([], false)
theorem specDamage_ok (l : List Int) (i v : Int) (h : l.length ≤ 1048576) : Ev (fun k => spec_DamageArea.f k l i v) (damaged l i v) := by
  refine Ev.bind (jrArea_ok l (by omega)) ?_
  cases ha : areaOk l with
  | false => exact ev_of_eq (fun _ => by simp [damaged, ha])
  | true =>
    have hl := area_len ha
    refine ev_of_eq (fun _ => ?_)
    simp only [if_true, spec_l1In.f]
    by_cases h1 : 0 ≤ i
    · by_cases h2 : i ≤ 14
      · by_cases h3 : 0 ≤ v
        · by_cases h4 : v ≤ 9999
          · simp [damaged, ha, h1, h2, h3, h4, l1Own_ok l (by omega), hl]; omega
          · simp [damaged, ha, h1, h2, h3, h4]
        · simp [damaged, ha, h1, h2, h3]
      · simp [damaged, ha, h1, h2]
    · simp [damaged, ha, h1]
theorem implDamage_ok (l : List Int) (i v : Int) (h : l.length ≤ 1048576) : Ev (fun k => impl_DamageArea.f k l i v) (damaged l i v) := by
  refine Ev.bind (isArea_ok l (by omega)) ?_
  cases ha : areaOk l with
  | false => exact ev_of_eq (fun _ => by simp [damaged, ha])
  | true =>
    have hl := area_len ha
    refine ev_of_eq (fun _ => ?_)
    simp only [if_true, slices_Clone_int_int.f]
    by_cases h1 : i < 0
    · simp [damaged, ha, h1, show ¬ 0 ≤ i by omega]
    by_cases h2 : i ≥ 15
    · simp [damaged, ha, h1, h2, show ¬ i ≤ 14 by omega]
    by_cases h3 : v < 0
    · simp [damaged, ha, h1, h2, h3, show ¬ 0 ≤ v by omega]
    by_cases h4 : v > 9999
    · simp [damaged, ha, h1, h2, h3, h4, show ¬ v ≤ 9999 by omega]
    rw [if_neg h1, if_neg h2, if_neg h3, if_neg h4, if_pos (by omega)]
    simp only [Option.bind_some]
    rw [if_pos (by omega), if_pos (by omega), damaged, if_pos (by refine ⟨ha, ?_, ?_, ?_, ?_⟩ <;> omega)]
theorem damaged_len (l : List Int) (i v : Int) : (damaged l i v).1.length ≤ l.length := by
  unfold damaged; split <;> simp
theorem FnExactDamageArea (a : List Int) (i v : Int) (_ha : a.length * 8 ≤ 140737488351232) (_hg : ∀ y ∈ a, (Lit.int .i64 y).wf = true) (_hi : (Lit.int .i64 i).wf = true) (_hv : (Lit.int .i64 v).wf = true) : ∃ k, laws_FnExactDamageArea.f k a i v = some true := by
  by_cases ha : (a.length : Int) > 1048576
  · exact ⟨0, by rw [laws_FnExactDamageArea.f, if_pos ha]⟩
  have hd := damaged_len a i v
  obtain ⟨K1, h1⟩ := toIntS_copy a (by omega)
  obtain ⟨K2, h2⟩ := specDamage_ok a i v (by omega)
  obtain ⟨K3, h3⟩ := implDamage_ok a i v (by omega)
  obtain ⟨K4, h4⟩ := eqIntS_same a (by omega)
  obtain ⟨K5, h5⟩ := eqIntS_same (damaged a i v).1 (by omega)
  obtain ⟨K6, h6⟩ := markIntS_marks a 1 (by omega) (by omega) (by omega)
  obtain ⟨K7, h7⟩ := markIntS_marks (damaged a i v).1 1 (by omega) (by omega) (by omega)
  obtain ⟨K8, h8⟩ := heldIntS_marked (damaged a i v).1.length 1 (by omega) (by omega) (by omega)
  dsimp only at h1 h2 h3 h4 h5 h6 h7 h8
  have n1 : ¬ (1 + (a.length : Int)) < 0 := by omega
  have n2 : ¬ (1 + ((damaged a i v).1.length : Int)) < 0 := by omega
  refine ⟨K1 + K2 + K3 + K4 + K5 + K6 + K7 + K8 + 5, ?_⟩
  simp (disch := omega) only [laws_FnExactDamageArea.f, ha, if_false, h1, h2, h3, h5, Option.bind_some, if_true, bnot_ne, Bool.false_eq_true]
  simp (disch := omega) only [laws_FnExactDamageArea.j0, h1, h4, h5, h6, n1, if_false, if_true, Option.bind_some, bnot_ne, Bool.false_eq_true]
  simp (disch := omega) only [laws_FnExactDamageArea.j1, h1, h3, h5, h7, h8, n2, if_false, if_true, Option.bind_some, bnot_ne, Bool.false_eq_true]
  simp (disch := omega) only [laws_FnExactDamageArea.j2, h8, n2, if_false, if_true, Option.bind_some, bnot_ne, Bool.false_eq_true]

end Go.Proofs.Yteopihcigopbbaa.LDamageArea
