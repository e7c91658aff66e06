/- For every input the law FnExactWriteAll answers true, after some number of rounds; the conditions are the input's own bounds. -/
import Derived.Test.YtockbgeloiekdaaQFnExactWriteAllx7
import Derived.Test.YtockbgeloiekdaaBase
namespace Go.Proofs.Ytockbgeloiekdaa.LWriteAll
open Go Go.RowKit Go.Proofs.Ytockbgeloiekdaa.QFnExactWriteAll Go.Proofs.YtockbgeloiekdaaW.PrintWords Go.Proofs.YtockbgeloiekdaaW.PrintLast Go.Proofs.YtockbgeloiekdaaW.PrintMore Go.Proofs.Ytockbgeloiekdaa.Base
set_option linter.unusedVariables false
set_option linter.unusedSimpArgs false

/-! slices of ints: copied, held against each other, marked -/
theorem eqIntS_l0 (suf : List Int) : ∀ pre : List Int, (pre ++ suf).length ≤ 9223372036854775806 → Ev (fun k => laws_eqIntS.l0 k (pre ++ suf) (pre ++ suf) (pre.length : Int)) true := by
  induction suf with
  | nil =>
    intro pre _
    refine ev_step ev_const (fun k => ?_)
    rw [laws_eqIntS.l0, if_neg (by simp)]
  | cons x suf ih =>
    intro pre hl
    have h := ih (pre ++ [x]) (by simp at hl ⊢; omega)
    rw [snoc_app, snoc_leni] at h
    have hl' : (pre.length : Int) < ((pre ++ x :: suf).length : Int) := by simp; omega
    refine ev_step h (fun k => ?_)
    rw [laws_eqIntS.l0, if_pos hl', if_pos (by omega), if_pos hl', if_pos rfl, wrapS (by omega) (by simp at hl; omega)]

theorem eqIntS_same (l : List Int) (h : l.length ≤ 9223372036854775806) : Ev (fun k => laws_eqIntS.f k l l) true := by
  have := eqIntS_l0 l [] (by simpa using h)
  refine Ev.congr (fun k => ?_) this
  simp [laws_eqIntS.f]

theorem toIntS_l0 (suf : List Int) : ∀ pre : List Int, (pre ++ suf).length ≤ 9223372036854775806 → Ev (fun k => laws_toIntS.l0 k (pre ++ suf) (pre ++ List.replicate suf.length 0) (pre.length : Int)) (pre ++ suf) := by
  induction suf with
  | nil =>
    intro pre _
    refine ev_step ev_const (fun k => ?_)
    rw [laws_toIntS.l0, if_neg (by simp)]
    simp
  | cons x suf ih =>
    intro pre hl
    have h := ih (pre ++ [x]) (by simp at hl ⊢; omega)
    rw [snoc_app, snoc_app, snoc_leni] at h
    have hl' : (pre.length : Int) < ((pre ++ x :: suf).length : Int) := by simp; omega
    refine ev_step h (fun k => ?_)
    rw [laws_toIntS.l0, if_pos hl', if_pos (by omega), if_pos (by simp; omega), rd_mid, wrapS (by omega) (by simp at hl; omega), List.length_cons, List.replicate_succ, set_mid _ _ _ _ _ (by simp)]

theorem toIntS_copy (l : List Int) (h : l.length ≤ 1048576) : Ev (fun k => laws_toIntS.f k l) l := by
  have := toIntS_l0 l [] (by simp; omega)
  refine Ev.congr (fun k => ?_) this
  rw [laws_toIntS.f, if_pos (by omega), if_pos (by omega)]
  simp

/-- a, a + 1, .. -/
def countUp : Int → Nat → List Int
  | _, 0 => []
  | a, n + 1 => a :: countUp (a + 1) n
theorem countUp_length (n : Nat) : ∀ a, (countUp a n).length = n := by
  induction n with
  | zero => intro a; rfl
  | succ n ih => intro a; simp [countUp, ih]

theorem markIntS_l0 (suf : List Int) : ∀ (pre : List Int) (a : Int), (pre ++ suf).length ≤ 1048576000 → 0 ≤ a → a + suf.length ≤ 4000000000000 → Ev (fun k => laws_markIntS.l0 k (pre ++ suf) a (pre.length : Int)) (a + suf.length, pre ++ countUp a suf.length) := by
  induction suf with
  | nil =>
    intro pre a _ _ _
    refine ev_step ev_const (fun k => ?_)
    rw [laws_markIntS.l0, if_neg (by simp)]
    simp [countUp]
  | cons x suf ih =>
    intro pre a hl h0 h1
    simp only [List.length_cons] at h1
    have h := ih (pre ++ [a]) (a + 1) (by simp at hl ⊢; omega) (by omega) (by omega)
    rw [snoc_app, snoc_app, snoc_leni] at h
    have hl' : (pre.length : Int) < ((pre ++ x :: suf).length : Int) := by simp; omega
    refine ev_step (ev_eq h ?_) (fun k => ?_)
    · simp only [List.length_cons, countUp, Prod.mk.injEq, and_true]; omega
    · rw [laws_markIntS.l0, if_pos hl', if_pos (by omega), wrapS (x := (pre.length : Int) + 1) (by omega) (by simp at hl; omega), wrapS (x := a + 1) (by omega) (by omega), set_mid _ _ _ _ _ (by simp)]

theorem markIntS_marks (l : List Int) (a : Int) (hl : l.length ≤ 1048576000) (h0 : 0 ≤ a) (h1 : a ≤ 1000000000000) : Ev (fun k => laws_markIntS.f k l a) (a + l.length, countUp a l.length) := by
  have := markIntS_l0 l [] a (by simpa using hl) h0 (by omega)
  refine Ev.congr (f := fun k => laws_markIntS.l0 k l a 0) (fun k => rfl) (by simpa using this)

theorem heldIntS_l0 (n : Nat) : ∀ (pre : List Int) (a : Int), pre.length + n ≤ 1048576000 → 0 ≤ a → a + n ≤ 4000000000000 → Ev (fun k => laws_heldIntS.l0 k (pre ++ countUp a n) a (pre.length : Int)) (a + n) := by
  induction n with
  | zero =>
    intro pre a _ _ _
    refine ev_step ev_const (fun k => ?_)
    rw [laws_heldIntS.l0, if_neg (by simp [countUp])]
    simp
  | succ n ih =>
    intro pre a hl h0 h1
    have h := ih (pre ++ [a]) (a + 1) (by simp; omega) (by omega) (by omega)
    rw [snoc_app, snoc_leni] at h
    refine ev_step (ev_eq h (by omega)) (fun k => ?_)
    rw [laws_heldIntS.l0, countUp, if_pos (by simp; omega), if_pos (by omega), rd_mid, if_pos rfl, wrapS (x := (pre.length : Int) + 1) (by omega) (by omega), wrapS (x := a + 1) (by omega) (by omega)]

theorem heldIntS_marked (n : Nat) (a : Int) (hl : n ≤ 1048576000) (h0 : 0 ≤ a) (h1 : a ≤ 1000000000000) : Ev (fun k => laws_heldIntS.f k (countUp a n) a) (a + n) := by
  have := heldIntS_l0 n [] a (by simpa using hl) h0 (by omega)
  refine Ev.congr (f := fun k => laws_heldIntS.l0 k (countUp a n) a 0) (fun k => rfl) (by simpa using this)

/-! all numbers of a list lie in a range -/
theorem l1All_l0 (lo hi : Int) (suf : List Int) : ∀ pre : List Int, (pre ++ suf).length ≤ 9223372036854775806 →
    Ev (fun k => spec_l1All.l0 k lo hi (pre ++ suf) ((pre ++ suf).length : Int) (pre.length : Int)) (suf.all fun x => decide (lo ≤ x ∧ x ≤ hi)) := by
  induction suf with
  | nil =>
    intro pre _
    refine ev_step (Ev.now _) (fun k => ?_)
    rw [spec_l1All.l0, if_neg (by simp)]
    rfl
  | cons x suf ih =>
    intro pre hl
    have h := ih (pre ++ [x]) (by simp at hl ⊢; omega)
    rw [snoc_app, snoc_leni] at h
    have hl' : (pre.length : Int) < ((pre ++ x :: suf).length : Int) := by simp; omega
    have hw : wrap64 ((pre.length : Int) + 1) = (pre.length : Int) + 1 := wrapS (by omega) (by simp at hl; omega)
    by_cases h1 : lo ≤ x ∧ x ≤ hi
    · refine ev_step (ev_eq h (by simp [h1])) (fun k => ?_)
      rw [spec_l1All.l0, if_pos hl', if_pos (by omega), if_pos hl', rd_mid, hw]
      simp [spec_l1In.f, h1]
    · refine ev_step (f := fun _ => some _) (Ev.now _) (fun k => ?_)
      rw [spec_l1All.l0, if_pos hl', if_pos (by omega), if_pos hl', rd_mid, hw]
      by_cases h2 : lo ≤ x
      · have h3 : ¬ x ≤ hi := fun h3 => h1 ⟨h2, h3⟩
        simp [spec_l1In.f, h2, h3]
      · simp [spec_l1In.f, h2]
theorem l1All_ok (l : List Int) (lo hi : Int) (h : l.length ≤ 9223372036854775806) : Ev (fun k => spec_l1All.f k l lo hi) (l.all fun x => decide (lo ≤ x ∧ x ≤ hi)) :=
  Ev.congr (fun _ => rfl) (l1All_l0 lo hi l [] (by simpa using h))

/-! a state -/
def stateOk (l : List Int) : Bool := (l.all fun x => decide (0 ≤ x ∧ x ≤ 999)) && decide (l.length ≤ 12)
theorem jrState_ok (l : List Int) (h : l.length ≤ 9223372036854775806) : Ev (fun k => spec_jrState.f k l) (stateOk l) := by
  by_cases h2 : l.length ≤ 12
  · refine Ev.congr (fun k => ?_) (ev_eq (l1All_ok l 0 999 h) ?_)
    · rw [spec_jrState.f, if_pos (by omega)]; simp
    · simp [stateOk, h2]
  · refine Ev.congr (f := fun _ => some (stateOk l)) (fun k => ?_) (Ev.now _)
    rw [spec_jrState.f, if_neg (by omega)]
    simp [stateOk, h2]
theorem isState_l0 (l : List Int) (suf : List Int) : ∀ pre : List Int, (pre ++ suf).length ≤ 9223372036854775806 →
    Ev (fun k => impl_IsState.l0 k l (pre ++ suf) ((pre ++ suf).length : Int) (pre.length : Int)) ((suf.all fun x => decide (0 ≤ x ∧ x ≤ 999)) && decide (l.length ≤ 12)) := by
  induction suf with
  | nil =>
    intro pre _
    refine ev_step (f := fun _ => some _) (Ev.now _) (fun k => ?_)
    rw [impl_IsState.l0, if_neg (by simp)]
    have e : decide ((l.length : Int) ≤ 12) = decide (l.length ≤ 12) := by
      by_cases h : l.length ≤ 12
      · simp [h]; omega
      · simp [h]; omega
    rw [e]; simp
  | cons x suf ih =>
    intro pre hl
    have h := ih (pre ++ [x]) (by simp at hl ⊢; omega)
    rw [snoc_app, snoc_leni] at h
    have hl' : (pre.length : Int) < ((pre ++ x :: suf).length : Int) := by simp; omega
    have hw : wrap64 ((pre.length : Int) + 1) = (pre.length : Int) + 1 := wrapS (by omega) (by simp at hl; omega)
    by_cases h1 : 0 ≤ x ∧ x ≤ 999
    · refine ev_step (ev_eq h (by simp [h1])) (fun k => ?_)
      rw [impl_IsState.l0, if_pos hl', if_pos (by omega), if_pos hl', rd_mid, hw, if_neg (by omega), if_neg (by omega)]
    · refine ev_step (f := fun _ => some _) (Ev.now _) (fun k => ?_)
      rw [impl_IsState.l0, if_pos hl', if_pos (by omega), if_pos hl', rd_mid, hw]
      by_cases h2 : x < 0
      · rw [if_pos h2]; simp [show ¬ 0 ≤ x by omega]
      · rw [if_neg h2, if_pos (by omega)]; simp [show ¬ x ≤ 999 by omega]
theorem isState_ok (l : List Int) (h : l.length ≤ 9223372036854775806) : Ev (fun k => impl_IsState.f k l) (stateOk l) :=
  Ev.congr (fun _ => rfl) (isState_l0 l l [] (by simpa using h))

/-! an area -/
def areaOk (l : List Int) : Bool := (l.all fun x => decide (0 ≤ x ∧ x ≤ 9999)) && decide (l.length = 15)
theorem l1Own_ok (l : List Int) (h : l.length ≤ 1048576000) : spec_l1Own.f l = some l := by
  unfold spec_l1Own.f
  simp only [Option.bind_some, List.length_nil, List.nil_append]
  rw [if_pos (by omega)]
theorem area_len {l : List Int} (h : areaOk l = true) : l.length = 15 := by
  simp only [areaOk, Bool.and_eq_true, decide_eq_true_eq] at h; exact h.2

/-! the area of a state, and what an area holds -/
theorem sum_same (l : List Int) : ∀ i s, spec_jrCheck.sum i l s = impl_areaOf.sum i l s := by
  induction l with
  | nil => intro i s; rfl
  | cons x l ih => intro i s; simp only [spec_jrCheck.sum, impl_areaOf.sum, ih]
def mk (g : Int) (l : List Int) : List Int := impl_areaOf.body g l ++ [Int.tmod (impl_areaOf.sum 0 (impl_areaOf.body g l) 0) 9973]
theorem body_len (g : Int) (l : List Int) (h : l.length ≤ 12) : (impl_areaOf.body g l).length = 14 := by
  simp [impl_areaOf.body]; omega
theorem mk_len (g : Int) (l : List Int) (h : l.length ≤ 12) : (mk g l).length = 15 := by
  simp [mk, body_len g l h]
theorem areaOf_ok (g : Int) (l : List Int) (h : l.length ≤ 12) : impl_areaOf.f g l = some (mk g l) := by
  rw [impl_areaOf.f, if_pos h]; rfl

theorem jrMake_l0 (g : Int) (suf : List Int) : ∀ pre : List Int, (pre ++ suf).length ≤ 12 →
    Ev (fun k => spec_jrMake.l0 k (g :: ((pre ++ suf).length : Int) :: (pre ++ List.replicate (13 - pre.length) 0)) (pre ++ suf) ((pre ++ suf).length : Int) (pre.length : Int)) (mk g (pre ++ suf)) := by
  induction suf with
  | nil =>
    intro pre hl
    refine ev_step (f := fun _ => some _) (Ev.now _) (fun k => ?_)
    simp only [List.append_nil] at hl ⊢
    have e : g :: (pre.length : Int) :: (pre ++ List.replicate (13 - pre.length) 0) = impl_areaOf.body g pre ++ [0] := by
      rw [show 13 - pre.length = (12 - pre.length) + 1 by omega, List.replicate_succ']
      simp [impl_areaOf.body]
    have hb := body_len g pre hl
    rw [spec_jrMake.l0, if_neg (by omega), e, spec_jrCheck.f, if_pos (by simp [hb])]
    simp only [Option.bind_some]
    rw [if_pos (by simp [hb]), sum_same]
    have e1 : (impl_areaOf.body g pre ++ [0]).take 14 = impl_areaOf.body g pre := by
      rw [List.take_append_of_le_length (by omega), List.take_of_length_le (by omega)]
    rw [e1]
    congr 1
    rw [mk]
    exact set_mid _ [] _ _ _ hb.symm
  | cons x suf ih =>
    intro pre hl
    have hl2 : pre.length + suf.length + 1 ≤ 12 := by simp at hl; omega
    have h := ih (pre ++ [x]) (by simp; omega)
    rw [snoc_app, snoc_app, snoc_leni] at h
    have hl' : (pre.length : Int) < ((pre ++ x :: suf).length : Int) := by simp; omega
    have hw : wrap64 ((pre.length : Int) + 1) = (pre.length : Int) + 1 := wrapS (by omega) (by omega)
    have hw2 : wrap64 (2 + (pre.length : Int)) = 2 + (pre.length : Int) := wrapS (by omega) (by omega)
    refine ev_step h (fun k => ?_)
    rw [spec_jrMake.l0, if_pos hl', if_pos (by omega), if_pos hl', hw2, hw, if_pos (by omega), if_pos (by simp; omega), rd_mid]
    have e : (2 + (pre.length : Int)).toNat = pre.length + 1 + 1 := by omega
    rw [e, List.set_cons_succ, List.set_cons_succ, show 13 - pre.length = (13 - (pre ++ [x]).length) + 1 by simp; omega, List.replicate_succ, set_mid _ _ _ _ _ rfl]

theorem jrMake_ok (g : Int) (l : List Int) (h : l.length ≤ 12) : Ev (fun k => spec_jrMake.f k g l) (mk g l) := by
  have := jrMake_l0 g l [] (by simpa using h)
  refine Ev.congr (fun k => ?_) this
  rw [spec_jrMake.f, if_pos (by omega)]
  rfl

theorem l1Same_l0 (sa : List Int) : ∀ (sb pre : List Int), sa.length = sb.length → (pre ++ sa).length ≤ 1048576000 →
    Ev (fun k => spec_l1Same.l0 k (pre ++ sa) (pre ++ sb) ((pre ++ sa).length : Int) (pre.length : Int)) (decide (sa = sb)) := by
  induction sa with
  | nil =>
    intro sb pre hs hl
    cases sb with
    | cons y sb => simp at hs
    | nil =>
      refine ev_step (f := fun _ => some _) (Ev.now _) (fun k => ?_)
      rw [spec_l1Same.l0, if_neg (by simp)]
      simp
  | cons x sa ih =>
    intro sb pre hs hl
    cases sb with
    | nil => simp at hs
    | cons y sb =>
      have hl' : (pre.length : Int) < ((pre ++ x :: sa).length : Int) := by simp; omega
      have hl2 : (pre.length : Int) < ((pre ++ y :: sb).length : Int) := by simp; omega
      have hw : wrap64 ((pre.length : Int) + 1) = (pre.length : Int) + 1 := wrapS (by omega) (by simp at hl; omega)
      by_cases h : x = y
      · subst h
        have h1 := ih sb (pre ++ [x]) (by simpa using hs) (by simp at hl ⊢; omega)
        rw [snoc_app, snoc_app, snoc_leni] at h1
        refine ev_step (ev_eq h1 (by simp)) (fun k => ?_)
        rw [spec_l1Same.l0, if_pos hl', if_pos (by omega), if_pos hl', if_pos hl2, rd_mid, rd_mid, if_pos rfl, hw]
      · refine ev_step (f := fun _ => some _) (Ev.now _) (fun k => ?_)
        rw [spec_l1Same.l0, if_pos hl', if_pos (by omega), if_pos hl', if_pos hl2, rd_mid, rd_mid, if_neg h]
        simp [h]
theorem l1Same_ok (a b : List Int) (h : a.length ≤ 1048576000) : Ev (fun k => spec_l1Same.f k a b) (decide (a = b)) := by
  by_cases hs : a.length = b.length
  · refine Ev.congr (fun k => ?_) (l1Same_l0 a b [] hs (by simpa using h))
    rw [spec_l1Same.f, if_pos (by omega)]
    rfl
  · refine Ev.congr (f := fun _ => some _) (fun k => ?_) (Ev.now _)
    rw [spec_l1Same.f, if_neg (by omega)]
    have : a ≠ b := fun e => hs (by rw [e])
    simp [this]
theorem equal_l0 (sa : List Int) : ∀ (sb pre : List Int), sa.length = sb.length → (pre ++ sa).length ≤ 1048576000 →
    Ev (fun k => slices_Equal_int_int.l0 k (pre ++ sa) (pre ++ sb) ((pre ++ sa).length : Int) (pre.length : Int)) (decide (sa = sb)) := by
  induction sa with
  | nil =>
    intro sb pre hs hl
    cases sb with
    | cons y sb => simp at hs
    | nil =>
      refine ev_step (f := fun _ => some _) (Ev.now _) (fun k => ?_)
      rw [slices_Equal_int_int.l0, if_neg (by simp)]
      simp
  | cons x sa ih =>
    intro sb pre hs hl
    cases sb with
    | nil => simp at hs
    | cons y sb =>
      have hl' : (pre.length : Int) < ((pre ++ x :: sa).length : Int) := by simp; omega
      have hl2 : (pre.length : Int) < ((pre ++ y :: sb).length : Int) := by simp; omega
      have hw : wrap64 ((pre.length : Int) + 1) = (pre.length : Int) + 1 := wrapS (by omega) (by simp at hl; omega)
      by_cases h : x = y
      · subst h
        have h1 := ih sb (pre ++ [x]) (by simpa using hs) (by simp at hl ⊢; omega)
        rw [snoc_app, snoc_app, snoc_leni] at h1
        refine ev_step (ev_eq h1 (by simp)) (fun k => ?_)
        rw [slices_Equal_int_int.l0, if_pos hl', if_pos (by omega), if_pos hl', if_pos hl2, rd_mid, rd_mid, if_pos rfl, hw]
      · refine ev_step (f := fun _ => some _) (Ev.now _) (fun k => ?_)
        rw [slices_Equal_int_int.l0, if_pos hl', if_pos (by omega), if_pos hl', if_pos hl2, rd_mid, rd_mid, if_neg h]
        simp [h]
theorem equal_ok (a b : List Int) (h : a.length ≤ 1048576000) : Ev (fun k => slices_Equal_int_int.f k a b) (decide (a = b)) := by
  by_cases hs : a.length = b.length
  · refine Ev.congr (fun k => ?_) (equal_l0 a b [] hs (by simpa using h))
    rw [slices_Equal_int_int.f, if_pos (by omega)]
    rfl
  · refine Ev.congr (f := fun _ => some _) (fun k => ?_) (Ev.now _)
    rw [slices_Equal_int_int.f, if_neg (by omega)]
    have : a ≠ b := fun e => hs (by rw [e])
    simp [this]

/-- The numbers behind the head of an area. -/
def held (a : List Int) : List Int := (a.take (2 + rd a 1).toNat).drop 2
/-- The generation (0: not whole) and the state of an area. -/
def readA (a : List Int) : Int × List Int :=
  if 1 ≤ rd a 0 ∧ rd a 0 ≤ 999 ∧ rd a 1 ≤ 12 ∧ stateOk (held a) = true ∧ mk (rd a 0) (held a) = a then (rd a 0, held a) else (0, [])
theorem readA_yes {a : List Int} (h : 1 ≤ rd a 0 ∧ rd a 0 ≤ 999 ∧ rd a 1 ≤ 12 ∧ stateOk (held a) = true ∧ mk (rd a 0) (held a) = a) : readA a = (rd a 0, held a) := if_pos h
theorem readA_no {a : List Int} (h : (1 ≤ rd a 0 ∧ rd a 0 ≤ 999 ∧ rd a 1 ≤ 12 ∧ stateOk (held a) = true ∧ mk (rd a 0) (held a) = a) → False) : readA a = (0, []) := if_neg h
theorem area_rd {a : List Int} (h : areaOk a = true) (i : Nat) (hi : i < 15) : 0 ≤ rd a (i : Int) ∧ rd a (i : Int) ≤ 9999 := by
  have hl := area_len h
  rw [rd_nat a i (by omega)]
  simp only [areaOk, Bool.and_eq_true, List.all_eq_true, decide_eq_true_eq] at h
  exact h.1 _ (List.getElem_mem _)
theorem state_len {l : List Int} (h : stateOk l = true) : l.length ≤ 12 := by
  simp only [stateOk, Bool.and_eq_true, decide_eq_true_eq] at h; exact h.2
theorem held_len (a : List Int) : (held a).length ≤ a.length := by
  unfold held; simp; omega

theorem jrRead_ok (a : List Int) (h : areaOk a = true) : Ev (fun k => spec_jrRead.f k a) ((readA a).1, (readA a).2, decide ((readA a).1 > 0)) := by
  have hl := area_len h
  have h0 := area_rd h 0 (by omega)
  have h1 := area_rd h 1 (by omega)
  simp only [Int.ofNat_zero, Int.natCast_one, Int.natCast_zero, Int.ofNat_one] at h0 h1
  have hw : wrap64 (2 + rd a 1) = 2 + rd a 1 := wrapS (by omega) (by omega)
  have J1 : ∀ b, b = true → Ev (fun k => spec_jrRead.j0 k a b) (0, [], false) := by
    intro b hb
    refine ev_step (f := fun _ => some _) (Ev.now _) (fun k => ?_)
    rw [spec_jrRead.j0, if_pos hb]
  by_cases g : 1 ≤ rd a 0 ∧ rd a 0 ≤ 999
  · have eg : spec_jrGeneration.f (rd a 0) = some true := by simp [spec_jrGeneration.f, spec_l1In.f, g.1, g.2]
    by_cases n : rd a 1 ≤ 12
    · have J0 : Ev (fun k => spec_jrRead.j0 k a false) ((readA a).1, (readA a).2, decide ((readA a).1 > 0)) := by
        have hh := held_len a
        obtain ⟨K1, e1⟩ := jrState_ok (held a) (by omega)
        dsimp only at e1
        by_cases s : stateOk (held a) = true
        · have hs := state_len s
          obtain ⟨K2, e2⟩ := jrMake_ok (rd a 0) (held a) hs
          obtain ⟨K3, e3⟩ := l1Same_ok (mk (rd a 0) (held a)) a (by rw [mk_len _ _ hs]; omega)
          dsimp only at e2 e3
          refine ⟨K1 + K2 + K3 + 2, fun k hk => ?_⟩
          obtain ⟨m, rfl⟩ : ∃ m, k = m + 1 := ⟨k - 1, by omega⟩
          dsimp only
          rw [spec_jrRead.j0, if_neg (by decide), if_pos (by omega), hw, if_pos (by omega), if_pos (by omega), show (a.take (2 + rd a 1).toNat).drop 2 = held a from rfl, l1Own_ok _ (by omega)]
          simp only [Option.bind_some]
          rw [e1 m (by omega), s]
          simp only [Option.bind_some, if_true]
          rw [if_pos (by omega), e2 m (by omega)]
          simp only [Option.bind_some]
          rw [e3 m (by omega)]
          simp only [Option.bind_some]
          by_cases q : mk (rd a 0) (held a) = a
          · rw [readA_yes ⟨g.1, g.2, n, s, q⟩]
            simp [q, show rd a 0 > 0 by omega]
          · rw [readA_no (fun x => q x.2.2.2.2)]
            simp [q]
        · refine ⟨K1 + 2, fun k hk => ?_⟩
          obtain ⟨m, rfl⟩ : ∃ m, k = m + 1 := ⟨k - 1, by omega⟩
          dsimp only
          rw [spec_jrRead.j0, if_neg (by decide), if_pos (by omega), hw, if_pos (by omega), if_pos (by omega), show (a.take (2 + rd a 1).toNat).drop 2 = held a from rfl, l1Own_ok _ (by omega)]
          simp only [Option.bind_some]
          rw [e1 m (by omega), readA_no (fun x => s x.2.2.2.1)]
          simp [s]
      refine Ev.congr (fun k => ?_) J0
      rw [spec_jrRead.f, if_pos (by omega), eg]
      simp only [Option.bind_some, if_true]
      rw [if_pos (by omega)]
      simp [show ¬ rd a 1 > 12 by omega]
    · refine Ev.congr (fun k => ?_) (ev_eq (J1 true rfl) ?_)
      · rw [spec_jrRead.f, if_pos (by omega), eg]
        simp only [Option.bind_some, if_true]
        rw [if_pos (by omega)]
        simp [show rd a 1 > 12 by omega]
      · rw [readA_no (fun x => n x.2.2.1)]; simp
  · have eg : spec_jrGeneration.f (rd a 0) = some false := by
      by_cases g1 : 1 ≤ rd a 0
      · have g2 : ¬ rd a 0 ≤ 999 := fun g2 => g ⟨g1, g2⟩
        simp [spec_jrGeneration.f, spec_l1In.f, g1, g2]
      · simp [spec_jrGeneration.f, spec_l1In.f, g1]
    refine Ev.congr (fun k => ?_) (ev_eq (J1 true rfl) ?_)
    · rw [spec_jrRead.f, if_pos (by omega), eg]
      simp
    · rw [readA_no (fun x => g ⟨x.1, x.2.1⟩)]; simp

theorem readArea_ok (a : List Int) (h : areaOk a = true) : Ev (fun k => impl_readArea.f k a) (readA a) := by
  have hl := area_len h
  have h0 := area_rd h 0 (by omega)
  have h1 := area_rd h 1 (by omega)
  simp only [Int.ofNat_zero, Int.natCast_one, Int.natCast_zero, Int.ofNat_one] at h0 h1
  have hw : wrap64 (2 + rd a 1) = 2 + rd a 1 := wrapS (by omega) (by omega)
  have J1 : ∀ b, b = true → Ev (fun k => impl_readArea.j0 k a b) (0, []) := by
    intro b hb
    refine ev_step (f := fun _ => some _) (Ev.now _) (fun k => ?_)
    rw [impl_readArea.j0, if_pos hb]
  by_cases g1 : rd a 0 < 1
  · refine Ev.congr (fun k => ?_) (ev_eq (J1 true rfl) ?_)
    · rw [impl_readArea.f, if_pos (by omega), if_pos g1]
    · rw [readA_no (fun x => by omega)]
  by_cases g2 : rd a 0 > 999
  · refine Ev.congr (fun k => ?_) (ev_eq (J1 true rfl) ?_)
    · rw [impl_readArea.f, if_pos (by omega), if_neg g1, if_pos g2]
    · rw [readA_no (fun x => by omega)]
  by_cases n : rd a 1 ≤ 12
  · have J0 : Ev (fun k => impl_readArea.j0 k a false) (readA a) := by
      have hh := held_len a
      obtain ⟨K1, e1⟩ := isState_ok (held a) (by omega)
      dsimp only at e1
      have ec : slices_Clone_int_int.f (held a) = some (held a) := by rw [slices_Clone_int_int.f, if_pos (by omega)]
      by_cases s : stateOk (held a) = true
      · have hs := state_len s
        obtain ⟨K3, e3⟩ := equal_ok (mk (rd a 0) (held a)) a (by rw [mk_len _ _ hs]; omega)
        dsimp only at e3
        refine ⟨K1 + K3 + 2, fun k hk => ?_⟩
        obtain ⟨m, rfl⟩ : ∃ m, k = m + 1 := ⟨k - 1, by omega⟩
        dsimp only
        rw [impl_readArea.j0, if_neg (by decide), if_pos (by omega), hw, if_pos (by omega), if_pos (by omega), show (a.take (2 + rd a 1).toNat).drop 2 = held a from rfl, ec]
        simp only [Option.bind_some]
        rw [e1 m (by omega), s]
        simp only [Option.bind_some, if_true]
        rw [if_pos (by omega), areaOf_ok _ _ hs]
        simp only [Option.bind_some]
        rw [e3 m (by omega)]
        simp only [Option.bind_some]
        by_cases q : mk (rd a 0) (held a) = a
        · rw [readA_yes ⟨by omega, by omega, n, s, q⟩]
          simp [q]
        · rw [readA_no (fun x => q x.2.2.2.2)]
          simp [q]
      · refine ⟨K1 + 2, fun k hk => ?_⟩
        obtain ⟨m, rfl⟩ : ∃ m, k = m + 1 := ⟨k - 1, by omega⟩
        dsimp only
        rw [impl_readArea.j0, if_neg (by decide), if_pos (by omega), hw, if_pos (by omega), if_pos (by omega), show (a.take (2 + rd a 1).toNat).drop 2 = held a from rfl, ec]
        simp only [Option.bind_some]
        rw [e1 m (by omega), readA_no (fun x => s x.2.2.2.1)]
        simp [s]
    refine Ev.congr (fun k => ?_) J0
    rw [impl_readArea.f, if_pos (by omega), if_neg g1, if_neg g2, if_pos (by omega)]
    simp [show ¬ rd a 1 > 12 by omega]
  · refine Ev.congr (fun k => ?_) (ev_eq (J1 true rfl) ?_)
    · rw [impl_readArea.f, if_pos (by omega), if_neg g1, if_neg g2, if_pos (by omega)]
      simp [show rd a 1 > 12 by omega]
    · rw [readA_no (fun x => n x.2.2.1)]
theorem readA_len (a : List Int) : (readA a).2.length ≤ a.length := by
  have := held_len a
  unfold readA; split
  · exact this
  · simp

/-- Which of two areas holds the state (-1: none), its generation and its state. -/
def newA (a b : List Int) : Int × Int × List Int :=
  if (readA a).1 = 0 ∧ (readA b).1 = 0 then (-1, 0, []) else if (readA a).1 ≥ (readA b).1 then (0, (readA a).1, (readA a).2) else (1, (readA b).1, (readA b).2)
theorem newA_none {a b : List Int} (h1 : (readA a).1 = 0) (h2 : (readA b).1 = 0) : newA a b = (-1, 0, []) := if_pos ⟨h1, h2⟩
theorem newA_fst {a b : List Int} (h : ¬ ((readA a).1 = 0 ∧ (readA b).1 = 0)) (h3 : (readA a).1 ≥ (readA b).1) : newA a b = (0, (readA a).1, (readA a).2) := by
  unfold newA; rw [if_neg h, if_pos h3]
theorem newA_snd {a b : List Int} (h : ¬ ((readA a).1 = 0 ∧ (readA b).1 = 0)) (h3 : ¬ (readA a).1 ≥ (readA b).1) : newA a b = (1, (readA b).1, (readA b).2) := by
  unfold newA; rw [if_neg h, if_neg h3]
theorem readA_gen (a : List Int) : 0 ≤ (readA a).1 ∧ ((readA a).1 = 0 → (readA a).2 = []) := by
  unfold readA; split
  · rename_i h; exact ⟨by omega, fun e => by omega⟩
  · exact ⟨by simp, fun _ => rfl⟩
theorem jrHeld_ok (a b : List Int) (ha : areaOk a = true) (hb : areaOk b = true) : Ev (fun k => spec_jrHeld.f k a b) ((newA a b).2.1, (newA a b).2.2, (newA a b).1) := by
  refine Ev.bind (jrRead_ok a ha) (Ev.bind (jrRead_ok b hb) ?_)
  have ga := readA_gen a
  have gb := readA_gen b
  dsimp only
  by_cases h1 : (readA a).1 > 0
  · by_cases h2 : (readA b).1 > 0
    · by_cases h3 : (readA a).1 ≥ (readA b).1
      · simp only [h1, h2, decide_true, if_true]
        refine ev_step (f := fun _ => some _) (Ev.now _) (fun k => ?_)
        rw [spec_jrHeld.j0, if_pos (by simpa using h3), newA, if_neg (by omega), if_pos h3]
      · simp only [h1, h2, decide_true, if_true]
        refine ev_step (f := fun _ => some _) (Ev.now _) (fun k => ?_)
        rw [spec_jrHeld.j0, if_neg (by simpa using h3), if_pos rfl, newA, if_neg (by omega), if_neg h3]
    · have h2' : decide ((readA b).1 > 0) = false := by simpa using h2
      simp only [h1, h2', decide_true, if_true, Bool.false_eq_true, if_false]
      refine ev_step (f := fun _ => some _) (Ev.now _) (fun k => ?_)
      rw [spec_jrHeld.j0, if_pos rfl, newA, if_neg (by omega), if_pos (by omega)]
  · have h1' : decide ((readA a).1 > 0) = false := by simpa using h1
    simp only [h1', Bool.false_eq_true, if_false]
    by_cases h2 : (readA b).1 > 0
    · refine ev_step (f := fun _ => some _) (Ev.now _) (fun k => ?_)
      rw [spec_jrHeld.j0, if_neg (by decide), if_pos (by simpa using h2), newA, if_neg (by omega), if_neg (by omega)]
    · refine ev_step (f := fun _ => some _) (Ev.now _) (fun k => ?_)
      rw [spec_jrHeld.j0, if_neg (by decide), if_neg (by simpa using h2), newA, if_pos ⟨by omega, by omega⟩]
theorem newest_ok (a b : List Int) (ha : areaOk a = true) (hb : areaOk b = true) : Ev (fun k => impl_newest.f k a b) (newA a b) := by
  refine Ev.bind (readArea_ok a ha) (Ev.bind (readArea_ok b hb) ?_)
  have gb := readA_gen b
  by_cases h1 : (readA a).1 = 0
  · by_cases h2 : (readA b).1 = 0
    · simp only [h1, if_true]
      refine ev_step (f := fun _ => some _) (Ev.now _) (fun k => ?_)
      rw [impl_newest.j0, if_pos (by simp [h2]), newA_none h1 h2]
    · simp only [h1, if_true]
      refine ev_step (f := fun _ => some _) (Ev.now _) (fun k => ?_)
      have h4 : ¬ (0 : Int) ≥ (readA b).1 := by omega
      rw [impl_newest.j0, if_neg (by simpa using h2), if_neg h4, newA_snd (fun x => h2 x.2) (by rw [h1]; exact h4)]
  · simp only [h1, if_false]
    refine ev_step (f := fun _ => some _) (Ev.now _) (fun k => ?_)
    rw [impl_newest.j0, if_neg (by decide)]
    by_cases h3 : (readA a).1 ≥ (readA b).1
    · rw [if_pos h3, newA_fst (fun x => h1 x.1) h3]
    · rw [if_neg h3, newA_snd (fun x => h1 x.1) h3]
theorem newA_len (a b : List Int) : (newA a b).2.2.length ≤ a.length + b.length := by
  have h1 := readA_len a
  have h2 := readA_len b
  unfold newA; split
  · simp
  · split
    · simp only; omega
    · simp only; omega
theorem newA_pos (a b : List Int) : decide ((newA a b).1 ≥ 0) = decide ((newA a b).2.1 > 0) := by
  have ga := readA_gen a
  have gb := readA_gen b
  unfold newA; split
  · simp
  · split
    · simp; omega
    · simp; omega

/-! the steps of a write -/
def put1 (nx : List Int) (i : Int) (x : List Int) : List Int := if i = 0 then x.set 0 0 else if i < 15 then x.set i.toNat (rd nx i) else x.set 0 (rd nx 0)
theorem put1_len (nx : List Int) (i : Int) (x : List Int) : (put1 nx i x).length = x.length := by
  unfold put1
  by_cases c : i = 0
  · rw [if_pos c]; simp
  · rw [if_neg c]
    by_cases d : i < 15
    · rw [if_pos d]; simp
    · rw [if_neg d]; simp
def goSt (nx : List Int) : Nat → Int → List Int → List Int
  | 0, _, x => x
  | d + 1, i, x => goSt nx d (i + 1) (put1 nx i x)
theorem goSt_len (nx : List Int) (d : Nat) : ∀ i x, (goSt nx d i x).length = x.length := by
  induction d with
  | zero => intro i x; rfl
  | succ d ih => intro i x; rw [goSt, ih, put1_len]
theorem steps_ok (nx : List Int) (n : Int) (hn : n ≤ 16) (d : Nat) : ∀ (i : Int) (x : List Int), i + d = n → 0 ≤ i →
    Ev (fun k => impl_writeSteps.steps k x nx n i) (goSt nx d i x) := by
  induction d with
  | zero =>
    intro i x hi h0
    refine ev_step (f := fun _ => some _) (Ev.now _) (fun k => ?_)
    rw [impl_writeSteps.steps, if_neg (by omega)]; rfl
  | succ d ih =>
    intro i x hi h0
    have hw : wrap64 (i + 1) = i + 1 := wrapS (by omega) (by omega)
    have h := ih (i + 1) (put1 nx i x) (by omega) (by omega)
    refine ev_step (ev_eq h (by rw [goSt])) (fun k => ?_)
    rw [impl_writeSteps.steps, if_pos (by omega), if_pos h0, hw]
    unfold put1
    by_cases c : i = 0
    · rw [if_pos c, if_pos c]
    · rw [if_neg c, if_neg c]
      by_cases e : i < 15
      · rw [if_pos e, if_pos e]
      · rw [if_neg e, if_neg e]
theorem jrWrite_l0 (nx : List Int) (hx : nx.length = 15) (n : Int) (hn : n ≤ 16) (w : Int) (d : Nat) : ∀ (i : Int) (f s : List Int), i + d = n → 0 ≤ i → f.length = 15 → s.length = 15 →
    Ev (fun k => spec_jrWrite.l0 k n w f s nx i) (if w = 0 then (f, goSt nx d i s, true) else (goSt nx d i f, s, true)) := by
  induction d with
  | zero =>
    intro i f s hi h0 hf hs
    refine ev_step (f := fun _ => some _) (Ev.now _) (fun k => ?_)
    rw [spec_jrWrite.l0, if_neg (by omega)]
    by_cases c : w = 0
    · rw [if_pos c]; rfl
    · rw [if_neg c]; rfl
  | succ d ih =>
    intro i f s hi h0 hf hs
    have hw : wrap64 (i + 1) = i + 1 := wrapS (by omega) (by omega)
    have ht : Int.tmod i 15 = if i < 15 then i else 0 := by
      rw [Int.tmod_eq_emod_of_nonneg h0]
      by_cases e : i < 15
      · rw [if_pos e]; omega
      · rw [if_neg e]; omega
    have t0 : 0 ≤ Int.tmod i 15 := by rw [ht]; by_cases e : i < 15 <;> simp only [e, if_true, if_false] <;> omega
    have t1 : Int.tmod i 15 < 15 := by rw [ht]; by_cases e : i < 15 <;> simp only [e, if_true, if_false] <;> omega
    have hp : ∀ x : List Int, put1 nx i x = if i = 0 then x.set (Int.tmod i 15).toNat 0 else x.set (Int.tmod i 15).toNat (rd nx (Int.tmod i 15)) := fun x => by
      unfold put1
      rw [ht]
      by_cases c : i = 0
      · subst c; rfl
      · rw [if_neg c, if_neg c]
        by_cases e : i < 15
        · simp only [e, if_true]
        · simp only [e, if_false]; rfl
    by_cases c : w = 0
    · have h := ih (i + 1) f (put1 nx i s) (by omega) (by omega) hf (by rw [put1_len]; exact hs)
      rw [if_pos c] at h ⊢
      refine ev_step (ev_eq h (by rw [goSt])) (fun k => ?_)
      rw [spec_jrWrite.l0, if_pos (by omega), if_pos t0, if_pos (by omega), hw, hp]
      by_cases e : i = 0
      · rw [if_pos e, if_pos e, if_pos c, if_pos (by omega)]
      · rw [if_neg e, if_neg e, if_pos c, if_pos (by omega)]
    · have h := ih (i + 1) (put1 nx i f) s (by omega) (by omega) (by rw [put1_len]; exact hf) hs
      rw [if_neg c] at h ⊢
      refine ev_step (ev_eq h (by rw [goSt])) (fun k => ?_)
      rw [spec_jrWrite.l0, if_pos (by omega), if_pos t0, if_pos (by omega), hw, hp]
      by_cases e : i = 0
      · rw [if_pos e, if_pos e, if_neg c, if_pos (by omega)]
      · rw [if_neg e, if_neg e, if_neg c, if_pos (by omega)]
def core (a b st : List Int) (n : Int) : List Int × List Int × Bool :=
  if (newA a b).2.1 = 999 then ([], [], false) else if (newA a b).1 = 0 then (a, goSt (mk (wrap64 ((newA a b).2.1 + 1)) st) n.toNat 0 b, true) else (goSt (mk (wrap64 ((newA a b).2.1 + 1)) st) n.toNat 0 a, b, true)
theorem core_len (a b st : List Int) (n : Int) (ha : a.length = 15) (hb : b.length = 15) : (core a b st n).1.length ≤ 15 ∧ (core a b st n).2.1.length ≤ 15 := by
  unfold core
  by_cases c : (newA a b).2.1 = 999
  · rw [if_pos c]; simp
  · rw [if_neg c]
    by_cases d : (newA a b).1 = 0
    · rw [if_pos d]; simp only [goSt_len]; omega
    · rw [if_neg d]; simp only [goSt_len]; omega
theorem jrWrite_ok (a b st : List Int) (n : Int) (ha : areaOk a = true) (hb : areaOk b = true) (hs : stateOk st = true) (h0 : 0 ≤ n) (hn : n ≤ 16) : Ev (fun k => spec_jrWrite.f k a b st n) (core a b st n) := by
  have la := area_len ha
  have lb := area_len hb
  have ls := state_len hs
  refine Ev.bind (jrHeld_ok a b ha hb) ?_
  unfold core
  dsimp only
  by_cases c : (newA a b).2.1 = 999
  · simp only [c, if_true]; exact ev_const
  · simp only [c, if_false, l1Own_ok a (by omega), l1Own_ok b (by omega), Option.bind_some]
    refine Ev.bind (jrMake_ok (wrap64 ((newA a b).2.1 + 1)) st ls) ?_
    exact jrWrite_l0 _ (mk_len _ _ ls) n hn (newA a b).1 n.toNat 0 a b (by omega) (by omega) la lb
theorem writeSteps_ok (a b st : List Int) (n : Int) (ha : areaOk a = true) (hb : areaOk b = true) (hs : stateOk st = true) (h0 : 0 ≤ n) (hn : n ≤ 16) : Ev (fun k => impl_writeSteps.f k a b st n) (core a b st n) := by
  have la := area_len ha
  have lb := area_len hb
  have ls := state_len hs
  refine Ev.bind (newest_ok a b ha hb) ?_
  unfold core
  by_cases c : (newA a b).2.1 = 999
  · simp only [c, if_true]; exact ev_const
  · simp only [c, if_false, la, lb, if_true, areaOf_ok _ st ls, Option.bind_some]
    by_cases d : (newA a b).1 = 0
    · simp only [d, if_true]
      exact Ev.bind (steps_ok _ n hn n.toNat 0 b (by omega) (by omega)) ev_const
    · simp only [d, if_false]
      exact Ev.bind (steps_ok _ n hn n.toNat 0 a (by omega) (by omega)) ev_const

/-! slices of slices of ints: copied, held against each other, measured -/
theorem rdII_mid (pre suf : List (List Int)) (x : List Int) : rd_L1 (pre ++ x :: suf) (pre.length : Int) = x := getD_mid _ _ _ _ _ (by simp)
theorem szIntS_in (l : List Int) (n : Int) (hn : n ≤ 9223372036854775807) (h : (l.length : Int) ≤ n) : laws_szIntS.f l n = some (n - l.length) := by
  have hw : wrap64 (n - l.length) = n - l.length := wrapS (by omega) (by omega)
  rw [laws_szIntS.f, hw, if_neg (by omega)]
theorem szIntS_out (l : List Int) (n : Int) (hn : 0 ≤ n) (hl : l.length ≤ 9223372036854775807) (h : n < (l.length : Int)) : laws_szIntS.f l n = some (-1) := by
  have hw : wrap64 (n - l.length) = n - l.length := wrapS (by omega) (by omega)
  rw [laws_szIntS.f, hw, if_pos (by omega)]
theorem toIntSS_l0 (suf : List (List Int)) : ∀ pre : List (List Int), (pre ++ suf).length ≤ 1048576 → (∀ x ∈ suf, x.length ≤ 1048576) →
    Ev (fun k => laws_toIntSS.l0 k (pre ++ suf) (pre ++ List.replicate suf.length []) (pre.length : Int)) (pre ++ suf) := by
  induction suf with
  | nil =>
    intro pre _ _
    refine ev_step ev_const (fun k => ?_)
    rw [laws_toIntSS.l0, if_neg (by simp)]
    simp
  | cons x suf ih =>
    intro pre hl hx
    have h := ih (pre ++ [x]) (by simp at hl ⊢; omega) (fun y hy => hx y (List.mem_cons_of_mem _ hy))
    rw [snoc_app, snoc_leni, snoc_app] at h
    have hl' : (pre.length : Int) < ((pre ++ x :: suf).length : Int) := by simp; omega
    have hlp : pre.length ≤ 1048576 := by simp at hl; omega
    have hw : wrap64 ((pre.length : Int) + 1) = (pre.length : Int) + 1 := wrapS (by omega) (by omega)
    obtain ⟨K1, e1⟩ := toIntS_copy x (hx x List.mem_cons_self)
    obtain ⟨K2, e2⟩ := h
    dsimp only at e1 e2
    refine ⟨K1 + K2 + 1, fun k hk => ?_⟩
    obtain ⟨m, rfl⟩ : ∃ m, k = m + 1 := ⟨k - 1, by omega⟩
    dsimp only
    rw [laws_toIntSS.l0, if_pos hl', if_pos (by omega), rdII_mid, e1 m (by omega)]
    simp only [Option.bind_some]
    rw [if_pos (by simp; omega), hw, List.length_cons, List.replicate_succ, set_mid _ _ _ _ _ (by simp)]
    exact e2 m (by omega)
theorem toIntSS_copy (l : List (List Int)) (h : l.length ≤ 1048576) (hx : ∀ x ∈ l, x.length ≤ 1048576) : Ev (fun k => laws_toIntSS.f k l) l := by
  have := toIntSS_l0 l [] (by simpa using h) hx
  refine Ev.congr (fun k => ?_) this
  rw [laws_toIntSS.f, if_pos (by omega), if_pos (by omega)]
  simp
theorem eqIntSS_l0 (suf : List (List Int)) : ∀ pre : List (List Int), (pre ++ suf).length ≤ 1048576 → (∀ x ∈ suf, x.length ≤ 1048576) →
    Ev (fun k => laws_eqIntSS.l0 k (pre ++ suf) (pre ++ suf) (pre.length : Int)) true := by
  induction suf with
  | nil =>
    intro pre _ _
    refine ev_step ev_const (fun k => ?_)
    rw [laws_eqIntSS.l0, if_neg (by simp)]
  | cons x suf ih =>
    intro pre hl hx
    have h := ih (pre ++ [x]) (by simp at hl ⊢; omega) (fun y hy => hx y (List.mem_cons_of_mem _ hy))
    rw [snoc_app, snoc_leni] at h
    have hl' : (pre.length : Int) < ((pre ++ x :: suf).length : Int) := by simp; omega
    have hlp : pre.length ≤ 1048576 := by simp at hl; omega
    have hw : wrap64 ((pre.length : Int) + 1) = (pre.length : Int) + 1 := wrapS (by omega) (by omega)
    obtain ⟨K1, e1⟩ := eqIntS_same x (by have := hx x List.mem_cons_self; omega)
    obtain ⟨K2, e2⟩ := h
    dsimp only at e1 e2
    refine ⟨K1 + K2 + 1, fun k hk => ?_⟩
    obtain ⟨m, rfl⟩ : ∃ m, k = m + 1 := ⟨k - 1, by omega⟩
    dsimp only
    rw [laws_eqIntSS.l0, if_pos hl', if_pos (by omega), if_pos hl', rdII_mid, e1 m (by omega)]
    simp only [Option.bind_some, if_true]
    rw [hw]
    exact e2 m (by omega)
theorem eqIntSS_same (l : List (List Int)) (h : l.length ≤ 1048576) (hx : ∀ x ∈ l, x.length ≤ 1048576) : Ev (fun k => laws_eqIntSS.f k l l) true := by
  have := eqIntSS_l0 l [] (by simpa using h) hx
  refine Ev.congr (fun k => ?_) this
  simp [laws_eqIntSS.f]
def totL : List (List Int) → Int
  | [] => 0
  | x :: l => (x.length : Int) + totL l
theorem szIntSS_l0 (suf : List (List Int)) : ∀ (pre : List (List Int)) (n : Int), (pre ++ suf).length ≤ 9223372036854775806 → 0 ≤ n → n ≤ 1048576 → (∀ x ∈ suf, x.length ≤ 140737488351232) →
    ∃ v, Ev (fun k => laws_szIntSS.l0 k (pre ++ suf) n (pre.length : Int)) v ∧ v ≤ n ∧ (¬ v < 0 → (∀ x ∈ suf, x.length ≤ 1048576) ∧ v + totL suf ≤ n) := by
  induction suf with
  | nil =>
    intro pre n _ _ _ _
    refine ⟨n, ev_step (f := fun _ => some _) (Ev.now _) (fun k => ?_), Int.le_refl _, fun _ => ⟨fun x hx => absurd hx List.not_mem_nil, by rw [totL]; omega⟩⟩
    rw [laws_szIntSS.l0, if_neg (by simp)]
  | cons x suf ih =>
    intro pre n hl h0 h1 hx
    have hl' : (pre.length : Int) < ((pre ++ x :: suf).length : Int) := by simp; omega
    have hw : wrap64 ((pre.length : Int) + 1) = (pre.length : Int) + 1 := wrapS (by omega) (by simp at hl; omega)
    have hxx := hx x List.mem_cons_self
    by_cases c : n < (x.length : Int)
    · refine ⟨-1, ev_step (f := fun _ => some _) (Ev.now _) (fun k => ?_), by omega, fun h => absurd (by decide) h⟩
      rw [laws_szIntSS.l0, if_pos hl', if_pos (by omega), rdII_mid, szIntS_out x n h0 (by omega) c]
      simp only [Option.bind_some]
      rw [if_pos (by decide)]
    · obtain ⟨v, hv, hvn, hb⟩ := ih (pre ++ [x]) (n - x.length) (by simp at hl ⊢; omega) (by omega) (by omega) (fun y hy => hx y (List.mem_cons_of_mem _ hy))
      rw [snoc_app, snoc_leni] at hv
      refine ⟨v, ev_step hv (fun k => ?_), by omega, fun h => ⟨fun y hy => ?_, by have := (hb h).2; rw [totL]; omega⟩⟩
      · rw [laws_szIntSS.l0, if_pos hl', if_pos (by omega), rdII_mid, szIntS_in x n (by omega) (by omega)]
        simp only [Option.bind_some]
        rw [if_neg (by omega), hw]
      · rcases List.mem_cons.1 hy with rfl | hy
        · omega
        · exact (hb h).1 y hy
theorem szIntSS_ok (l : List (List Int)) (n : Int) (h0 : 0 ≤ n) (h1 : n ≤ 1048576) (hl : l.length ≤ 140737488351232) (hw : ∀ x ∈ l, x.length ≤ 140737488351232) :
    ∃ v, Ev (fun k => laws_szIntSS.f k l n) v ∧ v ≤ n ∧ (¬ v < 0 → l.length ≤ 1048576 ∧ (∀ x ∈ l, x.length ≤ 1048576) ∧ totL l ≤ n) := by
  have hwr : wrap64 (n - (l.length : Int)) = n - (l.length : Int) := wrapS (by omega) (by omega)
  by_cases c : n - (l.length : Int) < 0
  · refine ⟨-1, Ev.congr (f := fun _ => some _) (fun k => ?_) (Ev.now _), by omega, fun h => absurd (by decide) h⟩
    rw [laws_szIntSS.f, hwr, if_pos c]
  · obtain ⟨v, hv, hvn, hb⟩ := szIntSS_l0 l [] (n - l.length) (by simp; omega) (by omega) (by omega) hw
    refine ⟨v, Ev.congr (fun k => ?_) hv, by omega, fun h => ⟨by omega, (hb h).1, by have := (hb h).2; omega⟩⟩
    rw [laws_szIntSS.f, hwr, if_neg c]
    rfl

/-! marks of rows of rows of ints -/
def tot : List (List Int) → Int
  | [] => 0
  | x :: l => (x.length : Int) + tot l
theorem tot_nn (l : List (List Int)) : 0 ≤ tot l := by
  induction l with
  | nil => exact Int.le_refl _
  | cons x l ih => rw [tot]; omega
def marksSS : List (List Int) → Int → List (List Int)
  | [], _ => []
  | x :: l, a => countUp a x.length :: marksSS l (a + x.length)
theorem marksSS_len (l : List (List Int)) : ∀ a, (marksSS l a).length = l.length := by
  induction l with
  | nil => intro a; rfl
  | cons x l ih => intro a; simp [marksSS, ih]
theorem markIntSS_l0 (suf : List (List Int)) : ∀ (pre : List (List Int)) (a : Int), (pre ++ suf).length ≤ 9000000 → 0 ≤ a → a + tot suf ≤ 20000000 → (∀ x ∈ suf, x.length ≤ 9000000) →
    Ev (fun k => laws_markIntSS.l0 k (pre ++ suf) a (pre.length : Int)) (a + tot suf, pre ++ marksSS suf a) := by
  induction suf with
  | nil =>
    intro pre a _ _ _ _
    refine ev_step (f := fun _ => some _) (Ev.now _) (fun k => ?_)
    rw [laws_markIntSS.l0, if_neg (by simp)]; simp [tot, marksSS]
  | cons x suf ih =>
    intro pre a hl h0 h1 hx
    rw [tot] at h1
    have ht := tot_nn suf
    have hlp : pre.length + 1 ≤ 9000000 := by simp at hl; omega
    have hl' : (pre.length : Int) < ((pre ++ x :: suf).length : Int) := by simp; omega
    have hw : wrap64 ((pre.length : Int) + 1) = (pre.length : Int) + 1 := wrapS (by omega) (by omega)
    have hg : (pre ++ x :: suf).getD ((pre.length : Int)).toNat [] = x := getD_mid _ _ _ _ _ (by simp)
    have hs : ∀ y, (pre ++ x :: suf).set ((pre.length : Int)).toNat y = pre ++ y :: suf := fun y => set_mid _ _ _ _ _ (by simp)
    obtain ⟨K1, e1⟩ := markIntS_marks x a (by have := hx x List.mem_cons_self; omega) h0 (by omega)
    have h := ih (pre ++ [countUp a x.length]) (a + x.length) (by simp at hl ⊢; omega) (by omega) (by omega) (fun y hy => hx y (List.mem_cons_of_mem _ hy))
    rw [snoc_app, snoc_app, snoc_leni] at h
    obtain ⟨K2, e2⟩ := h
    dsimp only at e1 e2
    have et : a + tot (x :: suf) = a + (x.length : Int) + tot suf := by rw [tot]; omega
    refine ⟨K1 + K2 + 1, fun k hk => ?_⟩
    obtain ⟨m, rfl⟩ : ∃ m, k = m + 1 := ⟨k - 1, by omega⟩
    dsimp only
    rw [laws_markIntSS.l0, if_pos hl', if_pos (by omega), hg, e1 m (by omega)]
    simp only [Option.bind_some]
    rw [hs, hw, e2 m (by omega), et]; rfl
theorem markIntSS_all (l : List (List Int)) (a : Int) (hl : l.length ≤ 9000000) (h0 : 0 ≤ a) (h1 : a + tot l ≤ 20000000) (hx : ∀ x ∈ l, x.length ≤ 9000000) : Ev (fun k => laws_markIntSS.f k l a) (a + tot l, marksSS l a) :=
  Ev.congr (f := fun k => laws_markIntSS.l0 k l a 0) (fun _ => rfl) (by simpa using markIntSS_l0 l [] a (by simpa using hl) h0 h1 hx)

/-! all states that are written -/
theorem rd_get (l : List Int) (j : Nat) (h : j < l.length) : l[j]? = some (rd l (j : Int)) := by
  rw [rd_nat l j h, List.getElem?_eq_getElem h]
theorem goSt_all (nx : List Int) (hn : nx.length = 15) (d : Nat) : ∀ (i : Nat) (x : List Int), i + d = 16 → 1 ≤ i → x.length = 15 → (∀ j, 1 ≤ j → j < i → j < 15 → x[j]? = nx[j]?) → (i = 16 → x[0]? = nx[0]?) → goSt nx d (i : Int) x = nx := by
  induction d with
  | zero =>
    intro i x hi h1 hx hj h0
    rw [goSt]
    refine List.ext_getElem? (fun j => ?_)
    rcases Nat.lt_or_ge j 15 with h | h
    · rcases Nat.eq_zero_or_pos j with rfl | hp
      · exact h0 (by omega)
      · exact hj j hp (by omega) h
    · rw [List.getElem?_eq_none (by omega), List.getElem?_eq_none (by omega)]
  | succ d ih =>
    intro i x hi h1 hx hj h0
    have e : ((i + 1 : Nat) : Int) = (i : Int) + 1 := by simp
    rw [goSt, ← e]
    refine ih (i + 1) _ (by omega) (by omega) (by rw [put1_len]; exact hx) (fun j hj1 hj2 hj3 => ?_) (fun hi2 => ?_)
    · unfold put1
      rw [if_neg (by omega)]
      by_cases c : (i : Int) < 15
      · rw [if_pos c, Int.toNat_natCast, List.getElem?_set]
        by_cases q : i = j
        · subst q
          rw [if_pos rfl, if_pos (by omega), rd_get nx i (by omega)]
        · rw [if_neg q]; exact hj j hj1 (by omega) hj3
      · rw [if_neg c, List.getElem?_set, if_neg (by omega)]
        exact hj j hj1 (by omega) hj3
    · unfold put1
      rw [if_neg (by omega), if_neg (by omega), List.getElem?_set, if_pos rfl, if_pos (by omega)]
      exact (rd_get nx 0 (by omega)).symm
theorem goSt16 (nx x : List Int) (hn : nx.length = 15) (hx : x.length = 15) : goSt nx 16 0 x = nx := by
  rw [goSt]
  have h := goSt_all nx hn 15 1 (put1 nx 0 x) rfl (by omega) (by rw [put1_len]; exact hx) (fun j h1 h2 _ => by omega) (fun h => by omega)
  simpa using h
theorem sum_bound (l : List Int) : ∀ (i s : Int), (∀ x ∈ l, 0 ≤ x ∧ x ≤ 9999) → 0 ≤ i → i + l.length ≤ 100 → 0 ≤ s → s ≤ 1000000000 - 2000000 * l.length → 0 ≤ impl_areaOf.sum i l s := by
  induction l with
  | nil => intro i s _ _ _ h _; exact h
  | cons x l ih =>
    intro i s hx h0 h1 h2 h3
    simp only [List.length_cons] at h1 h3
    obtain ⟨x0, x1⟩ := hx x List.mem_cons_self
    have m0 : 0 ≤ (i + 3) * x := Int.mul_nonneg (by omega) x0
    have m1 : (i + 3) * x ≤ 103 * 9999 := Int.mul_le_mul (by omega) x1 x0 (by omega)
    have w1 : wrap64 ((i + 3) * x) = (i + 3) * x := wrapS (by omega) (by omega)
    have w2 : wrap64 (s + (i + 3) * x) = s + (i + 3) * x := wrapS (by omega) (by omega)
    rw [impl_areaOf.sum, w1, w2]
    exact ih (i + 1) _ (fun y hy => hx y (List.mem_cons_of_mem _ hy)) (by omega) (by omega) (by omega) (by omega)
theorem mk_area (g : Int) (l : List Int) (h0 : 0 ≤ g) (h1 : g ≤ 9999) (h : stateOk l = true) : areaOk (mk g l) = true := by
  have ls := state_len h
  have hl : ∀ x ∈ l, 0 ≤ x ∧ x ≤ 9999 := fun x hx => by
    unfold stateOk at h
    have := of_decide_eq_true (List.all_eq_true.1 (Bool.and_eq_true_iff.1 h).1 x hx)
    omega
  have hb : ∀ x ∈ impl_areaOf.body g l, 0 ≤ x ∧ x ≤ 9999 := fun x hx => by
    unfold impl_areaOf.body at hx
    rcases List.mem_cons.1 hx with rfl | hx
    · exact ⟨h0, h1⟩
    rcases List.mem_cons.1 hx with rfl | hx
    · omega
    rcases List.mem_append.1 hx with hx | hx
    · exact hl x hx
    · have := List.eq_of_mem_replicate hx; omega
  have hs := sum_bound (impl_areaOf.body g l) 0 0 hb (by omega) (by rw [body_len g l ls]; omega) (by omega) (by rw [body_len g l ls]; omega)
  have t0 := Int.tmod_nonneg 9973 hs
  have t1 := Int.tmod_lt_of_pos (impl_areaOf.sum 0 (impl_areaOf.body g l) 0) (show (0 : Int) < 9973 by omega)
  unfold areaOk
  rw [Bool.and_eq_true_iff]
  refine ⟨List.all_eq_true.2 (fun x hx => decide_eq_true ?_), decide_eq_true (mk_len g l ls)⟩
  unfold mk at hx
  rcases List.mem_append.1 hx with hx | hx
  · exact hb x hx
  · rw [List.mem_singleton.1 hx]; omega
theorem mk_head (g : Int) (l : List Int) : rd (mk g l) 0 = g := rfl
theorem readA_le (a : List Int) (h : areaOk a = true) : (readA a).1 ≤ rd a 0 := by
  have h0 := (area_rd h 0 (by omega)).1
  by_cases c : 1 ≤ rd a 0 ∧ rd a 0 ≤ 999 ∧ rd a 1 ≤ 12 ∧ stateOk (held a) = true ∧ mk (rd a 0) (held a) = a
  · rw [readA_yes c]; exact Int.le_refl _
  · rw [readA_no c]; simpa using h0
theorem newA_le (a b : List Int) (m : Int) (ha : areaOk a = true) (hb : areaOk b = true) (h1 : rd a 0 ≤ m) (h2 : rd b 0 ≤ m) (h3 : 0 ≤ m) : 0 ≤ (newA a b).2.1 ∧ (newA a b).2.1 ≤ m := by
  have r1 := readA_le a ha
  have r2 := readA_le b hb
  have g1 := (readA_gen a).1
  have g2 := (readA_gen b).1
  by_cases c : (readA a).1 = 0 ∧ (readA b).1 = 0
  · rw [newA_none c.1 c.2]; exact ⟨Int.le_refl _, h3⟩
  · by_cases d : (readA a).1 ≥ (readA b).1
    · rw [newA_fst c d]; simp only; omega
    · rw [newA_snd c d]; simp only; omega
theorem core_next (a b st : List Int) (m : Int) (ha : areaOk a = true) (hb : areaOk b = true) (h1 : rd a 0 ≤ m) (h2 : rd b 0 ≤ m) (h3 : 0 ≤ m) (h4 : m ≤ 100) (hs : stateOk st = true) :
    ∃ a' b', core a b st 16 = (a', b', true) ∧ areaOk a' = true ∧ areaOk b' = true ∧ rd a' 0 ≤ m + 1 ∧ rd b' 0 ≤ m + 1 := by
  obtain ⟨n0, n1⟩ := newA_le a b m ha hb h1 h2 h3
  have ls := state_len hs
  have hw : wrap64 ((newA a b).2.1 + 1) = (newA a b).2.1 + 1 := wrapS (by omega) (by omega)
  have hm := mk_area ((newA a b).2.1 + 1) st (by omega) (by omega) hs
  have ht : (16 : Int).toNat = 16 := rfl
  unfold core
  rw [if_neg (by omega), hw, ht]
  by_cases d : (newA a b).1 = 0
  · rw [if_pos d, goSt16 _ _ (mk_len _ _ ls) (area_len hb)]
    exact ⟨_, _, rfl, ha, hm, by omega, by rw [mk_head]; omega⟩
  · rw [if_neg d, goSt16 _ _ (mk_len _ _ ls) (area_len ha)]
    exact ⟨_, _, rfl, hm, hb, by rw [mk_head]; omega, by omega⟩
def allR : List (List Int) → List Int → List Int → List Int × List Int × Bool
  | [], a, b => (a, b, true)
  | st :: r, a, b => if stateOk st = true then allR r (core a b st 16).1 (core a b st 16).2.1 else ([], [], false)
theorem allR_len (l : List (List Int)) : ∀ (a b : List Int) (m : Int), areaOk a = true → areaOk b = true → rd a 0 ≤ m → rd b 0 ≤ m → 0 ≤ m → m + l.length ≤ 60 → (allR l a b).1.length ≤ 15 ∧ (allR l a b).2.1.length ≤ 15 := by
  induction l with
  | nil => intro a b m ha hb _ _ _ _; rw [allR]; have := area_len ha; have := area_len hb; simp only; omega
  | cons st l ih =>
    intro a b m ha hb h1 h2 h3 h4
    simp only [List.length_cons] at h4
    rw [allR]
    by_cases c : stateOk st = true
    · rw [if_pos c]
      obtain ⟨a', b', e, ha', hb', g1, g2⟩ := core_next a b st m ha hb h1 h2 h3 (by omega) c
      rw [e]
      exact ih a' b' (m + 1) ha' hb' g1 g2 (by omega) (by omega)
    · rw [if_neg c]; simp
theorem specAll_l0 (suf : List (List Int)) : ∀ (pre : List (List Int)) (a b : List Int) (m : Int), (pre ++ suf).length ≤ 40 → areaOk a = true → areaOk b = true → rd a 0 ≤ m → rd b 0 ≤ m → 0 ≤ m → m + suf.length ≤ 60 → (∀ x ∈ suf, x.length ≤ 1048576) →
    Ev (fun k => spec_WriteAll.l0 k a b (pre ++ suf) ((pre ++ suf).length : Int) (pre.length : Int)) (allR suf a b) := by
  induction suf with
  | nil =>
    intro pre a b m hl _ _ _ _ _ _ _
    refine ev_step (f := fun _ => some _) (Ev.now _) (fun k => ?_)
    rw [spec_WriteAll.l0, if_neg (by simp)]; rfl
  | cons st suf ih =>
    intro pre a b m hl ha hb h1 h2 h3 h4 hx
    simp only [List.length_cons] at h4
    have hlp : pre.length + 1 ≤ 40 := by simp at hl; omega
    have hl' : (pre.length : Int) < ((pre ++ st :: suf).length : Int) := by simp; omega
    have hw : wrap64 ((pre.length : Int) + 1) = (pre.length : Int) + 1 := wrapS (by omega) (by omega)
    obtain ⟨K1, e1⟩ := jrState_ok st (by have := hx st List.mem_cons_self; omega)
    dsimp only at e1
    by_cases c : stateOk st = true
    · obtain ⟨K2, e2⟩ := jrWrite_ok a b st 16 ha hb c (by omega) (by omega)
      obtain ⟨a', b', e, ha', hb', g1, g2⟩ := core_next a b st m ha hb h1 h2 h3 (by omega) c
      have h := ih (pre ++ [st]) a' b' (m + 1) (by simp at hl ⊢; omega) ha' hb' g1 g2 (by omega) (by omega) (fun y hy => hx y (List.mem_cons_of_mem _ hy))
      rw [snoc_app, snoc_leni] at h
      obtain ⟨K3, e3⟩ := h
      dsimp only at e2 e3
      refine ⟨K1 + K2 + K3 + 1, fun k hk => ?_⟩
      obtain ⟨k2, rfl⟩ : ∃ z, k = z + 1 := ⟨k - 1, by omega⟩
      dsimp only
      rw [spec_WriteAll.l0, if_pos hl', if_pos (by omega), if_pos hl', rdII_mid, e1 k2 (by omega)]
      simp only [Option.bind_some]
      rw [if_pos c, e2 k2 (by omega), e]
      simp only [Option.bind_some]
      rw [hw, e3 k2 (by omega), allR, if_pos c, e]
    · refine ⟨K1 + 1, fun k hk => ?_⟩
      obtain ⟨k2, rfl⟩ : ∃ z, k = z + 1 := ⟨k - 1, by omega⟩
      dsimp only
      rw [spec_WriteAll.l0, if_pos hl', if_pos (by omega), if_pos hl', rdII_mid, e1 k2 (by omega)]
      simp only [Option.bind_some]
      rw [if_neg c, allR, if_neg c]
theorem implAll_l0 (suf : List (List Int)) : ∀ (pre : List (List Int)) (a b : List Int) (m : Int), (pre ++ suf).length ≤ 40 → areaOk a = true → areaOk b = true → rd a 0 ≤ m → rd b 0 ≤ m → 0 ≤ m → m + suf.length ≤ 60 → (∀ x ∈ suf, x.length ≤ 1048576) →
    Ev (fun k => impl_WriteAll.l0 k a b (pre ++ suf) ((pre ++ suf).length : Int) (pre.length : Int)) (allR suf a b) := by
  induction suf with
  | nil =>
    intro pre a b m hl _ _ _ _ _ _ _
    refine ev_step (f := fun _ => some _) (Ev.now _) (fun k => ?_)
    rw [impl_WriteAll.l0, if_neg (by simp)]; rfl
  | cons st suf ih =>
    intro pre a b m hl ha hb h1 h2 h3 h4 hx
    simp only [List.length_cons] at h4
    have hlp : pre.length + 1 ≤ 40 := by simp at hl; omega
    have hl' : (pre.length : Int) < ((pre ++ st :: suf).length : Int) := by simp; omega
    have hw : wrap64 ((pre.length : Int) + 1) = (pre.length : Int) + 1 := wrapS (by omega) (by omega)
    obtain ⟨K1, e1⟩ := isState_ok st (by have := hx st List.mem_cons_self; omega)
    dsimp only at e1
    by_cases c : stateOk st = true
    · obtain ⟨K2, e2⟩ := writeSteps_ok a b st 16 ha hb c (by omega) (by omega)
      obtain ⟨a', b', e, ha', hb', g1, g2⟩ := core_next a b st m ha hb h1 h2 h3 (by omega) c
      have h := ih (pre ++ [st]) a' b' (m + 1) (by simp at hl ⊢; omega) ha' hb' g1 g2 (by omega) (by omega) (fun y hy => hx y (List.mem_cons_of_mem _ hy))
      rw [snoc_app, snoc_leni] at h
      obtain ⟨K3, e3⟩ := h
      dsimp only at e2 e3
      refine ⟨K1 + K2 + K3 + 1, fun k hk => ?_⟩
      obtain ⟨k2, rfl⟩ : ∃ z, k = z + 1 := ⟨k - 1, by omega⟩
      dsimp only
      rw [impl_WriteAll.l0, if_pos hl', if_pos (by omega), if_pos hl', rdII_mid, e1 k2 (by omega)]
      simp only [Option.bind_some]
      rw [if_pos c, e2 k2 (by omega), e]
      simp only [Option.bind_some]
      rw [hw, e3 k2 (by omega), allR, if_pos c, e]
    · refine ⟨K1 + 1, fun k hk => ?_⟩
      obtain ⟨k2, rfl⟩ : ∃ z, k = z + 1 := ⟨k - 1, by omega⟩
      dsimp only
      rw [impl_WriteAll.l0, if_pos hl', if_pos (by omega), if_pos hl', rdII_mid, e1 k2 (by omega)]
      simp only [Option.bind_some]
      rw [if_neg c, allR, if_neg c]
theorem zero_area : areaOk (List.replicate 15 0) = true := by decide
theorem zero_head : rd (List.replicate 15 0) 0 ≤ 0 := by decide
def writeAllR (l : List (List Int)) : List Int × List Int × Bool := if (l.length : Int) > 40 then ([], [], false) else allR l (List.replicate 15 0) (List.replicate 15 0)
theorem writeAllR_len (l : List (List Int)) : (writeAllR l).1.length ≤ 15 ∧ (writeAllR l).2.1.length ≤ 15 := by
  unfold writeAllR
  by_cases c : (l.length : Int) > 40
  · rw [if_pos c]; simp
  · rw [if_neg c]; exact allR_len l _ _ 0 zero_area zero_area zero_head zero_head (by omega) (by omega)
theorem specAll_ok (l : List (List Int)) (hx : ∀ x ∈ l, x.length ≤ 1048576) : Ev (fun k => spec_WriteAll.f k l) (writeAllR l) := by
  unfold writeAllR
  by_cases c : (l.length : Int) > 40
  · refine Ev.congr (f := fun _ => some _) (fun k => ?_) (Ev.now _)
    rw [spec_WriteAll.f, if_pos (by decide), if_pos c, if_pos c]
  · rw [if_neg c]
    have h := specAll_l0 l [] (List.replicate 15 0) (List.replicate 15 0) 0 (by simp; omega) zero_area zero_area zero_head zero_head (by omega) (by omega) hx
    simp only [List.nil_append, List.length_nil, Int.natCast_zero] at h
    refine Ev.congr (fun k => ?_) h
    rw [spec_WriteAll.f, if_pos (by decide), if_neg c]
theorem implAll_ok (l : List (List Int)) (hx : ∀ x ∈ l, x.length ≤ 1048576) : Ev (fun k => impl_WriteAll.f k l) (writeAllR l) := by
  unfold writeAllR
  by_cases c : (l.length : Int) > 40
  · refine Ev.congr (f := fun _ => some _) (fun k => ?_) (Ev.now _)
    rw [impl_WriteAll.f, if_pos c, if_pos c]
  · rw [if_neg c]
    have h := implAll_l0 l [] (List.replicate 15 0) (List.replicate 15 0) 0 (by simp; omega) zero_area zero_area zero_head zero_head (by omega) (by omega) hx
    simp only [List.nil_append, List.length_nil, Int.natCast_zero] at h
    refine Ev.congr (fun k => ?_) h
    rw [impl_WriteAll.f, if_neg c, if_pos (by decide)]
theorem tot_L (l : List (List Int)) : tot l = totL l := by
  induction l with
  | nil => rfl
  | cons x l ih => rw [tot, totL, ih]
theorem FnExactWriteAll (s : List (List Int)) (hsb : s.length * 24 ≤ 140737488351232) (hsw : ∀ y ∈ s, (y.length * 8 ≤ 140737488351232) ∧ ∀ z ∈ y, (Lit.int .i64 z).wf = true) : ∃ k, laws_FnExactWriteAll.f k s = some true := by
  obtain ⟨v, ⟨K0, e0⟩, hvn, hv⟩ := szIntSS_ok s 1048576 (by omega) (by omega) (by omega) (fun x hx => by have := (hsw x hx).1; omega)
  dsimp only at e0
  by_cases d : v < 0
  · exact ⟨K0, by simp (disch := omega) only [laws_FnExactWriteAll.f, e0, Option.bind_some, d, if_true, if_false]⟩
  obtain ⟨hs, hx, hT⟩ := hv d
  have hx3 : ∀ x ∈ s, x.length ≤ 9000000 := fun x h => by have := hx x h; omega
  have hT2 : tot s ≤ 1048576 := by rw [tot_L]; exact hT
  have hnn := tot_nn s
  obtain ⟨hr1, hr2⟩ := writeAllR_len s
  obtain ⟨K1, e1⟩ := toIntSS_copy s hs hx
  obtain ⟨K2, e2⟩ := specAll_ok s hx
  obtain ⟨K3, e3⟩ := implAll_ok s hx
  obtain ⟨K4, e4⟩ := eqIntS_same (writeAllR s).1 (by omega)
  obtain ⟨K5, e5⟩ := eqIntS_same (writeAllR s).2.1 (by omega)
  obtain ⟨K6, e6⟩ := eqIntSS_same s hs hx
  obtain ⟨K7, e7⟩ := markIntSS_all s 1 (by omega) (by omega) (by omega) hx3
  obtain ⟨K8, e8⟩ := markIntS_marks (writeAllR s).1 1 (by omega) (by omega) (by omega)
  obtain ⟨K9, e9⟩ := markIntS_marks (writeAllR s).2.1 (1 + ((writeAllR s).1.length : Int)) (by omega) (by omega) (by omega)
  obtain ⟨K10, e10⟩ := heldIntS_marked (writeAllR s).1.length 1 (by omega) (by omega) (by omega)
  obtain ⟨K11, e11⟩ := heldIntS_marked (writeAllR s).2.1.length (1 + ((writeAllR s).1.length : Int)) (by omega) (by omega) (by omega)
  have n0 : ¬ (1 + tot s) < 0 := by omega
  have n1 : ¬ (1 + ((writeAllR s).1.length : Int)) < 0 := by omega
  have n2 : ¬ (1 + ((writeAllR s).1.length : Int) + ((writeAllR s).2.1.length : Int)) < 0 := by omega
  dsimp only at e1 e2 e3 e4 e5 e6 e7 e8 e9 e10 e11
  refine ⟨K0 + K1 + K2 + K3 + K4 + K5 + K6 + K7 + K8 + K9 + K10 + K11 + 6, ?_⟩
  simp (disch := omega) only [laws_FnExactWriteAll.f, d, n0, n1, n2, e0, e1, e2, e3, e4, e5, e6, e7, e8, e9, e10, e11, if_false, if_true, Option.bind_some, bnot_ne, Bool.false_eq_true]
  simp (disch := omega) only [laws_FnExactWriteAll.j0, d, n0, n1, n2, e0, e1, e2, e3, e4, e5, e6, e7, e8, e9, e10, e11, if_false, if_true, Option.bind_some, bnot_ne, Bool.false_eq_true]
  simp (disch := omega) only [laws_FnExactWriteAll.j1, d, n0, n1, n2, e0, e1, e2, e3, e4, e5, e6, e7, e8, e9, e10, e11, if_false, if_true, Option.bind_some, bnot_ne, Bool.false_eq_true]
  simp (disch := omega) only [laws_FnExactWriteAll.j2, d, n0, n1, n2, e0, e1, e2, e3, e4, e5, e6, e7, e8, e9, e10, e11, if_false, if_true, Option.bind_some, bnot_ne, Bool.false_eq_true]

end Go.Proofs.Ytockbgeloiekdaa.LWriteAll
