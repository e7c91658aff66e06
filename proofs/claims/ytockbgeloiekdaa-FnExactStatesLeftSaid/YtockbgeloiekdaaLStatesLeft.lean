/- For every input the law FnExactStatesLeft answers true, after some number of rounds; the conditions are the input's own bounds. -/
import Derived.Test.YtockbgeloiekdaaQFnExactStatesLeftx4
import Derived.Test.YtockbgeloiekdaaBase
namespace Go.Proofs.Ytockbgeloiekdaa.LStatesLeft
open Go Go.RowKit Go.Proofs.Ytockbgeloiekdaa.QFnExactStatesLeft Go.Proofs.YtockbgeloiekdaaW.PrintWords Go.Proofs.YtockbgeloiekdaaW.PrintLast Go.Proofs.YtockbgeloiekdaaW.PrintMore Go.Proofs.Ytockbgeloiekdaa.Base
set_option linter.unusedVariables false
set_option linter.unusedSimpArgs false

/-! slices of ints: copied, held against each other, marked -/
theorem eqIntS_l0 (suf : List Int) : ∀ pre : List Int, (pre ++ suf).length ≤ 9223372036854775806 → Ev (fun k => laws_eqIntS.l0 k (pre ++ suf) (pre ++ suf) (pre.length : Int)) true := by
  induction suf with
  | nil =>
    intro pre _
    refine ev_step ev_const (fun k => ?_)
    rw [laws_eqIntS.l0, if_neg (by simp)]
  | cons x suf ih =>
    intro pre hl
    have h := ih (pre ++ [x]) (by simp at hl ⊢; omega)
    rw [snoc_app, snoc_leni] at h
    have hl' : (pre.length : Int) < ((pre ++ x :: suf).length : Int) := by simp; omega
    refine ev_step h (fun k => ?_)
    rw [laws_eqIntS.l0, if_pos hl', if_pos (by omega), if_pos hl', if_pos rfl, wrapS (by omega) (by simp at hl; omega)]

theorem eqIntS_same (l : List Int) (h : l.length ≤ 9223372036854775806) : Ev (fun k => laws_eqIntS.f k l l) true := by
  have := eqIntS_l0 l [] (by simpa using h)
  refine Ev.congr (fun k => ?_) this
  simp [laws_eqIntS.f]

theorem toIntS_l0 (suf : List Int) : ∀ pre : List Int, (pre ++ suf).length ≤ 9223372036854775806 → Ev (fun k => laws_toIntS.l0 k (pre ++ suf) (pre ++ List.replicate suf.length 0) (pre.length : Int)) (pre ++ suf) := by
  induction suf with
  | nil =>
    intro pre _
    refine ev_step ev_const (fun k => ?_)
    rw [laws_toIntS.l0, if_neg (by simp)]
    simp
  | cons x suf ih =>
    intro pre hl
    have h := ih (pre ++ [x]) (by simp at hl ⊢; omega)
    rw [snoc_app, snoc_app, snoc_leni] at h
    have hl' : (pre.length : Int) < ((pre ++ x :: suf).length : Int) := by simp; omega
    refine ev_step h (fun k => ?_)
    rw [laws_toIntS.l0, if_pos hl', if_pos (by omega), if_pos (by simp; omega), rd_mid, wrapS (by omega) (by simp at hl; omega), List.length_cons, List.replicate_succ, set_mid _ _ _ _ _ (by simp)]

theorem toIntS_copy (l : List Int) (h : l.length ≤ 1048576) : Ev (fun k => laws_toIntS.f k l) l := by
  have := toIntS_l0 l [] (by simp; omega)
  refine Ev.congr (fun k => ?_) this
  rw [laws_toIntS.f, if_pos (by omega), if_pos (by omega)]
  simp

/-! all numbers of a list lie in a range -/
theorem l1All_l0 (lo hi : Int) (suf : List Int) : ∀ pre : List Int, (pre ++ suf).length ≤ 9223372036854775806 →
    Ev (fun k => spec_l1All.l0 k lo hi (pre ++ suf) ((pre ++ suf).length : Int) (pre.length : Int)) (suf.all fun x => decide (lo ≤ x ∧ x ≤ hi)) := by
  induction suf with
  | nil =>
    intro pre _
    refine ev_step (Ev.now _) (fun k => ?_)
    rw [spec_l1All.l0, if_neg (by simp)]
    rfl
  | cons x suf ih =>
    intro pre hl
    have h := ih (pre ++ [x]) (by simp at hl ⊢; omega)
    rw [snoc_app, snoc_leni] at h
    have hl' : (pre.length : Int) < ((pre ++ x :: suf).length : Int) := by simp; omega
    have hw : wrap64 ((pre.length : Int) + 1) = (pre.length : Int) + 1 := wrapS (by omega) (by simp at hl; omega)
    by_cases h1 : lo ≤ x ∧ x ≤ hi
    · refine ev_step (ev_eq h (by simp [h1])) (fun k => ?_)
      rw [spec_l1All.l0, if_pos hl', if_pos (by omega), if_pos hl', rd_mid, hw]
      simp [spec_l1In.f, h1]
    · refine ev_step (f := fun _ => some _) (Ev.now _) (fun k => ?_)
      rw [spec_l1All.l0, if_pos hl', if_pos (by omega), if_pos hl', rd_mid, hw]
      by_cases h2 : lo ≤ x
      · have h3 : ¬ x ≤ hi := fun h3 => h1 ⟨h2, h3⟩
        simp [spec_l1In.f, h2, h3]
      · simp [spec_l1In.f, h2]
theorem l1All_ok (l : List Int) (lo hi : Int) (h : l.length ≤ 9223372036854775806) : Ev (fun k => spec_l1All.f k l lo hi) (l.all fun x => decide (lo ≤ x ∧ x ≤ hi)) :=
  Ev.congr (fun _ => rfl) (l1All_l0 lo hi l [] (by simpa using h))

/-! a state -/
def stateOk (l : List Int) : Bool := (l.all fun x => decide (0 ≤ x ∧ x ≤ 999)) && decide (l.length ≤ 12)
theorem jrState_ok (l : List Int) (h : l.length ≤ 9223372036854775806) : Ev (fun k => spec_jrState.f k l) (stateOk l) := by
  by_cases h2 : l.length ≤ 12
  · refine Ev.congr (fun k => ?_) (ev_eq (l1All_ok l 0 999 h) ?_)
    · rw [spec_jrState.f, if_pos (by omega)]; simp
    · simp [stateOk, h2]
  · refine Ev.congr (f := fun _ => some (stateOk l)) (fun k => ?_) (Ev.now _)
    rw [spec_jrState.f, if_neg (by omega)]
    simp [stateOk, h2]
theorem isState_l0 (l : List Int) (suf : List Int) : ∀ pre : List Int, (pre ++ suf).length ≤ 9223372036854775806 →
    Ev (fun k => impl_IsState.l0 k l (pre ++ suf) ((pre ++ suf).length : Int) (pre.length : Int)) ((suf.all fun x => decide (0 ≤ x ∧ x ≤ 999)) && decide (l.length ≤ 12)) := by
  induction suf with
  | nil =>
    intro pre _
    refine ev_step (f := fun _ => some _) (Ev.now _) (fun k => ?_)
    rw [impl_IsState.l0, if_neg (by simp)]
    have e : decide ((l.length : Int) ≤ 12) = decide (l.length ≤ 12) := by
      by_cases h : l.length ≤ 12
      · simp [h]; omega
      · simp [h]; omega
    rw [e]; simp
  | cons x suf ih =>
    intro pre hl
    have h := ih (pre ++ [x]) (by simp at hl ⊢; omega)
    rw [snoc_app, snoc_leni] at h
    have hl' : (pre.length : Int) < ((pre ++ x :: suf).length : Int) := by simp; omega
    have hw : wrap64 ((pre.length : Int) + 1) = (pre.length : Int) + 1 := wrapS (by omega) (by simp at hl; omega)
    by_cases h1 : 0 ≤ x ∧ x ≤ 999
    · refine ev_step (ev_eq h (by simp [h1])) (fun k => ?_)
      rw [impl_IsState.l0, if_pos hl', if_pos (by omega), if_pos hl', rd_mid, hw, if_neg (by omega), if_neg (by omega)]
    · refine ev_step (f := fun _ => some _) (Ev.now _) (fun k => ?_)
      rw [impl_IsState.l0, if_pos hl', if_pos (by omega), if_pos hl', rd_mid, hw]
      by_cases h2 : x < 0
      · rw [if_pos h2]; simp [show ¬ 0 ≤ x by omega]
      · rw [if_neg h2, if_pos (by omega)]; simp [show ¬ x ≤ 999 by omega]
theorem isState_ok (l : List Int) (h : l.length ≤ 9223372036854775806) : Ev (fun k => impl_IsState.f k l) (stateOk l) :=
  Ev.congr (fun _ => rfl) (isState_l0 l l [] (by simpa using h))

/-! an area -/
def areaOk (l : List Int) : Bool := (l.all fun x => decide (0 ≤ x ∧ x ≤ 9999)) && decide (l.length = 15)
theorem jrArea_ok (l : List Int) (h : l.length ≤ 9223372036854775806) : Ev (fun k => spec_jrArea.f k l) (areaOk l) := by
  by_cases h2 : l.length = 15
  · refine Ev.congr (fun k => ?_) (ev_eq (l1All_ok l 0 9999 h) ?_)
    · rw [spec_jrArea.f, if_pos (by omega)]; simp
    · simp [areaOk, h2]
  · refine Ev.congr (f := fun _ => some (areaOk l)) (fun k => ?_) (Ev.now _)
    rw [spec_jrArea.f, if_neg (by omega)]
    simp [areaOk, h2]
theorem isArea_l0 (l : List Int) (suf : List Int) : ∀ pre : List Int, (pre ++ suf).length ≤ 9223372036854775806 →
    Ev (fun k => impl_isArea.l0 k l (pre ++ suf) ((pre ++ suf).length : Int) (pre.length : Int)) ((suf.all fun x => decide (0 ≤ x ∧ x ≤ 9999)) && decide (l.length = 15)) := by
  induction suf with
  | nil =>
    intro pre _
    refine ev_step (f := fun _ => some _) (Ev.now _) (fun k => ?_)
    rw [impl_isArea.l0, if_neg (by simp)]
    have e : ((l.length : Int) == 15) = decide (l.length = 15) := by
      by_cases h : l.length = 15
      · simp [h]
      · simp [h]; omega
    rw [e]; simp
  | cons x suf ih =>
    intro pre hl
    have h := ih (pre ++ [x]) (by simp at hl ⊢; omega)
    rw [snoc_app, snoc_leni] at h
    have hl' : (pre.length : Int) < ((pre ++ x :: suf).length : Int) := by simp; omega
    have hw : wrap64 ((pre.length : Int) + 1) = (pre.length : Int) + 1 := wrapS (by omega) (by simp at hl; omega)
    by_cases h1 : 0 ≤ x ∧ x ≤ 9999
    · refine ev_step (ev_eq h (by simp [h1])) (fun k => ?_)
      rw [impl_isArea.l0, if_pos hl', if_pos (by omega), if_pos hl', rd_mid, hw, if_neg (by omega), if_neg (by omega)]
    · refine ev_step (f := fun _ => some _) (Ev.now _) (fun k => ?_)
      rw [impl_isArea.l0, if_pos hl', if_pos (by omega), if_pos hl', rd_mid, hw]
      by_cases h2 : x < 0
      · rw [if_pos h2]; simp [show ¬ 0 ≤ x by omega]
      · rw [if_neg h2, if_pos (by omega)]; simp [show ¬ x ≤ 9999 by omega]
theorem isArea_ok (l : List Int) (h : l.length ≤ 9223372036854775806) : Ev (fun k => impl_isArea.f k l) (areaOk l) :=
  Ev.congr (fun _ => rfl) (isArea_l0 l l [] (by simpa using h))
theorem l1Own_ok (l : List Int) (h : l.length ≤ 1048576000) : spec_l1Own.f l = some l := by
  unfold spec_l1Own.f
  simp only [Option.bind_some, List.length_nil, List.nil_append]
  rw [if_pos (by omega)]
theorem area_len {l : List Int} (h : areaOk l = true) : l.length = 15 := by
  simp only [areaOk, Bool.and_eq_true, decide_eq_true_eq] at h; exact h.2

/-! the area of a state, and what an area holds -/
theorem sum_same (l : List Int) : ∀ i s, spec_jrCheck.sum i l s = impl_areaOf.sum i l s := by
  induction l with
  | nil => intro i s; rfl
  | cons x l ih => intro i s; simp only [spec_jrCheck.sum, impl_areaOf.sum, ih]
def mk (g : Int) (l : List Int) : List Int := impl_areaOf.body g l ++ [Int.tmod (impl_areaOf.sum 0 (impl_areaOf.body g l) 0) 9973]
theorem body_len (g : Int) (l : List Int) (h : l.length ≤ 12) : (impl_areaOf.body g l).length = 14 := by
  simp [impl_areaOf.body]; omega
theorem mk_len (g : Int) (l : List Int) (h : l.length ≤ 12) : (mk g l).length = 15 := by
  simp [mk, body_len g l h]
theorem areaOf_ok (g : Int) (l : List Int) (h : l.length ≤ 12) : impl_areaOf.f g l = some (mk g l) := by
  rw [impl_areaOf.f, if_pos h]; rfl

theorem jrMake_l0 (g : Int) (suf : List Int) : ∀ pre : List Int, (pre ++ suf).length ≤ 12 →
    Ev (fun k => spec_jrMake.l0 k (g :: ((pre ++ suf).length : Int) :: (pre ++ List.replicate (13 - pre.length) 0)) (pre ++ suf) ((pre ++ suf).length : Int) (pre.length : Int)) (mk g (pre ++ suf)) := by
  induction suf with
  | nil =>
    intro pre hl
    refine ev_step (f := fun _ => some _) (Ev.now _) (fun k => ?_)
    simp only [List.append_nil] at hl ⊢
    have e : g :: (pre.length : Int) :: (pre ++ List.replicate (13 - pre.length) 0) = impl_areaOf.body g pre ++ [0] := by
      rw [show 13 - pre.length = (12 - pre.length) + 1 by omega, List.replicate_succ']
      simp [impl_areaOf.body]
    have hb := body_len g pre hl
    rw [spec_jrMake.l0, if_neg (by omega), e, spec_jrCheck.f, if_pos (by simp [hb])]
    simp only [Option.bind_some]
    rw [if_pos (by simp [hb]), sum_same]
    have e1 : (impl_areaOf.body g pre ++ [0]).take 14 = impl_areaOf.body g pre := by
      rw [List.take_append_of_le_length (by omega), List.take_of_length_le (by omega)]
    rw [e1]
    congr 1
    rw [mk]
    exact set_mid _ [] _ _ _ hb.symm
  | cons x suf ih =>
    intro pre hl
    have hl2 : pre.length + suf.length + 1 ≤ 12 := by simp at hl; omega
    have h := ih (pre ++ [x]) (by simp; omega)
    rw [snoc_app, snoc_app, snoc_leni] at h
    have hl' : (pre.length : Int) < ((pre ++ x :: suf).length : Int) := by simp; omega
    have hw : wrap64 ((pre.length : Int) + 1) = (pre.length : Int) + 1 := wrapS (by omega) (by omega)
    have hw2 : wrap64 (2 + (pre.length : Int)) = 2 + (pre.length : Int) := wrapS (by omega) (by omega)
    refine ev_step h (fun k => ?_)
    rw [spec_jrMake.l0, if_pos hl', if_pos (by omega), if_pos hl', hw2, hw, if_pos (by omega), if_pos (by simp; omega), rd_mid]
    have e : (2 + (pre.length : Int)).toNat = pre.length + 1 + 1 := by omega
    rw [e, List.set_cons_succ, List.set_cons_succ, show 13 - pre.length = (13 - (pre ++ [x]).length) + 1 by simp; omega, List.replicate_succ, set_mid _ _ _ _ _ rfl]

theorem jrMake_ok (g : Int) (l : List Int) (h : l.length ≤ 12) : Ev (fun k => spec_jrMake.f k g l) (mk g l) := by
  have := jrMake_l0 g l [] (by simpa using h)
  refine Ev.congr (fun k => ?_) this
  rw [spec_jrMake.f, if_pos (by omega)]
  rfl

theorem l1Same_l0 (sa : List Int) : ∀ (sb pre : List Int), sa.length = sb.length → (pre ++ sa).length ≤ 1048576000 →
    Ev (fun k => spec_l1Same.l0 k (pre ++ sa) (pre ++ sb) ((pre ++ sa).length : Int) (pre.length : Int)) (decide (sa = sb)) := by
  induction sa with
  | nil =>
    intro sb pre hs hl
    cases sb with
    | cons y sb => simp at hs
    | nil =>
      refine ev_step (f := fun _ => some _) (Ev.now _) (fun k => ?_)
      rw [spec_l1Same.l0, if_neg (by simp)]
      simp
  | cons x sa ih =>
    intro sb pre hs hl
    cases sb with
    | nil => simp at hs
    | cons y sb =>
      have hl' : (pre.length : Int) < ((pre ++ x :: sa).length : Int) := by simp; omega
      have hl2 : (pre.length : Int) < ((pre ++ y :: sb).length : Int) := by simp; omega
      have hw : wrap64 ((pre.length : Int) + 1) = (pre.length : Int) + 1 := wrapS (by omega) (by simp at hl; omega)
      by_cases h : x = y
      · subst h
        have h1 := ih sb (pre ++ [x]) (by simpa using hs) (by simp at hl ⊢; omega)
        rw [snoc_app, snoc_app, snoc_leni] at h1
        refine ev_step (ev_eq h1 (by simp)) (fun k => ?_)
        rw [spec_l1Same.l0, if_pos hl', if_pos (by omega), if_pos hl', if_pos hl2, rd_mid, rd_mid, if_pos rfl, hw]
      · refine ev_step (f := fun _ => some _) (Ev.now _) (fun k => ?_)
        rw [spec_l1Same.l0, if_pos hl', if_pos (by omega), if_pos hl', if_pos hl2, rd_mid, rd_mid, if_neg h]
        simp [h]
theorem l1Same_ok (a b : List Int) (h : a.length ≤ 1048576000) : Ev (fun k => spec_l1Same.f k a b) (decide (a = b)) := by
  by_cases hs : a.length = b.length
  · refine Ev.congr (fun k => ?_) (l1Same_l0 a b [] hs (by simpa using h))
    rw [spec_l1Same.f, if_pos (by omega)]
    rfl
  · refine Ev.congr (f := fun _ => some _) (fun k => ?_) (Ev.now _)
    rw [spec_l1Same.f, if_neg (by omega)]
    have : a ≠ b := fun e => hs (by rw [e])
    simp [this]
theorem equal_l0 (sa : List Int) : ∀ (sb pre : List Int), sa.length = sb.length → (pre ++ sa).length ≤ 1048576000 →
    Ev (fun k => slices_Equal_int_int.l0 k (pre ++ sa) (pre ++ sb) ((pre ++ sa).length : Int) (pre.length : Int)) (decide (sa = sb)) := by
  induction sa with
  | nil =>
    intro sb pre hs hl
    cases sb with
    | cons y sb => simp at hs
    | nil =>
      refine ev_step (f := fun _ => some _) (Ev.now _) (fun k => ?_)
      rw [slices_Equal_int_int.l0, if_neg (by simp)]
      simp
  | cons x sa ih =>
    intro sb pre hs hl
    cases sb with
    | nil => simp at hs
    | cons y sb =>
      have hl' : (pre.length : Int) < ((pre ++ x :: sa).length : Int) := by simp; omega
      have hl2 : (pre.length : Int) < ((pre ++ y :: sb).length : Int) := by simp; omega
      have hw : wrap64 ((pre.length : Int) + 1) = (pre.length : Int) + 1 := wrapS (by omega) (by simp at hl; omega)
      by_cases h : x = y
      · subst h
        have h1 := ih sb (pre ++ [x]) (by simpa using hs) (by simp at hl ⊢; omega)
        rw [snoc_app, snoc_app, snoc_leni] at h1
        refine ev_step (ev_eq h1 (by simp)) (fun k => ?_)
        rw [slices_Equal_int_int.l0, if_pos hl', if_pos (by omega), if_pos hl', if_pos hl2, rd_mid, rd_mid, if_pos rfl, hw]
      · refine ev_step (f := fun _ => some _) (Ev.now _) (fun k => ?_)
        rw [slices_Equal_int_int.l0, if_pos hl', if_pos (by omega), if_pos hl', if_pos hl2, rd_mid, rd_mid, if_neg h]
        simp [h]
theorem equal_ok (a b : List Int) (h : a.length ≤ 1048576000) : Ev (fun k => slices_Equal_int_int.f k a b) (decide (a = b)) := by
  by_cases hs : a.length = b.length
  · refine Ev.congr (fun k => ?_) (equal_l0 a b [] hs (by simpa using h))
    rw [slices_Equal_int_int.f, if_pos (by omega)]
    rfl
  · refine Ev.congr (f := fun _ => some _) (fun k => ?_) (Ev.now _)
    rw [slices_Equal_int_int.f, if_neg (by omega)]
    have : a ≠ b := fun e => hs (by rw [e])
    simp [this]

/-- The numbers behind the head of an area. -/
def held (a : List Int) : List Int := (a.take (2 + rd a 1).toNat).drop 2
/-- The generation (0: not whole) and the state of an area. -/
def readA (a : List Int) : Int × List Int :=
  if 1 ≤ rd a 0 ∧ rd a 0 ≤ 999 ∧ rd a 1 ≤ 12 ∧ stateOk (held a) = true ∧ mk (rd a 0) (held a) = a then (rd a 0, held a) else (0, [])
theorem readA_yes {a : List Int} (h : 1 ≤ rd a 0 ∧ rd a 0 ≤ 999 ∧ rd a 1 ≤ 12 ∧ stateOk (held a) = true ∧ mk (rd a 0) (held a) = a) : readA a = (rd a 0, held a) := if_pos h
theorem readA_no {a : List Int} (h : (1 ≤ rd a 0 ∧ rd a 0 ≤ 999 ∧ rd a 1 ≤ 12 ∧ stateOk (held a) = true ∧ mk (rd a 0) (held a) = a) → False) : readA a = (0, []) := if_neg h
theorem area_rd {a : List Int} (h : areaOk a = true) (i : Nat) (hi : i < 15) : 0 ≤ rd a (i : Int) ∧ rd a (i : Int) ≤ 9999 := by
  have hl := area_len h
  rw [rd_nat a i (by omega)]
  simp only [areaOk, Bool.and_eq_true, List.all_eq_true, decide_eq_true_eq] at h
  exact h.1 _ (List.getElem_mem _)
theorem state_len {l : List Int} (h : stateOk l = true) : l.length ≤ 12 := by
  simp only [stateOk, Bool.and_eq_true, decide_eq_true_eq] at h; exact h.2
theorem held_len (a : List Int) : (held a).length ≤ a.length := by
  unfold held; simp; omega

theorem jrRead_ok (a : List Int) (h : areaOk a = true) : Ev (fun k => spec_jrRead.f k a) ((readA a).1, (readA a).2, decide ((readA a).1 > 0)) := by
  have hl := area_len h
  have h0 := area_rd h 0 (by omega)
  have h1 := area_rd h 1 (by omega)
  simp only [Int.ofNat_zero, Int.natCast_one, Int.natCast_zero, Int.ofNat_one] at h0 h1
  have hw : wrap64 (2 + rd a 1) = 2 + rd a 1 := wrapS (by omega) (by omega)
  have J1 : ∀ b, b = true → Ev (fun k => spec_jrRead.j0 k a b) (0, [], false) := by
    intro b hb
    refine ev_step (f := fun _ => some _) (Ev.now _) (fun k => ?_)
    rw [spec_jrRead.j0, if_pos hb]
  by_cases g : 1 ≤ rd a 0 ∧ rd a 0 ≤ 999
  · have eg : spec_jrGeneration.f (rd a 0) = some true := by simp [spec_jrGeneration.f, spec_l1In.f, g.1, g.2]
    by_cases n : rd a 1 ≤ 12
    · have J0 : Ev (fun k => spec_jrRead.j0 k a false) ((readA a).1, (readA a).2, decide ((readA a).1 > 0)) := by
        have hh := held_len a
        obtain ⟨K1, e1⟩ := jrState_ok (held a) (by omega)
        dsimp only at e1
        by_cases s : stateOk (held a) = true
        · have hs := state_len s
          obtain ⟨K2, e2⟩ := jrMake_ok (rd a 0) (held a) hs
          obtain ⟨K3, e3⟩ := l1Same_ok (mk (rd a 0) (held a)) a (by rw [mk_len _ _ hs]; omega)
          dsimp only at e2 e3
          refine ⟨K1 + K2 + K3 + 2, fun k hk => ?_⟩
          obtain ⟨m, rfl⟩ : ∃ m, k = m + 1 := ⟨k - 1, by omega⟩
          dsimp only
          rw [spec_jrRead.j0, if_neg (by decide), if_pos (by omega), hw, if_pos (by omega), if_pos (by omega), show (a.take (2 + rd a 1).toNat).drop 2 = held a from rfl, l1Own_ok _ (by omega)]
          simp only [Option.bind_some]
          rw [e1 m (by omega), s]
          simp only [Option.bind_some, if_true]
          rw [if_pos (by omega), e2 m (by omega)]
          simp only [Option.bind_some]
          rw [e3 m (by omega)]
          simp only [Option.bind_some]
          by_cases q : mk (rd a 0) (held a) = a
          · rw [readA_yes ⟨g.1, g.2, n, s, q⟩]
            simp [q, show rd a 0 > 0 by omega]
          · rw [readA_no (fun x => q x.2.2.2.2)]
            simp [q]
        · refine ⟨K1 + 2, fun k hk => ?_⟩
          obtain ⟨m, rfl⟩ : ∃ m, k = m + 1 := ⟨k - 1, by omega⟩
          dsimp only
          rw [spec_jrRead.j0, if_neg (by decide), if_pos (by omega), hw, if_pos (by omega), if_pos (by omega), show (a.take (2 + rd a 1).toNat).drop 2 = held a from rfl, l1Own_ok _ (by omega)]
          simp only [Option.bind_some]
          rw [e1 m (by omega), readA_no (fun x => s x.2.2.2.1)]
          simp [s]
      refine Ev.congr (fun k => ?_) J0
      rw [spec_jrRead.f, if_pos (by omega), eg]
      simp only [Option.bind_some, if_true]
      rw [if_pos (by omega)]
      simp [show ¬ rd a 1 > 12 by omega]
    · refine Ev.congr (fun k => ?_) (ev_eq (J1 true rfl) ?_)
      · rw [spec_jrRead.f, if_pos (by omega), eg]
        simp only [Option.bind_some, if_true]
        rw [if_pos (by omega)]
        simp [show rd a 1 > 12 by omega]
      · rw [readA_no (fun x => n x.2.2.1)]; simp
  · have eg : spec_jrGeneration.f (rd a 0) = some false := by
      by_cases g1 : 1 ≤ rd a 0
      · have g2 : ¬ rd a 0 ≤ 999 := fun g2 => g ⟨g1, g2⟩
        simp [spec_jrGeneration.f, spec_l1In.f, g1, g2]
      · simp [spec_jrGeneration.f, spec_l1In.f, g1]
    refine Ev.congr (fun k => ?_) (ev_eq (J1 true rfl) ?_)
    · rw [spec_jrRead.f, if_pos (by omega), eg]
      simp
    · rw [readA_no (fun x => g ⟨x.1, x.2.1⟩)]; simp

theorem readArea_ok (a : List Int) (h : areaOk a = true) : Ev (fun k => impl_readArea.f k a) (readA a) := by
  have hl := area_len h
  have h0 := area_rd h 0 (by omega)
  have h1 := area_rd h 1 (by omega)
  simp only [Int.ofNat_zero, Int.natCast_one, Int.natCast_zero, Int.ofNat_one] at h0 h1
  have hw : wrap64 (2 + rd a 1) = 2 + rd a 1 := wrapS (by omega) (by omega)
  have J1 : ∀ b, b = true → Ev (fun k => impl_readArea.j0 k a b) (0, []) := by
    intro b hb
    refine ev_step (f := fun _ => some _) (Ev.now _) (fun k => ?_)
    rw [impl_readArea.j0, if_pos hb]
  by_cases g1 : rd a 0 < 1
  · refine Ev.congr (fun k => ?_) (ev_eq (J1 true rfl) ?_)
    · rw [impl_readArea.f, if_pos (by omega), if_pos g1]
    · rw [readA_no (fun x => by omega)]
  by_cases g2 : rd a 0 > 999
  · refine Ev.congr (fun k => ?_) (ev_eq (J1 true rfl) ?_)
    · rw [impl_readArea.f, if_pos (by omega), if_neg g1, if_pos g2]
    · rw [readA_no (fun x => by omega)]
  by_cases n : rd a 1 ≤ 12
  · have J0 : Ev (fun k => impl_readArea.j0 k a false) (readA a) := by
      have hh := held_len a
      obtain ⟨K1, e1⟩ := isState_ok (held a) (by omega)
      dsimp only at e1
      have ec : slices_Clone_int_int.f (held a) = some (held a) := by rw [slices_Clone_int_int.f, if_pos (by omega)]
      by_cases s : stateOk (held a) = true
      · have hs := state_len s
        obtain ⟨K3, e3⟩ := equal_ok (mk (rd a 0) (held a)) a (by rw [mk_len _ _ hs]; omega)
        dsimp only at e3
        refine ⟨K1 + K3 + 2, fun k hk => ?_⟩
        obtain ⟨m, rfl⟩ : ∃ m, k = m + 1 := ⟨k - 1, by omega⟩
        dsimp only
        rw [impl_readArea.j0, if_neg (by decide), if_pos (by omega), hw, if_pos (by omega), if_pos (by omega), show (a.take (2 + rd a 1).toNat).drop 2 = held a from rfl, ec]
        simp only [Option.bind_some]
        rw [e1 m (by omega), s]
        simp only [Option.bind_some, if_true]
        rw [if_pos (by omega), areaOf_ok _ _ hs]
        simp only [Option.bind_some]
        rw [e3 m (by omega)]
        simp only [Option.bind_some]
        by_cases q : mk (rd a 0) (held a) = a
        · rw [readA_yes ⟨by omega, by omega, n, s, q⟩]
          simp [q]
        · rw [readA_no (fun x => q x.2.2.2.2)]
          simp [q]
      · refine ⟨K1 + 2, fun k hk => ?_⟩
        obtain ⟨m, rfl⟩ : ∃ m, k = m + 1 := ⟨k - 1, by omega⟩
        dsimp only
        rw [impl_readArea.j0, if_neg (by decide), if_pos (by omega), hw, if_pos (by omega), if_pos (by omega), show (a.take (2 + rd a 1).toNat).drop 2 = held a from rfl, ec]
        simp only [Option.bind_some]
        rw [e1 m (by omega), readA_no (fun x => s x.2.2.2.1)]
        simp [s]
    refine Ev.congr (fun k => ?_) J0
    rw [impl_readArea.f, if_pos (by omega), if_neg g1, if_neg g2, if_pos (by omega)]
    simp [show ¬ rd a 1 > 12 by omega]
  · refine Ev.congr (fun k => ?_) (ev_eq (J1 true rfl) ?_)
    · rw [impl_readArea.f, if_pos (by omega), if_neg g1, if_neg g2, if_pos (by omega)]
      simp [show rd a 1 > 12 by omega]
    · rw [readA_no (fun x => n x.2.2.1)]
theorem readA_len (a : List Int) : (readA a).2.length ≤ a.length := by
  have := held_len a
  unfold readA; split
  · exact this
  · simp

/-! two areas -/
theorem jrTwo_ok (a b : List Int) (ha : a.length ≤ 1048576) (hb : b.length ≤ 1048576) : Ev (fun k => spec_jrTwo.f k a b) (areaOk a && areaOk b) := by
  refine Ev.bind (jrArea_ok a (by omega)) ?_
  cases s : areaOk a with
  | false => exact ev_of_eq (fun _ => by simp)
  | true =>
    simp only [if_true]
    exact Ev.bind (jrArea_ok b (by omega)) (ev_of_eq (fun _ => by simp))

/-! how many of two areas hold a state -/
def leftR (a b : List Int) : Int × Bool := if (areaOk a && areaOk b) = true then ((if (readA a).1 > 0 then (1 : Int) else 0) + (if (readA b).1 > 0 then (1 : Int) else 0), true) else (0, false)
theorem specLeft_ok (a b : List Int) (ha : a.length ≤ 1048576) (hb : b.length ≤ 1048576) : Ev (fun k => spec_StatesLeft.f k a b) (leftR a b) := by
  refine Ev.bind (jrTwo_ok a b ha hb) ?_
  unfold leftR
  by_cases c : (areaOk a && areaOk b) = true
  · obtain ⟨ca, cb⟩ := Bool.and_eq_true_iff.1 c
    simp only [c, if_true]
    refine Ev.bind (jrRead_ok a ca) (Ev.bind (jrRead_ok b cb) (ev_of_eq (fun _ => ?_)))
    simp only [decide_eq_true_eq]
  · simp only [c, Bool.false_eq_true, if_false]; exact ev_const
theorem implLeft_ok (a b : List Int) (ha : a.length ≤ 1048576) (hb : b.length ≤ 1048576) : Ev (fun k => impl_StatesLeft.f k a b) (leftR a b) := by
  refine Ev.bind (isArea_ok a (by omega)) ?_
  unfold leftR
  cases ca : areaOk a with
  | false => simp only [Bool.false_and, Bool.false_eq_true, if_false]; exact ev_const
  | true =>
    simp only [Bool.true_and, if_true]
    refine Ev.bind (isArea_ok b (by omega)) ?_
    cases cb : areaOk b with
    | false => simp only [Bool.false_eq_true, if_false]; exact ev_const
    | true =>
      simp only [if_true]
      exact Ev.bind (readArea_ok a ca) (Ev.bind (readArea_ok b cb) ev_const)
theorem FnExactStatesLeft (a : List Int) (b : List Int) (_ha : a.length * 8 ≤ 140737488351232) (_ga : ∀ y ∈ a, (Lit.int .i64 y).wf = true) (_hb : b.length * 8 ≤ 140737488351232) (_gb : ∀ y ∈ b, (Lit.int .i64 y).wf = true) : ∃ k, laws_FnExactStatesLeft.f k a b = some true := by
  by_cases ca : (a.length : Int) > 1048576
  · exact ⟨0, by rw [laws_FnExactStatesLeft.f, if_pos ca]⟩
  by_cases cb : (b.length : Int) > 1048576
  · exact ⟨0, by rw [laws_FnExactStatesLeft.f, if_neg ca, if_pos cb]⟩
  obtain ⟨K1, e1⟩ := toIntS_copy a (by omega)
  obtain ⟨K2, e2⟩ := eqIntS_same a (by omega)
  obtain ⟨K3, e3⟩ := toIntS_copy b (by omega)
  obtain ⟨K4, e4⟩ := eqIntS_same b (by omega)
  obtain ⟨K5, e5⟩ := specLeft_ok a b (by omega) (by omega)
  obtain ⟨K6, e6⟩ := implLeft_ok a b (by omega) (by omega)
  dsimp only at e1 e2 e3 e4 e5 e6
  refine ⟨K1 + K2 + K3 + K4 + K5 + K6 + 6, ?_⟩
  simp (disch := omega) only [laws_FnExactStatesLeft.f, e1, e2, e3, e4, e5, e6, ca, cb, if_false, if_true, Option.bind_some, bnot_ne, Bool.false_eq_true]
  simp (disch := omega) only [laws_FnExactStatesLeft.j0, e1, e2, e3, e4, e5, e6, ca, cb, if_false, if_true, Option.bind_some, bnot_ne, Bool.false_eq_true]

end Go.Proofs.Ytockbgeloiekdaa.LStatesLeft
