/- Plain lemmas on what the printed functions of this law compute; each with the conditions that it names. -/
import Derived.Test.YtlbbkepkincleaaQFnAreasx1
import Derived.Test.YtlbbkepkincleaaQFnAreasx2
import Derived.Test.YtlbbkepkincleaaQFnAreasx3
import Derived.Test.YtlbbkepkincleaaQFnAreasx4
import Derived.Test.YtlbbkepkincleaaQFnAreasx5
import Derived.Test.YtlbbkepkincleaaQFnAreasx6
import Derived.Test.YtlbbkepkincleaaQFnAreasx7
import Derived.Test.YtlbbkepkincleaaQFnAreasx8
import Derived.Test.YtlbbkepkincleaaBaseFnAreas
import Derived.Laws.Bits64b
namespace Go.Proofs.Ytlbbkepkincleaa.LFnAreasD
open Go Go.RowKit Go.Proofs.Ytlbbkepkincleaa.QFnAreas Go.Proofs.YtlbbkepkincleaaW.PrintWords Go.Proofs.YtlbbkepkincleaaW.PrintLast Go.Proofs.YtlbbkepkincleaaW.PrintMore Go.Proofs.Ytlbbkepkincleaa.Base
set_option linter.unusedVariables false
set_option linter.unusedSimpArgs false

/-! all numbers of a list lie in a range -/
theorem l1All_l0 (lo hi : Int) (suf : List Int) : ∀ pre : List Int, (pre ++ suf).length ≤ 9223372036854775806 →
    Ev (fun k => spec_l1All.l0 k lo hi (pre ++ suf) ((pre ++ suf).length : Int) (pre.length : Int)) (suf.all fun x => decide (lo ≤ x ∧ x ≤ hi)) := by
  induction suf with
  | nil =>
    intro pre _
    refine ev_step (Ev.now _) (fun k => ?_)
    rw [spec_l1All.l0, if_neg (by simp)]
    rfl
  | cons x suf ih =>
    intro pre hl
    have h := ih (pre ++ [x]) (by simp at hl ⊢; omega)
    rw [snoc_app, snoc_leni] at h
    have hl' : (pre.length : Int) < ((pre ++ x :: suf).length : Int) := by simp; omega
    have hw : wrap64 ((pre.length : Int) + 1) = (pre.length : Int) + 1 := wrapS (by omega) (by simp at hl; omega)
    by_cases h1 : lo ≤ x ∧ x ≤ hi
    · refine ev_step (ev_eq h (by simp [h1])) (fun k => ?_)
      rw [spec_l1All.l0, if_pos hl', if_pos (by omega), if_pos hl', rd_mid, hw]
      simp [spec_l1In.f, h1]
    · refine ev_step (f := fun _ => some _) (Ev.now _) (fun k => ?_)
      rw [spec_l1All.l0, if_pos hl', if_pos (by omega), if_pos hl', rd_mid, hw]
      by_cases h2 : lo ≤ x
      · have h3 : ¬ x ≤ hi := fun h3 => h1 ⟨h2, h3⟩
        simp [spec_l1In.f, h2, h3]
      · simp [spec_l1In.f, h2]
theorem l1All_ok (l : List Int) (lo hi : Int) (h : l.length ≤ 9223372036854775806) : Ev (fun k => spec_l1All.f k l lo hi) (l.all fun x => decide (lo ≤ x ∧ x ≤ hi)) :=
  Ev.congr (fun _ => rfl) (l1All_l0 lo hi l [] (by simpa using h))

/-! a state -/
def stateOk (l : List Int) : Bool := (l.all fun x => decide (0 ≤ x ∧ x ≤ 999)) && decide (l.length ≤ 12)
theorem jrState_ok (l : List Int) (h : l.length ≤ 9223372036854775806) : Ev (fun k => spec_jrState.f k l) (stateOk l) := by
  by_cases h2 : l.length ≤ 12
  · refine Ev.congr (fun k => ?_) (ev_eq (l1All_ok l 0 999 h) ?_)
    · rw [spec_jrState.f, if_pos (by omega)]; simp
    · simp [stateOk, h2]
  · refine Ev.congr (f := fun _ => some (stateOk l)) (fun k => ?_) (Ev.now _)
    rw [spec_jrState.f, if_neg (by omega)]
    simp [stateOk, h2]
theorem isState_l0 (l : List Int) (suf : List Int) : ∀ pre : List Int, (pre ++ suf).length ≤ 9223372036854775806 →
    Ev (fun k => impl_IsState.l0 k l (pre ++ suf) ((pre ++ suf).length : Int) (pre.length : Int)) ((suf.all fun x => decide (0 ≤ x ∧ x ≤ 999)) && decide (l.length ≤ 12)) := by
  induction suf with
  | nil =>
    intro pre _
    refine ev_step (f := fun _ => some _) (Ev.now _) (fun k => ?_)
    rw [impl_IsState.l0, if_neg (by simp)]
    have e : decide ((l.length : Int) ≤ 12) = decide (l.length ≤ 12) := by
      by_cases h : l.length ≤ 12
      · simp [h]; omega
      · simp [h]; omega
    rw [e]; simp
  | cons x suf ih =>
    intro pre hl
    have h := ih (pre ++ [x]) (by simp at hl ⊢; omega)
    rw [snoc_app, snoc_leni] at h
    have hl' : (pre.length : Int) < ((pre ++ x :: suf).length : Int) := by simp; omega
    have hw : wrap64 ((pre.length : Int) + 1) = (pre.length : Int) + 1 := wrapS (by omega) (by simp at hl; omega)
    by_cases h1 : 0 ≤ x ∧ x ≤ 999
    · refine ev_step (ev_eq h (by simp [h1])) (fun k => ?_)
      rw [impl_IsState.l0, if_pos hl', if_pos (by omega), if_pos hl', rd_mid, hw, if_neg (by omega), if_neg (by omega)]
    · refine ev_step (f := fun _ => some _) (Ev.now _) (fun k => ?_)
      rw [impl_IsState.l0, if_pos hl', if_pos (by omega), if_pos hl', rd_mid, hw]
      by_cases h2 : x < 0
      · rw [if_pos h2]; simp [show ¬ 0 ≤ x by omega]
      · rw [if_neg h2, if_pos (by omega)]; simp [show ¬ x ≤ 999 by omega]
theorem isState_ok (l : List Int) (h : l.length ≤ 9223372036854775806) : Ev (fun k => impl_IsState.f k l) (stateOk l) :=
  Ev.congr (fun _ => rfl) (isState_l0 l l [] (by simpa using h))

/-! an area -/
def areaOk (l : List Int) : Bool := (l.all fun x => decide (0 ≤ x ∧ x ≤ 9999)) && decide (l.length = 15)
theorem jrArea_ok (l : List Int) (h : l.length ≤ 9223372036854775806) : Ev (fun k => spec_jrArea.f k l) (areaOk l) := by
  by_cases h2 : l.length = 15
  · refine Ev.congr (fun k => ?_) (ev_eq (l1All_ok l 0 9999 h) ?_)
    · rw [spec_jrArea.f, if_pos (by omega)]; simp
    · simp [areaOk, h2]
  · refine Ev.congr (f := fun _ => some (areaOk l)) (fun k => ?_) (Ev.now _)
    rw [spec_jrArea.f, if_neg (by omega)]
    simp [areaOk, h2]
theorem isArea_l0 (l : List Int) (suf : List Int) : ∀ pre : List Int, (pre ++ suf).length ≤ 9223372036854775806 →
    Ev (fun k => impl_isArea.l0 k l (pre ++ suf) ((pre ++ suf).length : Int) (pre.length : Int)) ((suf.all fun x => decide (0 ≤ x ∧ x ≤ 9999)) && decide (l.length = 15)) := by
  induction suf with
  | nil =>
    intro pre _
    refine ev_step (f := fun _ => some _) (Ev.now _) (fun k => ?_)
    rw [impl_isArea.l0, if_neg (by simp)]
    have e : ((l.length : Int) == 15) = decide (l.length = 15) := by
      by_cases h : l.length = 15
      · simp [h]
      · simp [h]; omega
    rw [e]; simp
  | cons x suf ih =>
    intro pre hl
    have h := ih (pre ++ [x]) (by simp at hl ⊢; omega)
    rw [snoc_app, snoc_leni] at h
    have hl' : (pre.length : Int) < ((pre ++ x :: suf).length : Int) := by simp; omega
    have hw : wrap64 ((pre.length : Int) + 1) = (pre.length : Int) + 1 := wrapS (by omega) (by simp at hl; omega)
    by_cases h1 : 0 ≤ x ∧ x ≤ 9999
    · refine ev_step (ev_eq h (by simp [h1])) (fun k => ?_)
      rw [impl_isArea.l0, if_pos hl', if_pos (by omega), if_pos hl', rd_mid, hw, if_neg (by omega), if_neg (by omega)]
    · refine ev_step (f := fun _ => some _) (Ev.now _) (fun k => ?_)
      rw [impl_isArea.l0, if_pos hl', if_pos (by omega), if_pos hl', rd_mid, hw]
      by_cases h2 : x < 0
      · rw [if_pos h2]; simp [show ¬ 0 ≤ x by omega]
      · rw [if_neg h2, if_pos (by omega)]; simp [show ¬ x ≤ 9999 by omega]
theorem isArea_ok (l : List Int) (h : l.length ≤ 9223372036854775806) : Ev (fun k => impl_isArea.f k l) (areaOk l) :=
  Ev.congr (fun _ => rfl) (isArea_l0 l l [] (by simpa using h))
theorem l1Own_ok (l : List Int) (h : l.length ≤ 1048576000) : spec_l1Own.f l = some l := by
  unfold spec_l1Own.f
  simp only [Option.bind_some, List.length_nil, List.nil_append]
  rw [if_pos (by omega)]
theorem area_len {l : List Int} (h : areaOk l = true) : l.length = 15 := by
  simp only [areaOk, Bool.and_eq_true, decide_eq_true_eq] at h; exact h.2

/-! the area of a state, and what an area holds -/
theorem sum_same (l : List Int) : ∀ i s, spec_jrCheck.sum i l s = impl_areaOf.sum i l s := by
  induction l with
  | nil => intro i s; rfl
  | cons x l ih => intro i s; simp only [spec_jrCheck.sum, impl_areaOf.sum, ih]
def mk (g : Int) (l : List Int) : List Int := impl_areaOf.body g l ++ [Int.tmod (impl_areaOf.sum 0 (impl_areaOf.body g l) 0) 9973]
theorem body_len (g : Int) (l : List Int) (h : l.length ≤ 12) : (impl_areaOf.body g l).length = 14 := by
  simp [impl_areaOf.body]; omega
theorem mk_len (g : Int) (l : List Int) (h : l.length ≤ 12) : (mk g l).length = 15 := by
  simp [mk, body_len g l h]
theorem areaOf_ok (g : Int) (l : List Int) (h : l.length ≤ 12) : impl_areaOf.f g l = some (mk g l) := by
  rw [impl_areaOf.f, if_pos h]; rfl

theorem jrMake_l0 (g : Int) (suf : List Int) : ∀ pre : List Int, (pre ++ suf).length ≤ 12 →
    Ev (fun k => spec_jrMake.l0 k (g :: ((pre ++ suf).length : Int) :: (pre ++ List.replicate (13 - pre.length) 0)) (pre ++ suf) ((pre ++ suf).length : Int) (pre.length : Int)) (mk g (pre ++ suf)) := by
  induction suf with
  | nil =>
    intro pre hl
    refine ev_step (f := fun _ => some _) (Ev.now _) (fun k => ?_)
    simp only [List.append_nil] at hl ⊢
    have e : g :: (pre.length : Int) :: (pre ++ List.replicate (13 - pre.length) 0) = impl_areaOf.body g pre ++ [0] := by
      rw [show 13 - pre.length = (12 - pre.length) + 1 by omega, List.replicate_succ']
      simp [impl_areaOf.body]
    have hb := body_len g pre hl
    rw [spec_jrMake.l0, if_neg (by omega), e, spec_jrCheck.f, if_pos (by simp [hb])]
    simp only [Option.bind_some]
    rw [if_pos (by simp [hb]), sum_same]
    have e1 : (impl_areaOf.body g pre ++ [0]).take 14 = impl_areaOf.body g pre := by
      rw [List.take_append_of_le_length (by omega), List.take_of_length_le (by omega)]
    rw [e1]
    congr 1
    rw [mk]
    exact set_mid _ [] _ _ _ hb.symm
  | cons x suf ih =>
    intro pre hl
    have hl2 : pre.length + suf.length + 1 ≤ 12 := by simp at hl; omega
    have h := ih (pre ++ [x]) (by simp; omega)
    rw [snoc_app, snoc_app, snoc_leni] at h
    have hl' : (pre.length : Int) < ((pre ++ x :: suf).length : Int) := by simp; omega
    have hw : wrap64 ((pre.length : Int) + 1) = (pre.length : Int) + 1 := wrapS (by omega) (by omega)
    have hw2 : wrap64 (2 + (pre.length : Int)) = 2 + (pre.length : Int) := wrapS (by omega) (by omega)
    refine ev_step h (fun k => ?_)
    rw [spec_jrMake.l0, if_pos hl', if_pos (by omega), if_pos hl', hw2, hw, if_pos (by omega), if_pos (by simp; omega), rd_mid]
    have e : (2 + (pre.length : Int)).toNat = pre.length + 1 + 1 := by omega
    rw [e, List.set_cons_succ, List.set_cons_succ, show 13 - pre.length = (13 - (pre ++ [x]).length) + 1 by simp; omega, List.replicate_succ, set_mid _ _ _ _ _ rfl]

theorem jrMake_ok (g : Int) (l : List Int) (h : l.length ≤ 12) : Ev (fun k => spec_jrMake.f k g l) (mk g l) := by
  have := jrMake_l0 g l [] (by simpa using h)
  refine Ev.congr (fun k => ?_) this
  rw [spec_jrMake.f, if_pos (by omega)]
  rfl

theorem l1Same_l0 (sa : List Int) : ∀ (sb pre : List Int), sa.length = sb.length → (pre ++ sa).length ≤ 1048576000 →
    Ev (fun k => spec_l1Same.l0 k (pre ++ sa) (pre ++ sb) ((pre ++ sa).length : Int) (pre.length : Int)) (decide (sa = sb)) := by
  induction sa with
  | nil =>
    intro sb pre hs hl
    cases sb with
    | cons y sb => simp at hs
    | nil =>
      refine ev_step (f := fun _ => some _) (Ev.now _) (fun k => ?_)
      rw [spec_l1Same.l0, if_neg (by simp)]
      simp
  | cons x sa ih =>
    intro sb pre hs hl
    cases sb with
    | nil => simp at hs
    | cons y sb =>
      have hl' : (pre.length : Int) < ((pre ++ x :: sa).length : Int) := by simp; omega
      have hl2 : (pre.length : Int) < ((pre ++ y :: sb).length : Int) := by simp; omega
      have hw : wrap64 ((pre.length : Int) + 1) = (pre.length : Int) + 1 := wrapS (by omega) (by simp at hl; omega)
      by_cases h : x = y
      · subst h
        have h1 := ih sb (pre ++ [x]) (by simpa using hs) (by simp at hl ⊢; omega)
        rw [snoc_app, snoc_app, snoc_leni] at h1
        refine ev_step (ev_eq h1 (by simp)) (fun k => ?_)
        rw [spec_l1Same.l0, if_pos hl', if_pos (by omega), if_pos hl', if_pos hl2, rd_mid, rd_mid, if_pos rfl, hw]
      · refine ev_step (f := fun _ => some _) (Ev.now _) (fun k => ?_)
        rw [spec_l1Same.l0, if_pos hl', if_pos (by omega), if_pos hl', if_pos hl2, rd_mid, rd_mid, if_neg h]
        simp [h]
theorem l1Same_ok (a b : List Int) (h : a.length ≤ 1048576000) : Ev (fun k => spec_l1Same.f k a b) (decide (a = b)) := by
  by_cases hs : a.length = b.length
  · refine Ev.congr (fun k => ?_) (l1Same_l0 a b [] hs (by simpa using h))
    rw [spec_l1Same.f, if_pos (by omega)]
    rfl
  · refine Ev.congr (f := fun _ => some _) (fun k => ?_) (Ev.now _)
    rw [spec_l1Same.f, if_neg (by omega)]
    have : a ≠ b := fun e => hs (by rw [e])
    simp [this]
theorem equal_l0 (sa : List Int) : ∀ (sb pre : List Int), sa.length = sb.length → (pre ++ sa).length ≤ 1048576000 →
    Ev (fun k => slices_Equal_int_int.l0 k (pre ++ sa) (pre ++ sb) ((pre ++ sa).length : Int) (pre.length : Int)) (decide (sa = sb)) := by
  induction sa with
  | nil =>
    intro sb pre hs hl
    cases sb with
    | cons y sb => simp at hs
    | nil =>
      refine ev_step (f := fun _ => some _) (Ev.now _) (fun k => ?_)
      rw [slices_Equal_int_int.l0, if_neg (by simp)]
      simp
  | cons x sa ih =>
    intro sb pre hs hl
    cases sb with
    | nil => simp at hs
    | cons y sb =>
      have hl' : (pre.length : Int) < ((pre ++ x :: sa).length : Int) := by simp; omega
      have hl2 : (pre.length : Int) < ((pre ++ y :: sb).length : Int) := by simp; omega
      have hw : wrap64 ((pre.length : Int) + 1) = (pre.length : Int) + 1 := wrapS (by omega) (by simp at hl; omega)
      by_cases h : x = y
      · subst h
        have h1 := ih sb (pre ++ [x]) (by simpa using hs) (by simp at hl ⊢; omega)
        rw [snoc_app, snoc_app, snoc_leni] at h1
        refine ev_step (ev_eq h1 (by simp)) (fun k => ?_)
        rw [slices_Equal_int_int.l0, if_pos hl', if_pos (by omega), if_pos hl', if_pos hl2, rd_mid, rd_mid, if_pos rfl, hw]
      · refine ev_step (f := fun _ => some _) (Ev.now _) (fun k => ?_)
        rw [slices_Equal_int_int.l0, if_pos hl', if_pos (by omega), if_pos hl', if_pos hl2, rd_mid, rd_mid, if_neg h]
        simp [h]
theorem equal_ok (a b : List Int) (h : a.length ≤ 1048576000) : Ev (fun k => slices_Equal_int_int.f k a b) (decide (a = b)) := by
  by_cases hs : a.length = b.length
  · refine Ev.congr (fun k => ?_) (equal_l0 a b [] hs (by simpa using h))
    rw [slices_Equal_int_int.f, if_pos (by omega)]
    rfl
  · refine Ev.congr (f := fun _ => some _) (fun k => ?_) (Ev.now _)
    rw [slices_Equal_int_int.f, if_neg (by omega)]
    have : a ≠ b := fun e => hs (by rw [e])
    simp [this]

/-- The numbers behind the head of an area. -/
def held (a : List Int) : List Int := (a.take (2 + rd a 1).toNat).drop 2
/-- The generation (0: not whole) and the state of an area. -/
def readA (a : List Int) : Int × List Int :=
  if 1 ≤ rd a 0 ∧ rd a 0 ≤ 999 ∧ rd a 1 ≤ 12 ∧ stateOk (held a) = true ∧ mk (rd a 0) (held a) = a then (rd a 0, held a) else (0, [])
theorem readA_yes {a : List Int} (h : 1 ≤ rd a 0 ∧ rd a 0 ≤ 999 ∧ rd a 1 ≤ 12 ∧ stateOk (held a) = true ∧ mk (rd a 0) (held a) = a) : readA a = (rd a 0, held a) := if_pos h
theorem readA_no {a : List Int} (h : (1 ≤ rd a 0 ∧ rd a 0 ≤ 999 ∧ rd a 1 ≤ 12 ∧ stateOk (held a) = true ∧ mk (rd a 0) (held a) = a) → False) : readA a = (0, []) := if_neg h
theorem area_rd {a : List Int} (h : areaOk a = true) (i : Nat) (hi : i < 15) : 0 ≤ rd a (i : Int) ∧ rd a (i : Int) ≤ 9999 := by
  have hl := area_len h
  rw [rd_nat a i (by omega)]
  simp only [areaOk, Bool.and_eq_true, List.all_eq_true, decide_eq_true_eq] at h
  exact h.1 _ (List.getElem_mem _)
theorem state_len {l : List Int} (h : stateOk l = true) : l.length ≤ 12 := by
  simp only [stateOk, Bool.and_eq_true, decide_eq_true_eq] at h; exact h.2
theorem held_len (a : List Int) : (held a).length ≤ a.length := by
  unfold held; simp; omega

theorem jrRead_ok (a : List Int) (h : areaOk a = true) : Ev (fun k => spec_jrRead.f k a) ((readA a).1, (readA a).2, decide ((readA a).1 > 0)) := by
  have hl := area_len h
  have h0 := area_rd h 0 (by omega)
  have h1 := area_rd h 1 (by omega)
  simp only [Int.ofNat_zero, Int.natCast_one, Int.natCast_zero, Int.ofNat_one] at h0 h1
  have hw : wrap64 (2 + rd a 1) = 2 + rd a 1 := wrapS (by omega) (by omega)
  have J1 : ∀ b, b = true → Ev (fun k => spec_jrRead.j0 k a b) (0, [], false) := by
    intro b hb
    refine ev_step (f := fun _ => some _) (Ev.now _) (fun k => ?_)
    rw [spec_jrRead.j0, if_pos hb]
  by_cases g : 1 ≤ rd a 0 ∧ rd a 0 ≤ 999
  · have eg : spec_jrGeneration.f (rd a 0) = some true := by simp [spec_jrGeneration.f, spec_l1In.f, g.1, g.2]
    by_cases n : rd a 1 ≤ 12
    · have J0 : Ev (fun k => spec_jrRead.j0 k a false) ((readA a).1, (readA a).2, decide ((readA a).1 > 0)) := by
        have hh := held_len a
        obtain ⟨K1, e1⟩ := jrState_ok (held a) (by omega)
        dsimp only at e1
        by_cases s : stateOk (held a) = true
        · have hs := state_len s
          obtain ⟨K2, e2⟩ := jrMake_ok (rd a 0) (held a) hs
          obtain ⟨K3, e3⟩ := l1Same_ok (mk (rd a 0) (held a)) a (by rw [mk_len _ _ hs]; omega)
          dsimp only at e2 e3
          refine ⟨K1 + K2 + K3 + 2, fun k hk => ?_⟩
          obtain ⟨m, rfl⟩ : ∃ m, k = m + 1 := ⟨k - 1, by omega⟩
          dsimp only
          rw [spec_jrRead.j0, if_neg (by decide), if_pos (by omega), hw, if_pos (by omega), if_pos (by omega), show (a.take (2 + rd a 1).toNat).drop 2 = held a from rfl, l1Own_ok _ (by omega)]
          simp only [Option.bind_some]
          rw [e1 m (by omega), s]
          simp only [Option.bind_some, if_true]
          rw [if_pos (by omega), e2 m (by omega)]
          simp only [Option.bind_some]
          rw [e3 m (by omega)]
          simp only [Option.bind_some]
          by_cases q : mk (rd a 0) (held a) = a
          · rw [readA_yes ⟨g.1, g.2, n, s, q⟩]
            simp [q, show rd a 0 > 0 by omega]
          · rw [readA_no (fun x => q x.2.2.2.2)]
            simp [q]
        · refine ⟨K1 + 2, fun k hk => ?_⟩
          obtain ⟨m, rfl⟩ : ∃ m, k = m + 1 := ⟨k - 1, by omega⟩
          dsimp only
          rw [spec_jrRead.j0, if_neg (by decide), if_pos (by omega), hw, if_pos (by omega), if_pos (by omega), show (a.take (2 + rd a 1).toNat).drop 2 = held a from rfl, l1Own_ok _ (by omega)]
          simp only [Option.bind_some]
          rw [e1 m (by omega), readA_no (fun x => s x.2.2.2.1)]
          simp [s]
      refine Ev.congr (fun k => ?_) J0
      rw [spec_jrRead.f, if_pos (by omega), eg]
      simp only [Option.bind_some, if_true]
      rw [if_pos (by omega)]
      simp [show ¬ rd a 1 > 12 by omega]
    · refine Ev.congr (fun k => ?_) (ev_eq (J1 true rfl) ?_)
      · rw [spec_jrRead.f, if_pos (by omega), eg]
        simp only [Option.bind_some, if_true]
        rw [if_pos (by omega)]
        simp [show rd a 1 > 12 by omega]
      · rw [readA_no (fun x => n x.2.2.1)]; simp
  · have eg : spec_jrGeneration.f (rd a 0) = some false := by
      by_cases g1 : 1 ≤ rd a 0
      · have g2 : ¬ rd a 0 ≤ 999 := fun g2 => g ⟨g1, g2⟩
        simp [spec_jrGeneration.f, spec_l1In.f, g1, g2]
      · simp [spec_jrGeneration.f, spec_l1In.f, g1]
    refine Ev.congr (fun k => ?_) (ev_eq (J1 true rfl) ?_)
    · rw [spec_jrRead.f, if_pos (by omega), eg]
      simp
    · rw [readA_no (fun x => g ⟨x.1, x.2.1⟩)]; simp

theorem readArea_ok (a : List Int) (h : areaOk a = true) : Ev (fun k => impl_readArea.f k a) (readA a) := by
  have hl := area_len h
  have h0 := area_rd h 0 (by omega)
  have h1 := area_rd h 1 (by omega)
  simp only [Int.ofNat_zero, Int.natCast_one, Int.natCast_zero, Int.ofNat_one] at h0 h1
  have hw : wrap64 (2 + rd a 1) = 2 + rd a 1 := wrapS (by omega) (by omega)
  have J1 : ∀ b, b = true → Ev (fun k => impl_readArea.j0 k a b) (0, []) := by
    intro b hb
    refine ev_step (f := fun _ => some _) (Ev.now _) (fun k => ?_)
    rw [impl_readArea.j0, if_pos hb]
  by_cases g1 : rd a 0 < 1
  · refine Ev.congr (fun k => ?_) (ev_eq (J1 true rfl) ?_)
    · rw [impl_readArea.f, if_pos (by omega), if_pos g1]
    · rw [readA_no (fun x => by omega)]
  by_cases g2 : rd a 0 > 999
  · refine Ev.congr (fun k => ?_) (ev_eq (J1 true rfl) ?_)
    · rw [impl_readArea.f, if_pos (by omega), if_neg g1, if_pos g2]
    · rw [readA_no (fun x => by omega)]
  by_cases n : rd a 1 ≤ 12
  · have J0 : Ev (fun k => impl_readArea.j0 k a false) (readA a) := by
      have hh := held_len a
      obtain ⟨K1, e1⟩ := isState_ok (held a) (by omega)
      dsimp only at e1
      have ec : slices_Clone_int_int.f (held a) = some (held a) := by rw [slices_Clone_int_int.f, if_pos (by omega)]
      by_cases s : stateOk (held a) = true
      · have hs := state_len s
        obtain ⟨K3, e3⟩ := equal_ok (mk (rd a 0) (held a)) a (by rw [mk_len _ _ hs]; omega)
        dsimp only at e3
        refine ⟨K1 + K3 + 2, fun k hk => ?_⟩
        obtain ⟨m, rfl⟩ : ∃ m, k = m + 1 := ⟨k - 1, by omega⟩
        dsimp only
        rw [impl_readArea.j0, if_neg (by decide), if_pos (by omega), hw, if_pos (by omega), if_pos (by omega), show (a.take (2 + rd a 1).toNat).drop 2 = held a from rfl, ec]
        simp only [Option.bind_some]
        rw [e1 m (by omega), s]
        simp only [Option.bind_some, if_true]
        rw [if_pos (by omega), areaOf_ok _ _ hs]
        simp only [Option.bind_some]
        rw [e3 m (by omega)]
        simp only [Option.bind_some]
        by_cases q : mk (rd a 0) (held a) = a
        · rw [readA_yes ⟨by omega, by omega, n, s, q⟩]
          simp [q]
        · rw [readA_no (fun x => q x.2.2.2.2)]
          simp [q]
      · refine ⟨K1 + 2, fun k hk => ?_⟩
        obtain ⟨m, rfl⟩ : ∃ m, k = m + 1 := ⟨k - 1, by omega⟩
        dsimp only
        rw [impl_readArea.j0, if_neg (by decide), if_pos (by omega), hw, if_pos (by omega), if_pos (by omega), show (a.take (2 + rd a 1).toNat).drop 2 = held a from rfl, ec]
        simp only [Option.bind_some]
        rw [e1 m (by omega), readA_no (fun x => s x.2.2.2.1)]
        simp [s]
    refine Ev.congr (fun k => ?_) J0
    rw [impl_readArea.f, if_pos (by omega), if_neg g1, if_neg g2, if_pos (by omega)]
    simp [show ¬ rd a 1 > 12 by omega]
  · refine Ev.congr (fun k => ?_) (ev_eq (J1 true rfl) ?_)
    · rw [impl_readArea.f, if_pos (by omega), if_neg g1, if_neg g2, if_pos (by omega)]
      simp [show rd a 1 > 12 by omega]
    · rw [readA_no (fun x => n x.2.2.1)]
theorem readA_len (a : List Int) : (readA a).2.length ≤ a.length := by
  have := held_len a
  unfold readA; split
  · exact this
  · simp

/-- Which of two areas holds the state (-1: none), its generation and its state. -/
def newA (a b : List Int) : Int × Int × List Int :=
  if (readA a).1 = 0 ∧ (readA b).1 = 0 then (-1, 0, []) else if (readA a).1 ≥ (readA b).1 then (0, (readA a).1, (readA a).2) else (1, (readA b).1, (readA b).2)
theorem newA_none {a b : List Int} (h1 : (readA a).1 = 0) (h2 : (readA b).1 = 0) : newA a b = (-1, 0, []) := if_pos ⟨h1, h2⟩
theorem newA_fst {a b : List Int} (h : ¬ ((readA a).1 = 0 ∧ (readA b).1 = 0)) (h3 : (readA a).1 ≥ (readA b).1) : newA a b = (0, (readA a).1, (readA a).2) := by
  unfold newA; rw [if_neg h, if_pos h3]
theorem newA_snd {a b : List Int} (h : ¬ ((readA a).1 = 0 ∧ (readA b).1 = 0)) (h3 : ¬ (readA a).1 ≥ (readA b).1) : newA a b = (1, (readA b).1, (readA b).2) := by
  unfold newA; rw [if_neg h, if_neg h3]
theorem readA_gen (a : List Int) : 0 ≤ (readA a).1 ∧ ((readA a).1 = 0 → (readA a).2 = []) := by
  unfold readA; split
  · rename_i h; exact ⟨by omega, fun e => by omega⟩
  · exact ⟨by simp, fun _ => rfl⟩
theorem jrTwo_ok (a b : List Int) (ha : a.length ≤ 1048576) (hb : b.length ≤ 1048576) : Ev (fun k => spec_jrTwo.f k a b) (areaOk a && areaOk b) := by
  refine Ev.bind (jrArea_ok a (by omega)) ?_
  cases s : areaOk a with
  | false => exact ev_of_eq (fun _ => by simp)
  | true =>
    simp only [if_true]
    exact Ev.bind (jrArea_ok b (by omega)) (ev_of_eq (fun _ => by simp))
theorem jrHeld_ok (a b : List Int) (ha : areaOk a = true) (hb : areaOk b = true) : Ev (fun k => spec_jrHeld.f k a b) ((newA a b).2.1, (newA a b).2.2, (newA a b).1) := by
  refine Ev.bind (jrRead_ok a ha) (Ev.bind (jrRead_ok b hb) ?_)
  have ga := readA_gen a
  have gb := readA_gen b
  dsimp only
  by_cases h1 : (readA a).1 > 0
  · by_cases h2 : (readA b).1 > 0
    · by_cases h3 : (readA a).1 ≥ (readA b).1
      · simp only [h1, h2, decide_true, if_true]
        refine ev_step (f := fun _ => some _) (Ev.now _) (fun k => ?_)
        rw [spec_jrHeld.j0, if_pos (by simpa using h3), newA, if_neg (by omega), if_pos h3]
      · simp only [h1, h2, decide_true, if_true]
        refine ev_step (f := fun _ => some _) (Ev.now _) (fun k => ?_)
        rw [spec_jrHeld.j0, if_neg (by simpa using h3), if_pos rfl, newA, if_neg (by omega), if_neg h3]
    · have h2' : decide ((readA b).1 > 0) = false := by simpa using h2
      simp only [h1, h2', decide_true, if_true, Bool.false_eq_true, if_false]
      refine ev_step (f := fun _ => some _) (Ev.now _) (fun k => ?_)
      rw [spec_jrHeld.j0, if_pos rfl, newA, if_neg (by omega), if_pos (by omega)]
  · have h1' : decide ((readA a).1 > 0) = false := by simpa using h1
    simp only [h1', Bool.false_eq_true, if_false]
    by_cases h2 : (readA b).1 > 0
    · refine ev_step (f := fun _ => some _) (Ev.now _) (fun k => ?_)
      rw [spec_jrHeld.j0, if_neg (by decide), if_pos (by simpa using h2), newA, if_neg (by omega), if_neg (by omega)]
    · refine ev_step (f := fun _ => some _) (Ev.now _) (fun k => ?_)
      rw [spec_jrHeld.j0, if_neg (by decide), if_neg (by simpa using h2), newA, if_pos ⟨by omega, by omega⟩]
theorem newest_ok (a b : List Int) (ha : areaOk a = true) (hb : areaOk b = true) : Ev (fun k => impl_newest.f k a b) (newA a b) := by
  refine Ev.bind (readArea_ok a ha) (Ev.bind (readArea_ok b hb) ?_)
  have gb := readA_gen b
  by_cases h1 : (readA a).1 = 0
  · by_cases h2 : (readA b).1 = 0
    · simp only [h1, if_true]
      refine ev_step (f := fun _ => some _) (Ev.now _) (fun k => ?_)
      rw [impl_newest.j0, if_pos (by simp [h2]), newA_none h1 h2]
    · simp only [h1, if_true]
      refine ev_step (f := fun _ => some _) (Ev.now _) (fun k => ?_)
      have h4 : ¬ (0 : Int) ≥ (readA b).1 := by omega
      rw [impl_newest.j0, if_neg (by simpa using h2), if_neg h4, newA_snd (fun x => h2 x.2) (by rw [h1]; exact h4)]
  · simp only [h1, if_false]
    refine ev_step (f := fun _ => some _) (Ev.now _) (fun k => ?_)
    rw [impl_newest.j0, if_neg (by decide)]
    by_cases h3 : (readA a).1 ≥ (readA b).1
    · rw [if_pos h3, newA_fst (fun x => h1 x.1) h3]
    · rw [if_neg h3, newA_snd (fun x => h1 x.1) h3]
theorem newA_len (a b : List Int) : (newA a b).2.2.length ≤ a.length + b.length := by
  have h1 := readA_len a
  have h2 := readA_len b
  unfold newA; split
  · simp
  · split
    · simp only; omega
    · simp only; omega
theorem newA_pos (a b : List Int) : decide ((newA a b).1 ≥ 0) = decide ((newA a b).2.1 > 0) := by
  have ga := readA_gen a
  have gb := readA_gen b
  unfold newA; split
  · simp
  · split
    · simp; omega
    · simp; omega

/-! a cursor's draws: what they give lies in bounds, and the cursor goes on by few places -/
def bytesOk (l : List Int) : Prop := ∀ x ∈ l, 0 ≤ x ∧ x ≤ 255
def lcg (s b : Int) : Int := (s * 6364136223846793005 + b + 1442695040888963407) % 18446744073709551616
theorem and255 (x : Int) (h0 : 0 ≤ x) (h1 : x < 18446744073709551616) : Go.bits .and .u64 x 255 = x % 256 := by
  obtain ⟨n, rfl⟩ : ∃ n : Nat, x = n := ⟨x.toNat, by omega⟩
  have h := bits_and_u64_nat n 255 (by omega) (by omega)
  have h2 := Nat.and_two_pow_sub_one_eq_mod n 8
  rw [show (2 : Nat) ^ 8 - 1 = 255 from rfl, show (2 : Nat) ^ 8 = 256 from rfl] at h2
  rw [h2] at h
  exact h.trans (by omega)
theorem lcg_eq (s b : Int) : IntKind.u64.wrap ((IntKind.u64.wrap ((IntKind.u64.wrap (s * 6364136223846793005)) + (IntKind.u64.wrap b))) + 1442695040888963407) = lcg s b := by
  simp only [IntKind.wrap_u64, lcg]; omega
theorem lcg_eq0 (s : Int) : IntKind.u64.wrap ((IntKind.u64.wrap (IntKind.u64.wrap (s * 6364136223846793005))) + 1442695040888963407) = lcg s 0 := by
  simp only [IntKind.wrap_u64, lcg]; omega
theorem lcg_lt (s b : Int) : 0 ≤ lcg s b ∧ lcg s b < 18446744073709551616 := by unfold lcg; omega
theorem rd_byte {l : List Int} (hb : bytesOk l) (p : Int) (h0 : 0 ≤ p) (h1 : p < l.length) : 0 ≤ rd l p ∧ rd l p ≤ 255 := by
  obtain ⟨n, rfl⟩ : ∃ n : Nat, p = n := ⟨p.toNat, by omega⟩
  rw [rd_nat l n (by omega)]
  exact hb _ (List.getElem_mem _)
theorem next_in {l : List Int} (hb : bytesOk l) (p s : Int) (h0 : 0 ≤ p) (h1 : p < l.length) (h2 : p ≤ 4000000000000000000) : spec_l1Cur_next.f l p s = some (rd l p, p + 1, lcg s (rd l p)) := by
  have hr := rd_byte hb p h0 h1
  have hw : wrap64 (p + 1) = p + 1 := wrapS (by omega) (by omega)
  have hw2 : wrap64 (rd l p) = rd l p := wrapS (by omega) (by omega)
  rw [spec_l1Cur_next.f, if_pos h1, if_pos h0, hw, if_pos (by omega), hw2, lcg_eq]
theorem next_out {l : List Int} (p s : Int) (h1 : ¬ p < l.length) (h0 : 0 ≤ p) (h2 : p ≤ 4000000000000000000) : spec_l1Cur_next.f l p s = some ((lcg s 0 / 1099511627776) % 256, p + 1, lcg s 0) := by
  have hw : wrap64 (p + 1) = p + 1 := wrapS (by omega) (by omega)
  have hl := lcg_lt s 0
  rw [spec_l1Cur_next.f, if_neg h1, hw, if_neg (by omega), lcg_eq0, and255 _ (by omega) (by omega), wrapS (by omega) (by omega)]
theorem next_ok {l : List Int} (hb : bytesOk l) (p s : Int) (h0 : 0 ≤ p) (h2 : p ≤ 4000000000000000000) : ∃ b s', spec_l1Cur_next.f l p s = some (b, p + 1, s') ∧ 0 ≤ b ∧ b ≤ 255 := by
  by_cases h : p < l.length
  · exact ⟨_, _, next_in hb p s h0 h h2, rd_byte hb p h0 h⟩
  · exact ⟨_, _, next_out p s h h0 h2, by omega, by omega⟩
theorem pick_ok {l : List Int} (hb : bytesOk l) (p s n : Int) (h0 : 0 ≤ p) (h2 : p ≤ 3000000000000000000) : ∃ r p' s', spec_l1Cur_pick.f l p s n = some (r, p', s') ∧ 0 ≤ r ∧ (1 ≤ n → r < n) ∧ p ≤ p' ∧ p' ≤ p + 2 ∧ (2 ≤ n → p + 1 ≤ p') := by
  by_cases c : n ≤ 1
  · exact ⟨0, p, s, by rw [spec_l1Cur_pick.f, if_pos c], by omega, by omega, by omega, by omega, by omega⟩
  · obtain ⟨b, s1, e1, b0, b1⟩ := next_ok hb p s h0 (by omega)
    by_cases d : n > 200
    · obtain ⟨b2, s2, e2, c0, c1⟩ := next_ok hb (p + 1) s1 (by omega) (by omega)
      refine ⟨Int.tmod (b * 256 + b2) n, p + 1 + 1, s2, ?_, ?_, ?_, by omega, by omega, by omega⟩
      · rw [spec_l1Cur_pick.f, if_neg c, e1]
        simp only [Option.bind_some]
        rw [if_pos d, e2]
        simp only [Option.bind_some]
        rw [if_neg (by omega), wrapS (x := b * 256) (by omega) (by omega), wrapS (by omega) (by omega)]
      · exact Int.tmod_nonneg _ (by omega)
      · intro _; exact Int.tmod_lt_of_pos _ (by omega)
    · refine ⟨Int.tmod b n, p + 1, s1, ?_, ?_, ?_, by omega, by omega, by omega⟩
      · rw [spec_l1Cur_pick.f, if_neg c, e1]
        simp only [Option.bind_some]
        rw [if_neg d, if_neg (by omega)]
      · exact Int.tmod_nonneg _ (by omega)
      · intro _; exact Int.tmod_lt_of_pos _ (by omega)
theorem rd_mem {xs : List Int} (r : Int) (h0 : 0 ≤ r) (h1 : r < xs.length) : rd xs r ∈ xs := by
  obtain ⟨n, rfl⟩ : ∃ n : Nat, r = n := ⟨r.toNat, by omega⟩
  rw [rd_nat xs n (by omega)]
  exact List.getElem_mem _
theorem among_ok {l : List Int} (hb : bytesOk l) (p s : Int) (xs : List Int) (hx : 1 ≤ xs.length) (h0 : 0 ≤ p) (h2 : p ≤ 3000000000000000000) : ∃ r p' s', spec_l1Cur_among.f l p s xs = some (r, p', s') ∧ r ∈ xs ∧ p ≤ p' ∧ p' ≤ p + 2 := by
  obtain ⟨r, p', s', e, r0, r1, q0, q1⟩ := pick_ok hb p s (xs.length : Int) h0 h2
  have r1 := r1 (by omega)
  refine ⟨rd xs r, p', s', ?_, rd_mem r r0 r1, q0, q1.1⟩
  rw [spec_l1Cur_among.f, e]
  simp only [Option.bind_some]
  rw [if_pos r0, if_pos r1]
theorem one_ok {l : List Int} (hb : bytesOk l) (p s n : Int) (h0 : 0 ≤ p) (h2 : p ≤ 3000000000000000000) : ∃ r p' s', spec_l1Cur_one.f l p s n = some (r, p', s') ∧ p ≤ p' ∧ p' ≤ p + 2 := by
  obtain ⟨r, p', s', e, _, _, q0, q1⟩ := pick_ok hb p s n h0 h2
  exact ⟨r == 0, p', s', by rw [spec_l1Cur_one.f, e]; rfl, q0, q1.1⟩

/-! a drawn state, a drawn area -/
theorem stateOf_l0 {l : List Int} (hb : bytesOk l) (n : Int) (hn : n ≤ 13) (d : Nat) : ∀ (x : List Int) (p s : Int), (x.length : Int) + d = n → 0 ≤ p → p + 4 * d ≤ 2000000000000000000 →
    ∃ r p' s', Ev (fun k => spec_l1Cur_stateOf.l0 k x n l p s) (r, p', s') ∧ (r.length : Int) = n ∧ p ≤ p' ∧ p' ≤ p + 4 * d + 6 := by
  induction d with
  | zero =>
    intro x p s hx h0 h1
    have J : ∀ (b : Bool) (p1 s1 : Int), 0 ≤ p1 → p1 ≤ 2500000000000000000 → (b = true → 1 ≤ n) → ∃ r p' s', Ev (fun k => spec_l1Cur_stateOf.j2 k x n b l p1 s1) (r, p', s') ∧ (r.length : Int) = n ∧ p1 ≤ p' ∧ p' ≤ p1 + 4 := by
      intro b p1 s1 q0 q1 hbn
      cases b with
      | false => exact ⟨x, p1, s1, ev_step (f := fun _ => some _) (Ev.now _) (fun k => by rw [spec_l1Cur_stateOf.j2, if_neg (by decide)]), by omega, by omega, by omega⟩
      | true =>
        obtain ⟨i, p2, s2, e2, i0, i1, a2, b2⟩ := pick_ok hb p1 s1 n q0 (by omega)
        obtain ⟨v, p3, s3, e3, _, a3, b3⟩ := among_ok hb p2 s2 (([(-1), 1000] : List Int)) (by decide) (by omega) (by omega)
        have i1 := i1 (hbn rfl)
        refine ⟨x.set i.toNat v, p3, s3, ev_step (f := fun _ => some _) (Ev.now _) (fun k => ?_), by simp; omega, by omega, by omega⟩
        rw [spec_l1Cur_stateOf.j2, if_pos rfl, e2]
        simp only [Option.bind_some]
        rw [e3]
        simp only [Option.bind_some]
        rw [if_pos i0, if_pos (by omega)]
    by_cases c : n > 0
    · obtain ⟨b, p1, s1, e1, a1, b1⟩ := one_ok hb p s 24 h0 (by omega)
      obtain ⟨r, p', s', e, hr, a, b'⟩ := J b p1 s1 (by omega) (by omega) (fun _ => by omega)
      refine ⟨r, p', s', ev_step e (fun k => ?_), hr, by omega, by omega⟩
      rw [spec_l1Cur_stateOf.l0, if_neg (by omega), if_pos c, e1]
      rfl
    · obtain ⟨r, p', s', e, hr, a, b'⟩ := J false p s (by omega) (by omega) (fun h => by cases h)
      refine ⟨r, p', s', ev_step e (fun k => ?_), hr, by omega, by omega⟩
      rw [spec_l1Cur_stateOf.l0, if_neg (by omega), if_neg c]
  | succ d ih =>
    intro x p s hx h0 h1
    obtain ⟨v, p1, s1, e1, _, _, a1, b1⟩ := pick_ok hb p s 1000 h0 (by omega)
    obtain ⟨u, p2, s2, e2, _, a2, b2⟩ := among_ok hb p1 s1 (([0, 5, 999, v] : List Int)) (by simp) (by omega) (by omega)
    obtain ⟨r, p', s', e, hr, a, b'⟩ := ih (x ++ [u]) p2 s2 (by simp; omega) (by omega) (by omega)
    refine ⟨r, p', s', ev_step e (fun k => ?_), hr, by omega, by omega⟩
    rw [spec_l1Cur_stateOf.l0, if_pos (by omega), e1]
    simp only [Option.bind_some]
    rw [e2]
    simp only [Option.bind_some]
    rw [if_pos (by omega)]
theorem stateOf_ok {l : List Int} (hb : bytesOk l) (p s : Int) (h0 : 0 ≤ p) (h1 : p ≤ 1000000000000000000) : ∃ r p' s', Ev (fun k => spec_l1Cur_stateOf.f k l p s) (r, p', s') ∧ r.length ≤ 13 ∧ p + 1 ≤ p' ∧ p' ≤ p + 100 := by
  obtain ⟨n, p1, s1, e1, n0, n1, a1, b1⟩ := pick_ok hb p s 6 h0 (by omega)
  have n1 := n1 (by omega)
  obtain ⟨c, p2, s2, e2, a2, b2⟩ := one_ok hb p1 s1 16 (by omega) (by omega)
  cases c with
  | true =>
    obtain ⟨m, p3, s3, e3, m0, m1, a3, b3⟩ := pick_ok hb p2 s2 2 (by omega) (by omega)
    have m1 := m1 (by omega)
    obtain ⟨r, p', s', e, hr, a, b'⟩ := stateOf_l0 hb (12 + m) (by omega) (12 + m).toNat [] p3 s3 (by simp; omega) (by omega) (by omega)
    refine ⟨r, p', s', Ev.congr (fun k => ?_) (ev_step (g := fun k => spec_l1Cur_stateOf.j0 k [] (12 + m) l p3 s3) (f := fun k => spec_l1Cur_stateOf.l0 k [] (12 + m) l p3 s3) e (fun k => by rw [spec_l1Cur_stateOf.j0])), by omega, by omega, by omega⟩
    rw [spec_l1Cur_stateOf.f, e1]
    simp only [Option.bind_some]
    rw [e2]
    simp only [Option.bind_some, if_true]
    rw [e3]
    simp only [Option.bind_some]
    rw [wrapS (x := 12 + m) (by omega) (by omega)]
  | false =>
    obtain ⟨r, p', s', e, hr, a, b'⟩ := stateOf_l0 hb n (by omega) n.toNat [] p2 s2 (by simp; omega) (by omega) (by omega)
    refine ⟨r, p', s', Ev.congr (fun k => ?_) (ev_step (g := fun k => spec_l1Cur_stateOf.j0 k [] n l p2 s2) (f := fun k => spec_l1Cur_stateOf.l0 k [] n l p2 s2) e (fun k => by rw [spec_l1Cur_stateOf.j0])), by omega, by omega, by omega⟩
    rw [spec_l1Cur_stateOf.f, e1]
    simp only [Option.bind_some]
    rw [e2]
    simp only [Option.bind_some, Bool.false_eq_true, if_false]
theorem area_j0 {l : List Int} (hb : bytesOk l) (x : List Int) (hx : x.length ≤ 12) (p s : Int) (h0 : 0 ≤ p) (h1 : p ≤ 1000000000000000000) : ∃ r p' s', Ev (fun k => spec_l1Cur_area.j0 k x l p s) (r, p', s') ∧ r.length ≤ 15 ∧ p ≤ p' ∧ p' ≤ p + 20 := by
  obtain ⟨v, p1, s1, e1, _, _, a1, b1⟩ := pick_ok hb p s 999 h0 (by omega)
  obtain ⟨g, p2, s2, e2, _, a2, b2⟩ := among_ok hb p1 s1 (([1, 1, 2, 2, 3, wrap64 (1 + v), 998, 999] : List Int)) (by simp) (by omega) (by omega)
  obtain ⟨c, p3, s3, e3, _, _, a3, b3⟩ := pick_ok hb p2 s2 12 (by omega) (by omega)
  obtain ⟨K, em⟩ := jrMake_ok g x hx
  dsimp only at em
  have hm := mk_len g x hx
  have hm15 : ((mk g x).length : Int) = 15 := by omega
  have st : ∀ k, K ≤ k → ∀ y, (∀ z, (if c = 0 then ((spec_l1Cur_pick.f l p3 s3 ((mk g x).length : Int)).bind fun bt288 => ((spec_l1Cur_among.f l bt288.2.1 bt288.2.2 (([0, 1, 12, 13, 1000, 9999] : List Int))).bind fun bt294 => (if 0 ≤ bt288.1 then (if bt288.1 < ((mk g x).length : Int) then (some (((mk g x).set (bt288.1 : Int).toNat bt294.1), bt294.2.1, bt294.2.2)) else (none)) else (none)))) else (if c = 1 then (if 15 ≤ 35184372088832 then (some ((List.replicate 15 0), p3, s3)) else (none)) else (if c = 2 then ((spec_l1Cur_one.f l p3 s3 3).bind fun bt301 => (if bt301.1 = true then ((spec_l1Cur_pick.f l bt301.2.1 bt301.2.2 ((mk g x).length : Int)).bind fun bt304 => ((spec_l1Cur_among.f l bt304.2.1 bt304.2.2 (([(-1), 10000] : List Int))).bind fun bt310 => (if 0 ≤ bt304.1 then (if bt304.1 < ((mk g x).length : Int) then (some (((mk g x).set (bt304.1 : Int).toNat bt310.1), bt310.2.1, bt310.2.2)) else (none)) else (none)))) else (some ((mk g x), bt301.2.1, bt301.2.2)))) else (if c = 3 then ((spec_l1Cur_one.f l p3 s3 3).bind fun bt314 => (if bt314.1 = true then (if 1 ≤ ((mk g x).length : Int) then (some (((mk g x).drop (1 : Int).toNat), bt314.2.1, bt314.2.2)) else (none)) else (some ((mk g x), bt314.2.1, bt314.2.2)))) else (some ((mk g x), p3, s3)))))) = z → z = y) → spec_l1Cur_area.j0 (k + 1) x l p s = y := by
    intro k hk y hy
    rw [spec_l1Cur_area.j0, e1]
    simp only [Option.bind_some]
    rw [e2]
    simp only [Option.bind_some]
    rw [em k hk]
    simp only [Option.bind_some]
    rw [e3]
    simp only [Option.bind_some]
    exact hy _ rfl
  by_cases c0 : c = 0
  · obtain ⟨i, p4, s4, e4, i0, i1, a4, b4⟩ := pick_ok hb p3 s3 ((mk g x).length : Int) (by omega) (by omega)
    obtain ⟨u, p5, s5, e5, _, a5, b5⟩ := among_ok hb p4 s4 (([0, 1, 12, 13, 1000, 9999] : List Int)) (by simp) (by omega) (by omega)
    have i1 := i1 (by omega)
    refine ⟨(mk g x).set i.toNat u, p5, s5, ⟨K + 1, fun k hk => ?_⟩, by simp; omega, by omega, by omega⟩
    obtain ⟨m, rfl⟩ : ∃ m, k = m + 1 := ⟨k - 1, by omega⟩
    refine st m (by omega) _ (fun z hz => ?_)
    rw [if_pos c0, e4] at hz
    simp only [Option.bind_some] at hz
    rw [e5] at hz
    simp only [Option.bind_some] at hz
    rw [if_pos i0, if_pos (by omega)] at hz
    exact hz.symm
  by_cases c1 : c = 1
  · refine ⟨List.replicate 15 0, p3, s3, ⟨K + 1, fun k hk => ?_⟩, by simp, by omega, by omega⟩
    obtain ⟨m, rfl⟩ : ∃ m, k = m + 1 := ⟨k - 1, by omega⟩
    refine st m (by omega) _ (fun z hz => ?_)
    rw [if_neg c0, if_pos c1, if_pos (by omega)] at hz
    exact hz.symm
  by_cases c2 : c = 2
  · obtain ⟨t, p4, s4, e4, a4, b4⟩ := one_ok hb p3 s3 3 (by omega) (by omega)
    cases t with
    | false =>
      refine ⟨mk g x, p4, s4, ⟨K + 1, fun k hk => ?_⟩, by omega, by omega, by omega⟩
      obtain ⟨m, rfl⟩ : ∃ m, k = m + 1 := ⟨k - 1, by omega⟩
      refine st m (by omega) _ (fun z hz => ?_)
      rw [if_neg c0, if_neg c1, if_pos c2, e4] at hz
      exact hz.symm
    | true =>
      obtain ⟨i, p5, s5, e5, i0, i1, a5, b5⟩ := pick_ok hb p4 s4 ((mk g x).length : Int) (by omega) (by omega)
      obtain ⟨u, p6, s6, e6, _, a6, b6⟩ := among_ok hb p5 s5 (([(-1), 10000] : List Int)) (by simp) (by omega) (by omega)
      have i1 := i1 (by omega)
      refine ⟨(mk g x).set i.toNat u, p6, s6, ⟨K + 1, fun k hk => ?_⟩, by simp; omega, by omega, by omega⟩
      obtain ⟨m, rfl⟩ : ∃ m, k = m + 1 := ⟨k - 1, by omega⟩
      refine st m (by omega) _ (fun z hz => ?_)
      rw [if_neg c0, if_neg c1, if_pos c2, e4] at hz
      simp only [Option.bind_some, if_true] at hz
      rw [e5] at hz
      simp only [Option.bind_some] at hz
      rw [e6] at hz
      simp only [Option.bind_some] at hz
      rw [if_pos i0, if_pos (by omega)] at hz
      exact hz.symm
  by_cases c3 : c = 3
  · obtain ⟨t, p4, s4, e4, a4, b4⟩ := one_ok hb p3 s3 3 (by omega) (by omega)
    cases t with
    | false =>
      refine ⟨mk g x, p4, s4, ⟨K + 1, fun k hk => ?_⟩, by omega, by omega, by omega⟩
      obtain ⟨m, rfl⟩ : ∃ m, k = m + 1 := ⟨k - 1, by omega⟩
      refine st m (by omega) _ (fun z hz => ?_)
      rw [if_neg c0, if_neg c1, if_neg c2, if_pos c3, e4] at hz
      exact hz.symm
    | true =>
      refine ⟨(mk g x).drop 1, p4, s4, ⟨K + 1, fun k hk => ?_⟩, by simp; omega, by omega, by omega⟩
      obtain ⟨m, rfl⟩ : ∃ m, k = m + 1 := ⟨k - 1, by omega⟩
      refine st m (by omega) _ (fun z hz => ?_)
      rw [if_neg c0, if_neg c1, if_neg c2, if_pos c3, e4] at hz
      simp only [Option.bind_some, if_true] at hz
      rw [if_pos (by omega)] at hz
      exact hz.symm
  · refine ⟨mk g x, p3, s3, ⟨K + 1, fun k hk => ?_⟩, by omega, by omega, by omega⟩
    obtain ⟨m, rfl⟩ : ∃ m, k = m + 1 := ⟨k - 1, by omega⟩
    refine st m (by omega) _ (fun z hz => ?_)
    rw [if_neg c0, if_neg c1, if_neg c2, if_neg c3] at hz
    exact hz.symm
theorem area_ok {l : List Int} (hb : bytesOk l) (p s : Int) (h0 : 0 ≤ p) (h1 : p ≤ 500000000000000000) : ∃ r p' s', Ev (fun k => spec_l1Cur_area.f k l p s) (r, p', s') ∧ r.length ≤ 15 ∧ p ≤ p' ∧ p' ≤ p + 120 := by
  obtain ⟨x, p1, s1, e1, hx, a1, b1⟩ := stateOf_ok hb p s h0 (by omega)
  have e2 := jrState_ok x (by omega)
  cases g : stateOk x with
  | true =>
    obtain ⟨r, p', s', e, hr, a, b⟩ := area_j0 hb x (state_len g) p1 s1 (by omega) (by omega)
    refine ⟨r, p', s', Ev.bind e1 (Ev.bind e2 ?_), hr, by omega, by omega⟩
    simp only [g, if_true]
    exact e
  | false =>
    obtain ⟨r, p', s', e, hr, a, b⟩ := area_j0 hb (([5, 7] : List Int)) (by simp) p1 s1 (by omega) (by omega)
    refine ⟨r, p', s', Ev.bind e1 (Ev.bind e2 ?_), hr, by omega, by omega⟩
    simp only [g, Bool.false_eq_true, if_false]
    exact e

/-! the cursor's numbers behind the end of its bytes: a congruential sequence whose low 48 bits come through all values -/
def SS : Nat → Nat
  | 0 => 0
  | n + 1 => 6364136223846793005 * SS n + 1
theorem SS_add (n m : Nat) : SS (n + m) = 6364136223846793005 ^ m * SS n + SS m := by
  induction m with
  | zero => simp [SS]
  | succ m ih =>
    rw [show n + (m + 1) = (n + m) + 1 from rfl, SS, ih, SS, Nat.pow_succ, Nat.mul_add, Nat.add_assoc]
    congr 1
    rw [← Nat.mul_assoc, Nat.mul_comm 6364136223846793005 (6364136223846793005 ^ m)]
theorem pow4 (m : Nat) : 6364136223846793005 ^ m % 4 = 1 := by
  rw [Nat.pow_mod, show (6364136223846793005 : Nat) % 4 = 1 from rfl, Nat.one_pow]
theorem SS_pow (k : Nat) : ∃ o, SS (2 ^ k) = 2 ^ k * (2 * o + 1) := by
  induction k with
  | zero => exact ⟨0, rfl⟩
  | succ k ih =>
    obtain ⟨o, ho⟩ := ih
    have h4 := pow4 (2 ^ k)
    generalize hP : 6364136223846793005 ^ (2 ^ k) = P at h4
    have e : SS (2 ^ (k + 1)) = (P + 1) * SS (2 ^ k) := by
      rw [Nat.pow_succ, Nat.mul_two, SS_add, hP, Nat.add_mul, Nat.one_mul]
    obtain ⟨q, hq⟩ : ∃ q, P = 4 * q + 1 := ⟨P / 4, by omega⟩
    refine ⟨2 * q * o + q + o, ?_⟩
    have e2 : P + 1 = 2 * (2 * q + 1) := by omega
    have e3 : (2 * q + 1) * (2 * o + 1) = 2 * (2 * q * o + q + o) + 1 := by
      rw [Nat.add_mul, Nat.mul_add, Nat.one_mul, Nat.mul_one, ← Nat.mul_assoc, Nat.mul_comm (2 * q) 2]
      have : 2 * (2 * q) * o = 2 * (2 * q * o) := by rw [Nat.mul_assoc]
      omega
    rw [e, e2, ho, Nat.pow_succ, ← e3, Nat.mul_comm (2 ^ k) 2]
    rw [Nat.mul_assoc 2 (2 * q + 1), Nat.mul_assoc 2 (2 ^ k)]
    congr 1
    rw [← Nat.mul_assoc, Nat.mul_comm (2 * q + 1) (2 ^ k), Nat.mul_assoc]
theorem reach (u : Nat) (hu : u % 2 = 1) (k : Nat) : ∀ t, ∃ n, n < 2 ^ k ∧ (u * SS n) % 2 ^ k = t % 2 ^ k := by
  induction k with
  | zero => intro t; exact ⟨0, by decide, by rw [Nat.pow_zero, Nat.mod_one, Nat.mod_one]⟩
  | succ k ih =>
    intro t
    obtain ⟨n, hn, he⟩ := ih t
    have hp : 0 < 2 ^ k := Nat.pow_pos (by decide)
    have h1 : ∀ x, x % 2 ^ (k + 1) = x % 2 ^ k + 2 ^ k * (x / 2 ^ k % 2) := fun x => by rw [Nat.pow_succ, Nat.mod_mul]
    by_cases c : (u * SS n) % 2 ^ (k + 1) = t % 2 ^ (k + 1)
    · exact ⟨n, by rw [Nat.pow_succ]; omega, c⟩
    · obtain ⟨o, ho⟩ := SS_pow k
      have h4 := pow4 n
      generalize hP : 6364136223846793005 ^ n = P at h4
      obtain ⟨w, hw⟩ : ∃ w, u * (P * (2 * o + 1)) = 2 * w + 1 := by
        refine ⟨u * (P * (2 * o + 1)) / 2, ?_⟩
        have : u * (P * (2 * o + 1)) % 2 = 1 := by
          rw [Nat.mul_mod, hu, Nat.mul_mod P, show P % 2 = 1 by omega, show (2 * o + 1) % 2 = 1 by omega]
        omega
      have e : u * SS (2 ^ k + n) = u * SS n + 2 ^ k * (2 * w + 1) := by
        rw [SS_add, hP, ho, Nat.mul_add, Nat.add_comm, ← hw]
        congr 1
        rw [← Nat.mul_assoc P, Nat.mul_comm P (2 ^ k), Nat.mul_assoc (2 ^ k), ← Nat.mul_assoc u, Nat.mul_comm u (2 ^ k), Nat.mul_assoc (2 ^ k)]
      refine ⟨2 ^ k + n, by rw [Nat.pow_succ]; omega, ?_⟩
      rw [h1, h1] at c
      rw [h1, h1, e, Nat.add_mul_mod_self_left, Nat.add_mul_div_left _ _ hp, he]
      rw [he] at c
      have c2 : u * SS n / 2 ^ k % 2 ≠ t / 2 ^ k % 2 := fun q => c (by rw [q])
      have c3 : (u * SS n / 2 ^ k + (2 * w + 1)) % 2 = t / 2 ^ k % 2 := by omega
      rw [c3]
def itN (x : Nat) : Nat → Nat
  | 0 => x
  | n + 1 => 6364136223846793005 * itN x n + 1442695040888963407
theorem itN_step (x u S : Nat) (hu : u = 6364136223846793004 * x + 1442695040888963407) : 6364136223846793005 * (x + u * S) + 1442695040888963407 = x + u * (6364136223846793005 * S + 1) := by
  have e : u * (6364136223846793005 * S + 1) = 6364136223846793005 * (u * S) + u := by
    rw [Nat.mul_add, Nat.mul_one, Nat.mul_left_comm]
  rw [e]; generalize u * S = z; omega
theorem itN_succ (x n : Nat) : itN x (n + 1) = 6364136223846793005 * itN x n + 1442695040888963407 := by rw [itN]
theorem SS_succ (n : Nat) : SS (n + 1) = 6364136223846793005 * SS n + 1 := by rw [SS]
theorem itN_eq (x n : Nat) : itN x n = x + (6364136223846793004 * x + 1442695040888963407) * SS n := by
  obtain ⟨u, hu⟩ : ∃ u, u = 6364136223846793004 * x + 1442695040888963407 := ⟨_, rfl⟩
  rw [← hu]
  induction n with
  | zero => rw [itN, SS, Nat.mul_zero, Nat.add_zero]
  | succ n ih =>
    have h := itN_step x u (SS n) hu
    rw [itN_succ, ih, SS_succ]
    exact h
/-- The seed after n numbers. -/
def sig : Nat → Int → Int
  | 0, s => s
  | n + 1, s => lcg (sig n s) 0
theorem sig_add (n m : Nat) (s : Int) : sig (n + m) s = sig m (sig n s) := by
  induction m with
  | zero => rfl
  | succ m ih => rw [show n + (m + 1) = (n + m) + 1 from rfl, sig, ih, sig]
theorem sig_nonneg (n : Nat) (s : Int) (h : 0 ≤ s) : 0 ≤ sig n s := by
  cases n with
  | zero => exact h
  | succ n => exact (lcg_lt _ _).1
theorem sig_low (n : Nat) (s : Int) (h : 0 ≤ s) : sig n s % 281474976710656 = ((itN s.toNat n : Nat) : Int) % 281474976710656 := by
  induction n with
  | zero => simp only [sig, itN]; omega
  | succ n ih =>
    rw [sig, lcg, itN]
    omega
theorem sig_reach (s : Int) (h : 0 ≤ s) (t : Nat) : ∃ n, n < 281474976710656 ∧ sig n s % 281474976710656 = ((t : Nat) : Int) % 281474976710656 := by
  have hu : (6364136223846793004 * s.toNat + 1442695040888963407) % 2 = 1 := by omega
  obtain ⟨n, hn, he⟩ := reach _ hu 48 (t + (281474976710656 - s.toNat % 281474976710656))
  refine ⟨n, hn, ?_⟩
  rw [sig_low n s h, itN_eq]
  rw [show (2 : Nat) ^ 48 = 281474976710656 from rfl] at he
  generalize (6364136223846793004 * s.toNat + 1442695040888963407) * SS n = z at he ⊢
  omega
/-- A run of numbers none of which makes a state bad. -/
def nextW (w : Nat) : Nat := (w * 6364136223846793005 + 1442695040888963407) % 281474976710656
def okW (v : Nat) : Bool := (v / 1099511627776 % 16 != 0) && (v / 1099511627776 % 24 != 0)
def stepB (z : Nat) (r : Nat → Bool) : Bool := match z with
  | 0 => false
  | v + 1 => okW (v + 1) && r (v + 1)
def runN : Nat → Nat → Bool
  | 0, _ => true
  | n + 1, w => stepB (nextW w) (runN n)
theorem step_ok (z : Nat) (r : Nat → Bool) (h : stepB z r = true) : okW z = true ∧ r z = true := by
  cases z with
  | zero => cases h
  | succ v => exact Bool.and_eq_true_iff.1 h
theorem runN_step (n w : Nat) (h : runN (n + 1) w = true) : okW (nextW w) = true ∧ runN n (nextW w) = true := by
  rw [runN] at h
  exact step_ok _ _ h
def out (s : Int) : Int := lcg s 0 / 1099511627776 % 256
def goodRun (s : Int) (L : Nat) : Prop := ∀ i, i < L → out (sig i s) % 16 ≠ 0 ∧ out (sig i s) % 24 ≠ 0
theorem lcg_nat (n : Nat) : lcg (n : Int) 0 = (((n * 6364136223846793005 + 1442695040888963407) % 18446744073709551616 : Nat) : Int) := by
  rw [lcg]; omega
theorem low_lcg (s : Int) (h : 0 ≤ s) : nextW (s.toNat % 281474976710656) = (lcg s 0).toNat % 281474976710656 := by
  obtain ⟨n, rfl⟩ : ∃ n : Nat, s = n := ⟨s.toNat, by omega⟩
  rw [lcg_nat, Int.toNat_natCast, Int.toNat_natCast, nextW, Nat.mod_mod_of_dvd _ (show 281474976710656 ∣ 18446744073709551616 from ⟨65536, by decide⟩)]
  rw [Nat.add_mod, Nat.mod_mul_mod, ← Nat.add_mod]
theorem out_ok (s : Int) (h : 0 ≤ s) (g : okW ((lcg s 0).toNat % 281474976710656) = true) : out s % 16 ≠ 0 ∧ out s % 24 ≠ 0 := by
  have hl := (lcg_lt s 0).1
  simp only [okW, Bool.and_eq_true, bne_iff_ne] at g
  obtain ⟨g1, g2⟩ := g
  rw [out]
  obtain ⟨m, hm⟩ : ∃ m : Nat, lcg s 0 = m := ⟨(lcg s 0).toNat, by omega⟩
  rw [hm] at g1 g2 ⊢
  rw [Int.toNat_natCast, show 281474976710656 = 1099511627776 * 256 from rfl, Nat.mod_mul_right_div_self] at g1 g2
  have e : ((m : Int) / 1099511627776 % 256) = ((m / 1099511627776 % 256 : Nat) : Int) := by omega
  rw [e]
  generalize m / 1099511627776 % 256 = v at g1 g2 ⊢
  constructor <;> omega
theorem sig_one (s : Int) : sig 1 s = lcg s 0 := by rw [sig, sig]
theorem run_good (L : Nat) : ∀ s : Int, 0 ≤ s → runN L (s.toNat % 281474976710656) = true → goodRun s L := by
  induction L with
  | zero => intro s _ _ i hi; omega
  | succ L ih =>
    intro s h0 h i hi
    obtain ⟨h1, h2⟩ := runN_step L _ h
    rw [low_lcg s h0] at h1 h2
    have g0 := out_ok s h0 h1
    have g1 := ih (lcg s 0) (lcg_lt s 0).1 h2
    cases i with
    | zero => rw [sig]; exact g0
    | succ i =>
      have g2 := g1 i (by omega)
      rw [Nat.add_comm i 1, sig_add, sig_one]
      exact g2
set_option maxRecDepth 10000 in
theorem the_run : runN 135 247371357095615 = true := by decide +kernel
theorem run_at (s : Int) (h : 0 ≤ s) : ∃ n, n < 281474976710656 ∧ goodRun (sig n s) 135 := by
  obtain ⟨n, hn, he⟩ := sig_reach s h 247371357095615
  refine ⟨n, hn, run_good 135 _ (sig_nonneg n s h) ?_⟩
  rw [show (sig n s).toNat % 281474976710656 = 247371357095615 by have := sig_nonneg n s h; omega]
  exact the_run
theorem run_any (s : Int) : ∃ n, n ≤ 281474976710656 ∧ goodRun (sig n s) 135 := by
  obtain ⟨n, hn, g⟩ := run_at (lcg s 0) (lcg_lt s 0).1
  exact ⟨1 + n, by omega, by rw [sig_add, sig_one]; exact g⟩

/-! draws behind the end of the cursor's bytes, told by the sequence; all states of a write come to an end -/
theorem pickX {l : List Int} (p s n : Int) (hl : (l.length : Int) ≤ p) (h2 : p ≤ 3000000000000000000) : ∃ (r : Int) (m : Nat), spec_l1Cur_pick.f l p s n = some (r, p + m, sig m s) ∧ 0 ≤ r ∧ (1 ≤ n → r < n) ∧ m ≤ 2 ∧ (1 < n → n ≤ 200 → m = 1 ∧ r = out s % n) := by
  have hz : (0 : Int) ≤ (l.length : Int) := by omega
  have o0 : 0 ≤ out s ∧ out s ≤ 255 := by unfold out; omega
  by_cases c : n ≤ 1
  · exact ⟨0, 0, by rw [spec_l1Cur_pick.f, if_pos c, sig]; simp, by omega, by omega, by omega, by omega⟩
  · have e1 := next_out p s (by omega : ¬ p < l.length) (by omega) (by omega)
    by_cases d : n > 200
    · have e2 := next_out (p + 1) (lcg s 0) (by omega : ¬ p + 1 < l.length) (by omega) (by omega)
      have o1 : 0 ≤ out (lcg s 0) ∧ out (lcg s 0) ≤ 255 := by unfold out; omega
      refine ⟨Int.tmod (out s * 256 + out (lcg s 0)) n, 2, ?_, ?_, ?_, by omega, by omega⟩
      · rw [spec_l1Cur_pick.f, if_neg c, e1]
        simp only [Option.bind_some]
        rw [if_pos d, e2]
        simp only [Option.bind_some]
        rw [if_neg (by omega), show lcg s 0 / 1099511627776 % 256 = out s from rfl, show lcg (lcg s 0) 0 / 1099511627776 % 256 = out (lcg s 0) from rfl, wrapS (x := out s * 256) (by omega) (by omega), wrapS (by omega) (by omega)]
        rw [show sig 2 s = lcg (lcg s 0) 0 from by rw [sig, sig_one]]
        rw [show p + 1 + 1 = p + ((2 : Nat) : Int) by omega]
      · exact Int.tmod_nonneg _ (by omega)
      · intro _; exact Int.tmod_lt_of_pos _ (by omega)
    · refine ⟨Int.tmod (out s) n, 1, ?_, ?_, ?_, by omega, fun _ _ => ⟨rfl, ?_⟩⟩
      · rw [spec_l1Cur_pick.f, if_neg c, e1]
        simp only [Option.bind_some]
        rw [if_neg d, if_neg (by omega), sig_one]
        rfl
      · exact Int.tmod_nonneg _ (by omega)
      · intro _; exact Int.tmod_lt_of_pos _ (by omega)
      · exact Int.tmod_eq_emod_of_nonneg o0.1
theorem amongX {l : List Int} (p s : Int) (xs : List Int) (hx : 1 ≤ xs.length) (hl : (l.length : Int) ≤ p) (h2 : p ≤ 3000000000000000000) : ∃ (r : Int) (m : Nat), spec_l1Cur_among.f l p s xs = some (r, p + m, sig m s) ∧ r ∈ xs ∧ m ≤ 2 ∧ (1 < xs.length → xs.length ≤ 200 → m = 1) := by
  obtain ⟨r, m, e, r0, r1, m0, m1⟩ := pickX p s (xs.length : Int) hl h2
  have r1 := r1 (by omega)
  refine ⟨rd xs r, m, ?_, rd_mem r r0 r1, m0, fun h1 h2 => (m1 (by omega) (by omega)).1⟩
  rw [spec_l1Cur_among.f, e]
  simp only [Option.bind_some]
  rw [if_pos r0, if_pos r1]
theorem oneX {l : List Int} (p s n : Int) (hl : (l.length : Int) ≤ p) (h2 : p ≤ 3000000000000000000) (hn : 1 < n) (hn2 : n ≤ 200) : ∃ b, spec_l1Cur_one.f l p s n = some (b, p + 1, sig 1 s) ∧ (b = true → out s % n = 0) := by
  obtain ⟨r, m, e, r0, r1, m0, m1⟩ := pickX p s n hl h2
  obtain ⟨rfl, hr⟩ := m1 hn hn2
  refine ⟨r == 0, by rw [spec_l1Cur_one.f, e]; rfl, fun h => ?_⟩
  rw [← hr]
  exact eq_of_beq h
theorem state_put {x : List Int} (h : (x.all fun y => decide (0 ≤ y ∧ y ≤ 999)) = true) (u : Int) (h0 : 0 ≤ u ∧ u ≤ 999) : ((x ++ [u]).all fun y => decide (0 ≤ y ∧ y ≤ 999)) = true := by
  rw [List.all_append, h]; simp [h0]
theorem stateX_l0 {l : List Int} (n : Int) (hn : n ≤ 13) (d : Nat) : ∀ (x : List Int) (p s : Int), (x.length : Int) + d = n → (l.length : Int) ≤ p → p + 4 * d ≤ 2000000000000000000 → (x.all fun y => decide (0 ≤ y ∧ y ≤ 999)) = true →
    ∃ (r : List Int) (m : Nat), Ev (fun k => spec_l1Cur_stateOf.l0 k x n l p s) (r, p + m, sig m s) ∧ (r.length : Int) = n ∧ m ≤ 3 * d + 5 ∧ (n ≤ 12 → goodRun s (3 * d + 1) → stateOk r = true) := by
  induction d with
  | zero =>
    intro x p s hx h0 h1 hv
    by_cases c : n > 0
    · obtain ⟨b, e1, gb⟩ := oneX p s 24 h0 (by omega) (by omega) (by omega)
      cases b with
      | false =>
        refine ⟨x, 1, ev_step (ev_step (g := fun k => spec_l1Cur_stateOf.j2 k x n false l (p + 1) (sig 1 s)) (f := fun _ => some (x, p + ((1 : Nat) : Int), sig 1 s)) (Ev.now _) (fun k => by rw [spec_l1Cur_stateOf.j2, if_neg (by decide)]; rfl)) (fun k => ?_), by omega, by omega, fun h12 _ => ?_⟩
        · rw [spec_l1Cur_stateOf.l0, if_neg (by omega), if_pos c, e1]; rfl
        · rw [stateOk, hv, Bool.true_and]; exact decide_eq_true (by omega)
      | true =>
        obtain ⟨i, m1, e2, i0, i1, q1, _⟩ := pickX (p + 1) (sig 1 s) n (by omega : (l.length : Int) ≤ p + 1) (by omega)
        obtain ⟨v, m2, e3, _, q2, _⟩ := amongX (p + 1 + m1) (sig m1 (sig 1 s)) (([(-1), 1000] : List Int)) (by decide) (by omega : (l.length : Int) ≤ p + 1 + m1) (by omega)
        have i1 := i1 (by omega)
        refine ⟨x.set i.toNat v, 1 + m1 + m2, ev_step (ev_step (g := fun k => spec_l1Cur_stateOf.j2 k x n true l (p + 1) (sig 1 s)) (f := fun _ => some (x.set i.toNat v, p + 1 + m1 + m2, sig m2 (sig m1 (sig 1 s)))) (ev_of_eq (fun _ => by rw [sig_add, sig_add]; congr 3; omega)) (fun k => ?_)) (fun k => ?_), by simp; omega, by omega, fun _ g => ?_⟩
        · rw [spec_l1Cur_stateOf.j2, if_pos rfl, e2]
          simp only [Option.bind_some]
          rw [e3]
          simp only [Option.bind_some]
          rw [if_pos i0, if_pos (by omega)]
        · rw [spec_l1Cur_stateOf.l0, if_neg (by omega), if_pos c, e1]; rfl
        · have := (g 0 (by omega)).2
          rw [sig] at this
          exact absurd (gb rfl) this
    · refine ⟨x, 0, ev_step (ev_step (g := fun k => spec_l1Cur_stateOf.j2 k x n false l p s) (f := fun _ => some (x, p + ((0 : Nat) : Int), sig 0 s)) (Ev.now _) (fun k => by rw [spec_l1Cur_stateOf.j2, if_neg (by decide), sig]; simp)) (fun k => ?_), by omega, by omega, fun h12 _ => ?_⟩
      · rw [spec_l1Cur_stateOf.l0, if_neg (by omega), if_neg c]
      · rw [stateOk, hv, Bool.true_and]; exact decide_eq_true (by omega)
  | succ d ih =>
    intro x p s hx h0 h1 hv
    obtain ⟨v, m1, e1, v0, v1, q1, _⟩ := pickX p s 1000 h0 (by omega)
    have v1 := v1 (by omega)
    obtain ⟨u, m2, e2, hu, _, q2⟩ := amongX (p + m1) (sig m1 s) (([0, 5, 999, v] : List Int)) (by simp) (by omega : (l.length : Int) ≤ p + m1) (by omega)
    obtain rfl := q2 (by simp) (by simp)
    have hu2 : 0 ≤ u ∧ u ≤ 999 := by
      simp only [List.mem_cons, List.not_mem_nil, or_false] at hu
      omega
    obtain ⟨r, m, e, hr, a, b⟩ := ih (x ++ [u]) (p + m1 + (1 : Nat)) (sig 1 (sig m1 s)) (by simp; omega) (by omega) (by omega) (state_put hv u hu2)
    refine ⟨r, m1 + 1 + m, ev_step (f := fun k => spec_l1Cur_stateOf.l0 k (x ++ [u]) n l (p + m1 + (1 : Nat)) (sig 1 (sig m1 s))) ?_ (fun k => ?_), hr, by omega, fun h12 g => b h12 (fun i hi => ?_)⟩
    · rw [sig_add, sig_add, show p + ((m1 + 1 + m : Nat) : Int) = p + m1 + (1 : Nat) + m by omega]
      exact e
    · rw [spec_l1Cur_stateOf.l0, if_pos (by omega), e1]
      simp only [Option.bind_some]
      rw [e2]
      simp only [Option.bind_some]
      rw [if_pos (by omega)]
    · have := g (m1 + 1 + i) (by omega)
      rw [sig_add, sig_add] at this
      exact this
theorem stateX {l : List Int} (p s : Int) (h0 : (l.length : Int) ≤ p) (h1 : p ≤ 1000000000000000000) : ∃ (r : List Int) (m : Nat), Ev (fun k => spec_l1Cur_stateOf.f k l p s) (r, p + m, sig m s) ∧ r.length ≤ 13 ∧ 1 ≤ m ∧ m ≤ 50 ∧ (goodRun s 60 → stateOk r = true) := by
  obtain ⟨n, m1, e1, n0, n1, _, q1⟩ := pickX p s 6 h0 (by omega)
  obtain ⟨rfl, _⟩ := q1 (by omega) (by omega)
  have n1 := n1 (by omega)
  obtain ⟨c, e2, gc⟩ := oneX (p + ((1 : Nat) : Int)) (sig 1 s) 16 (by omega : (l.length : Int) ≤ p + ((1 : Nat) : Int)) (by omega) (by omega) (by omega)
  cases c with
  | true =>
    obtain ⟨w, m3, e3, w0, w1, q3, _⟩ := pickX (p + ((1 : Nat) : Int) + 1) (sig 1 (sig 1 s)) 2 (by omega : (l.length : Int) ≤ p + ((1 : Nat) : Int) + 1) (by omega)
    have w1 := w1 (by omega)
    obtain ⟨r, m, e, hr, a, _⟩ := stateX_l0 (l := l) (12 + w) (by omega) (12 + w).toNat [] (p + ((1 : Nat) : Int) + 1 + m3) (sig m3 (sig 1 (sig 1 s))) (by simp; omega) (by omega) (by omega) rfl
    refine ⟨r, 1 + 1 + m3 + m, Ev.congr (fun k => ?_) (ev_step (g := fun k => spec_l1Cur_stateOf.j0 k [] (12 + w) l (p + ((1 : Nat) : Int) + 1 + m3) (sig m3 (sig 1 (sig 1 s)))) (f := fun k => spec_l1Cur_stateOf.l0 k [] (12 + w) l (p + ((1 : Nat) : Int) + 1 + m3) (sig m3 (sig 1 (sig 1 s)))) ?_ (fun k => by rw [spec_l1Cur_stateOf.j0])), by omega, by omega, by omega, fun g => ?_⟩
    · rw [spec_l1Cur_stateOf.f, e1]
      simp only [Option.bind_some]
      rw [e2]
      simp only [Option.bind_some, if_true]
      rw [e3]
      simp only [Option.bind_some]
      rw [wrapS (x := 12 + w) (by omega) (by omega)]
    · rw [sig_add, sig_add, sig_add, show p + ((1 + 1 + m3 + m : Nat) : Int) = p + ((1 : Nat) : Int) + 1 + m3 + m by omega]
      exact e
    · have := (g 1 (by omega)).1
      exact absurd (gc rfl) this
  | false =>
    obtain ⟨r, m, e, hr, a, b⟩ := stateX_l0 (l := l) n (by omega) n.toNat [] (p + ((1 : Nat) : Int) + 1) (sig 1 (sig 1 s)) (by simp; omega) (by omega) (by omega) rfl
    refine ⟨r, 1 + 1 + m, Ev.congr (fun k => ?_) (ev_step (g := fun k => spec_l1Cur_stateOf.j0 k [] n l (p + ((1 : Nat) : Int) + 1) (sig 1 (sig 1 s))) (f := fun k => spec_l1Cur_stateOf.l0 k [] n l (p + ((1 : Nat) : Int) + 1) (sig 1 (sig 1 s))) ?_ (fun k => by rw [spec_l1Cur_stateOf.j0])), by omega, by omega, by omega, fun g => b (by omega) (fun i hi => ?_)⟩
    · rw [spec_l1Cur_stateOf.f, e1]
      simp only [Option.bind_some]
      rw [e2]
      simp only [Option.bind_some, Bool.false_eq_true, if_false]
    · rw [sig_add, sig_add, show p + ((1 + 1 + m : Nat) : Int) = p + ((1 : Nat) : Int) + 1 + m by omega]
      exact e
    · have := g (1 + 1 + i) (by omega)
      rw [sig_add, sig_add] at this
      exact this
/-- One round behind the end of the bytes: a state is added, or nothing. -/
theorem roundX {l : List Int} (n : Int) (p s : Int) (h0 : (l.length : Int) ≤ p) (h1 : p ≤ 900000000000000000) : ∃ (r : List Int) (m : Nat) (b : Bool), r.length ≤ 13 ∧ 1 ≤ m ∧ m ≤ 52 ∧ (goodRun s 60 → b = true) ∧
    ∀ (x : List (List Int)), x.length ≤ 50 → (x.length : Int) < n → ∀ z, Ev (fun k => spec_DrawWriteAll.l0 k (if b = true then x ++ [r] else x) n l (p + m) (sig m s)) z → Ev (fun k => spec_DrawWriteAll.l0 k x n l p s) z := by
  obtain ⟨r, m, e, hr, m0, m1, g⟩ := stateX p s h0 (by omega)
  have e2 := jrState_ok r (by omega)
  cases gs : stateOk r with
  | true =>
    refine ⟨r, m, true, hr, m0, by omega, fun _ => rfl, fun x hx hn z hz => ?_⟩
    refine ev_step (f := fun k => (spec_l1Cur_stateOf.f k l p s).bind fun bt202 => ((spec_jrState.f k bt202.1).bind fun t207 => (if t207 = true then (if x.length < 5864062014805 then (spec_DrawWriteAll.l0 k (x ++ [bt202.1]) n l bt202.2.1 bt202.2.2) else (none)) else ((spec_l1Cur_one.f l bt202.2.1 bt202.2.2 6).bind fun bt211 => (if bt211.1 = true then (if x.length < 5864062014805 then (spec_DrawWriteAll.l0 k (x ++ [bt202.1]) n l bt211.2.1 bt211.2.2) else (none)) else (spec_DrawWriteAll.l0 k x n l bt211.2.1 bt211.2.2)))))) ?_ (fun k => by rw [spec_DrawWriteAll.l0, if_pos hn])
    refine Ev.bind e (Ev.bind e2 ?_)
    simp only [gs, if_true]
    rw [if_pos rfl] at hz
    simp only [show x.length < 5864062014805 from by omega, if_true]
    exact hz
  | false =>
    obtain ⟨b, e3, _⟩ := oneX (p + m) (sig m s) 6 (by omega : (l.length : Int) ≤ p + m) (by omega) (by omega) (by omega)
    refine ⟨r, m + 1, b, hr, by omega, by omega, fun q => ?_, fun x hx hn z hz => ?_⟩
    · rw [g q] at gs; cases gs
    refine ev_step (f := fun k => (spec_l1Cur_stateOf.f k l p s).bind fun bt202 => ((spec_jrState.f k bt202.1).bind fun t207 => (if t207 = true then (if x.length < 5864062014805 then (spec_DrawWriteAll.l0 k (x ++ [bt202.1]) n l bt202.2.1 bt202.2.2) else (none)) else ((spec_l1Cur_one.f l bt202.2.1 bt202.2.2 6).bind fun bt211 => (if bt211.1 = true then (if x.length < 5864062014805 then (spec_DrawWriteAll.l0 k (x ++ [bt202.1]) n l bt211.2.1 bt211.2.2) else (none)) else (spec_DrawWriteAll.l0 k x n l bt211.2.1 bt211.2.2)))))) ?_ (fun k => by rw [spec_DrawWriteAll.l0, if_pos hn])
    refine Ev.bind e (Ev.bind e2 ?_)
    simp only [gs, Bool.false_eq_true, if_false, e3, Option.bind_some]
    rw [sig_add, show p + ((m + 1 : Nat) : Int) = p + m + 1 by omega] at hz
    cases b with
    | true =>
      rw [if_pos rfl] at hz
      simp only [show x.length < 5864062014805 from by omega, if_true]
      exact hz
    | false =>
      rw [if_neg (by decide)] at hz
      simp only [Bool.false_eq_true, if_false]
      exact hz
def fine (z : List (List Int)) (n : Int) : Prop := (z.length : Int) = n ∧ ∀ y ∈ z, y.length ≤ 13
theorem good_tail {s : Int} {a : Nat} (g : goodRun s 135) (i : Nat) (hi : i + a ≤ 135) : goodRun (sig i s) a := by
  intro j hj
  have := g (i + j) (by omega)
  rw [sig_add] at this
  exact this
/-- Behind the end of the bytes: until N numbers on a run begins in which each round adds a state. -/
theorem all_end {l : List Int} (n : Int) (hn : n ≤ 41) (c : Nat) : ∀ (N : Nat) (x : List (List Int)) (p s : Int), (x.length : Int) + c = n → (∀ y ∈ x, y.length ≤ 13) → (l.length : Int) ≤ p → N ≤ 281474976710656 → goodRun (sig N s) 135 →
    p + N + (300000000000000 : Int) * c ≤ 500000000000000000 → ∃ z, Ev (fun k => spec_DrawWriteAll.l0 k x n l p s) z ∧ fine z n := by
  induction c with
  | zero =>
    intro N x p s hx hy h0 _ _ _
    refine ⟨x, ev_step (f := fun _ => some x) (Ev.now _) (fun k => by rw [spec_DrawWriteAll.l0, if_neg (by omega)]), by omega, hy⟩
  | succ c ihc =>
    intro N
    induction N using Nat.strongRecOn with
    | _ N ihN =>
      intro x p s hx hy h0 hN g hp
      have done : ∀ (r : List Int) (m : Nat), r.length ≤ 13 → m ≤ 250 → m ≤ N + 200 → ∃ z, Ev (fun k => spec_DrawWriteAll.l0 k (x ++ [r]) n l (p + m) (sig m s)) z ∧ fine z n := by
        intro r m hr hm hm2
        obtain ⟨N2, h2, g2⟩ := run_any (sig m s)
        refine ihc N2 (x ++ [r]) (p + m) (sig m s) (by simp; omega) ?_ (by omega) h2 g2 (by omega)
        intro y hy2
        rcases List.mem_append.1 hy2 with h | h
        · exact hy y h
        · rw [List.mem_singleton.1 h]; exact hr
      obtain ⟨r, m, b, hr, m0, m1, gb, hstep⟩ := roundX (l := l) n p s h0 (by omega)
      have hx2 : (x.length : Int) < n := by omega
      cases b with
      | true =>
        obtain ⟨z, hz, fz⟩ := done r m hr (by omega) (by omega)
        exact ⟨z, hstep x (by omega) hx2 z (by rw [if_pos rfl]; exact hz), fz⟩
      | false =>
        by_cases d : m ≤ N
        · obtain ⟨z, hz, fz⟩ := ihN (N - m) (by omega) x (p + m) (sig m s) hx hy (by omega) (by omega) (by rw [← sig_add, show m + (N - m) = N by omega]; exact g) (by omega)
          exact ⟨z, hstep x (by omega) hx2 z (by rw [if_neg (by decide)]; exact hz), fz⟩
        · obtain ⟨r2, m2, b2, hr2, k0, k1, gb2, hstep2⟩ := roundX (l := l) n (p + m) (sig m s) (by omega) (by omega)
          have hb2 : b2 = true := by
            refine gb2 ?_
            have := good_tail (a := 60) g (m - N) (by omega)
            rw [← sig_add, show N + (m - N) = m by omega] at this
            exact this
          subst hb2
          obtain ⟨z, hz, fz⟩ := done r2 (m + m2) hr2 (by omega) (by omega)
          rw [sig_add, show p + ((m + m2 : Nat) : Int) = p + m + m2 by omega] at hz
          have hz2 := hstep2 x (by omega) hx2 z (by rw [if_pos rfl]; exact hz)
          exact ⟨z, hstep x (by omega) hx2 z (by rw [if_neg (by decide)]; exact hz2), fz⟩
/-- Within the bytes. -/
theorem all_in {l : List Int} (hb : bytesOk l) (hl : l.length ≤ 1048576) (n : Int) (hn : n ≤ 41) (d : Nat) : ∀ (x : List (List Int)) (c : Nat) (p s : Int), (x.length : Int) + c = n → (∀ y ∈ x, y.length ≤ 13) → 0 ≤ p → (l.length : Int) ≤ p + d → p ≤ 2000000 →
    ∃ z, Ev (fun k => spec_DrawWriteAll.l0 k x n l p s) z ∧ fine z n := by
  induction d with
  | zero =>
    intro x c p s hx hy h0 hd hp
    obtain ⟨N, h2, g2⟩ := run_any s
    exact all_end n hn c N x p s hx hy (by omega) h2 g2 (by omega)
  | succ d ih =>
    intro x c p s hx hy h0 hd hp
    by_cases hlp : (l.length : Int) ≤ p
    · obtain ⟨N, h2, g2⟩ := run_any s
      exact all_end n hn c N x p s hx hy (by omega) h2 g2 (by omega)
    cases c with
    | zero => exact ⟨x, ev_step (f := fun _ => some x) (Ev.now _) (fun k => by rw [spec_DrawWriteAll.l0, if_neg (by omega)]), by omega, hy⟩
    | succ c =>
      obtain ⟨r, p1, s1, e, hr, a1, b1⟩ := stateOf_ok hb p s h0 (by omega)
      have e2 := jrState_ok r (by omega)
      have more : ∀ p2 s2, p1 ≤ p2 → p2 ≤ p1 + 2 → ∃ z, Ev (fun k => spec_DrawWriteAll.l0 k (x ++ [r]) n l p2 s2) z ∧ fine z n := by
        intro p2 s2 q0 q1
        refine ih (x ++ [r]) c p2 s2 (by simp; omega) (fun y hy2 => ?_) (by omega) (by omega) (by omega)
        rcases List.mem_append.1 hy2 with h | h
        · exact hy y h
        · rw [List.mem_singleton.1 h]; exact hr
      have step : ∀ z, Ev (fun k => (spec_l1Cur_stateOf.f k l p s).bind fun bt202 => ((spec_jrState.f k bt202.1).bind fun t207 => (if t207 = true then (if x.length < 5864062014805 then (spec_DrawWriteAll.l0 k (x ++ [bt202.1]) n l bt202.2.1 bt202.2.2) else (none)) else ((spec_l1Cur_one.f l bt202.2.1 bt202.2.2 6).bind fun bt211 => (if bt211.1 = true then (if x.length < 5864062014805 then (spec_DrawWriteAll.l0 k (x ++ [bt202.1]) n l bt211.2.1 bt211.2.2) else (none)) else (spec_DrawWriteAll.l0 k x n l bt211.2.1 bt211.2.2)))))) z → Ev (fun k => spec_DrawWriteAll.l0 k x n l p s) z := fun z hz => ev_step hz (fun k => by rw [spec_DrawWriteAll.l0, if_pos (by omega)])
      have hx50 : x.length < 5864062014805 := by omega
      cases gs : stateOk r with
      | true =>
        obtain ⟨z, hz, fz⟩ := more p1 s1 (by omega) (by omega)
        refine ⟨z, step z (Ev.bind e (Ev.bind e2 ?_)), fz⟩
        simp only [gs, if_true, hx50]
        exact hz
      | false =>
        obtain ⟨b, p2, s2, e3, a2, b2⟩ := one_ok hb p1 s1 6 (by omega) (by omega)
        cases b with
        | true =>
          obtain ⟨z, hz, fz⟩ := more p2 s2 (by omega) (by omega)
          refine ⟨z, step z (Ev.bind e (Ev.bind e2 ?_)), fz⟩
          simp only [gs, Bool.false_eq_true, if_false, e3, Option.bind_some, if_true, hx50]
          exact hz
        | false =>
          obtain ⟨z, hz, fz⟩ := ih x (c + 1) p2 s2 hx hy (by omega) (by omega) (by omega)
          refine ⟨z, step z (Ev.bind e (Ev.bind e2 ?_)), fz⟩
          simp only [gs, Bool.false_eq_true, if_false, e3, Option.bind_some]
          exact hz
theorem drawAll_ok {l : List Int} (hb : bytesOk l) (hl : l.length ≤ 1048576) : ∃ z : List (List Int), Ev (fun k => spec_DrawWriteAll.f k l) z ∧ z.length ≤ 41 ∧ ∀ y ∈ z, y.length ≤ 13 := by
  obtain ⟨n, p1, s1, e1, n0, n1, a1, b1⟩ := pick_ok hb 0 0 6 (by omega) (by omega)
  have n1 := n1 (by omega)
  obtain ⟨c, p2, s2, e2, a2, b2⟩ := one_ok hb p1 s1 20 (by omega) (by omega)
  cases c with
  | true =>
    obtain ⟨m, p3, s3, e3, m0, m1, a3, b3⟩ := pick_ok hb p2 s2 2 (by omega) (by omega)
    have m1 := m1 (by omega)
    obtain ⟨z, hz, fz⟩ := all_in hb hl (40 + m) (by omega) l.length [] (40 + m).toNat p3 s3 (by simp; omega) (by simp) (by omega) (by omega) (by omega)
    refine ⟨z, Ev.congr (fun k => ?_) (ev_step (g := fun k => spec_DrawWriteAll.j0 k [] (40 + m) l p3 s3) (f := fun k => spec_DrawWriteAll.l0 k [] (40 + m) l p3 s3) hz (fun k => by rw [spec_DrawWriteAll.j0])), by have := fz.1; omega, fz.2⟩
    rw [spec_DrawWriteAll.f, e1]
    simp only [Option.bind_some]
    rw [e2]
    simp only [Option.bind_some, if_true]
    rw [e3]
    simp only [Option.bind_some]
    rw [wrapS (x := 40 + m) (by omega) (by omega)]
  | false =>
    obtain ⟨z, hz, fz⟩ := all_in hb hl n (by omega) l.length [] n.toNat p2 s2 (by simp; omega) (by simp) (by omega) (by omega) (by omega)
    refine ⟨z, Ev.congr (fun k => ?_) (ev_step (g := fun k => spec_DrawWriteAll.j0 k [] n l p2 s2) (f := fun k => spec_DrawWriteAll.l0 k [] n l p2 s2) hz (fun k => by rw [spec_DrawWriteAll.j0])), by have := fz.1; omega, fz.2⟩
    rw [spec_DrawWriteAll.f, e1]
    simp only [Option.bind_some]
    rw [e2]
    simp only [Option.bind_some, Bool.false_eq_true, if_false]

end Go.Proofs.Ytlbbkepkincleaa.LFnAreasD
