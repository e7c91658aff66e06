/- Plain lemmas on what the printed functions of this law compute; each with the conditions that it names. -/
import Derived.Test.YtlbbkepkincleaaQFnCrashesx1
import Derived.Test.YtlbbkepkincleaaQFnCrashesx2
import Derived.Test.YtlbbkepkincleaaQFnCrashesx3
import Derived.Test.YtlbbkepkincleaaQFnCrashesx4
import Derived.Test.YtlbbkepkincleaaQFnCrashesx5
import Derived.Test.YtlbbkepkincleaaQFnCrashesx6
import Derived.Test.YtlbbkepkincleaaQFnCrashesx7
import Derived.Test.YtlbbkepkincleaaQFnCrashesx8
import Derived.Test.YtlbbkepkincleaaBaseFnCrashes
import Derived.Laws.Bits64b
namespace Go.Proofs.Ytlbbkepkincleaa.LFnCrashesD
open Go Go.RowKit Go.Proofs.Ytlbbkepkincleaa.QFnCrashes Go.Proofs.YtlbbkepkincleaaW.PrintWords Go.Proofs.YtlbbkepkincleaaW.PrintLast Go.Proofs.YtlbbkepkincleaaW.PrintMore Go.Proofs.Ytlbbkepkincleaa.Base
set_option linter.unusedVariables false
set_option linter.unusedSimpArgs false

/-! all numbers of a list lie in a range -/
theorem l1All_l0 (lo hi : Int) (suf : List Int) : ∀ pre : List Int, (pre ++ suf).length ≤ 9223372036854775806 →
    Ev (fun k => spec_l1All.l0 k lo hi (pre ++ suf) ((pre ++ suf).length : Int) (pre.length : Int)) (suf.all fun x => decide (lo ≤ x ∧ x ≤ hi)) := by
  induction suf with
  | nil =>
    intro pre _
    refine ev_step (Ev.now _) (fun k => ?_)
    rw [spec_l1All.l0, if_neg (by simp)]
    rfl
  | cons x suf ih =>
    intro pre hl
    have h := ih (pre ++ [x]) (by simp at hl ⊢; omega)
    rw [snoc_app, snoc_leni] at h
    have hl' : (pre.length : Int) < ((pre ++ x :: suf).length : Int) := by simp; omega
    have hw : wrap64 ((pre.length : Int) + 1) = (pre.length : Int) + 1 := wrapS (by omega) (by simp at hl; omega)
    by_cases h1 : lo ≤ x ∧ x ≤ hi
    · refine ev_step (ev_eq h (by simp [h1])) (fun k => ?_)
      rw [spec_l1All.l0, if_pos hl', if_pos (by omega), if_pos hl', rd_mid, hw]
      simp [spec_l1In.f, h1]
    · refine ev_step (f := fun _ => some _) (Ev.now _) (fun k => ?_)
      rw [spec_l1All.l0, if_pos hl', if_pos (by omega), if_pos hl', rd_mid, hw]
      by_cases h2 : lo ≤ x
      · have h3 : ¬ x ≤ hi := fun h3 => h1 ⟨h2, h3⟩
        simp [spec_l1In.f, h2, h3]
      · simp [spec_l1In.f, h2]
theorem l1All_ok (l : List Int) (lo hi : Int) (h : l.length ≤ 9223372036854775806) : Ev (fun k => spec_l1All.f k l lo hi) (l.all fun x => decide (lo ≤ x ∧ x ≤ hi)) :=
  Ev.congr (fun _ => rfl) (l1All_l0 lo hi l [] (by simpa using h))

/-! a state -/
def stateOk (l : List Int) : Bool := (l.all fun x => decide (0 ≤ x ∧ x ≤ 999)) && decide (l.length ≤ 12)
theorem jrState_ok (l : List Int) (h : l.length ≤ 9223372036854775806) : Ev (fun k => spec_jrState.f k l) (stateOk l) := by
  by_cases h2 : l.length ≤ 12
  · refine Ev.congr (fun k => ?_) (ev_eq (l1All_ok l 0 999 h) ?_)
    · rw [spec_jrState.f, if_pos (by omega)]; simp
    · simp [stateOk, h2]
  · refine Ev.congr (f := fun _ => some (stateOk l)) (fun k => ?_) (Ev.now _)
    rw [spec_jrState.f, if_neg (by omega)]
    simp [stateOk, h2]
theorem isState_l0 (l : List Int) (suf : List Int) : ∀ pre : List Int, (pre ++ suf).length ≤ 9223372036854775806 →
    Ev (fun k => impl_IsState.l0 k l (pre ++ suf) ((pre ++ suf).length : Int) (pre.length : Int)) ((suf.all fun x => decide (0 ≤ x ∧ x ≤ 999)) && decide (l.length ≤ 12)) := by
  induction suf with
  | nil =>
    intro pre _
    refine ev_step (f := fun _ => some _) (Ev.now _) (fun k => ?_)
    rw [impl_IsState.l0, if_neg (by simp)]
    have e : decide ((l.length : Int) ≤ 12) = decide (l.length ≤ 12) := by
      by_cases h : l.length ≤ 12
      · simp [h]; omega
      · simp [h]; omega
    rw [e]; simp
  | cons x suf ih =>
    intro pre hl
    have h := ih (pre ++ [x]) (by simp at hl ⊢; omega)
    rw [snoc_app, snoc_leni] at h
    have hl' : (pre.length : Int) < ((pre ++ x :: suf).length : Int) := by simp; omega
    have hw : wrap64 ((pre.length : Int) + 1) = (pre.length : Int) + 1 := wrapS (by omega) (by simp at hl; omega)
    by_cases h1 : 0 ≤ x ∧ x ≤ 999
    · refine ev_step (ev_eq h (by simp [h1])) (fun k => ?_)
      rw [impl_IsState.l0, if_pos hl', if_pos (by omega), if_pos hl', rd_mid, hw, if_neg (by omega), if_neg (by omega)]
    · refine ev_step (f := fun _ => some _) (Ev.now _) (fun k => ?_)
      rw [impl_IsState.l0, if_pos hl', if_pos (by omega), if_pos hl', rd_mid, hw]
      by_cases h2 : x < 0
      · rw [if_pos h2]; simp [show ¬ 0 ≤ x by omega]
      · rw [if_neg h2, if_pos (by omega)]; simp [show ¬ x ≤ 999 by omega]
theorem isState_ok (l : List Int) (h : l.length ≤ 9223372036854775806) : Ev (fun k => impl_IsState.f k l) (stateOk l) :=
  Ev.congr (fun _ => rfl) (isState_l0 l l [] (by simpa using h))

/-! an area -/
def areaOk (l : List Int) : Bool := (l.all fun x => decide (0 ≤ x ∧ x ≤ 9999)) && decide (l.length = 15)
theorem jrArea_ok (l : List Int) (h : l.length ≤ 9223372036854775806) : Ev (fun k => spec_jrArea.f k l) (areaOk l) := by
  by_cases h2 : l.length = 15
  · refine Ev.congr (fun k => ?_) (ev_eq (l1All_ok l 0 9999 h) ?_)
    · rw [spec_jrArea.f, if_pos (by omega)]; simp
    · simp [areaOk, h2]
  · refine Ev.congr (f := fun _ => some (areaOk l)) (fun k => ?_) (Ev.now _)
    rw [spec_jrArea.f, if_neg (by omega)]
    simp [areaOk, h2]
theorem isArea_l0 (l : List Int) (suf : List Int) : ∀ pre : List Int, (pre ++ suf).length ≤ 9223372036854775806 →
    Ev (fun k => impl_isArea.l0 k l (pre ++ suf) ((pre ++ suf).length : Int) (pre.length : Int)) ((suf.all fun x => decide (0 ≤ x ∧ x ≤ 9999)) && decide (l.length = 15)) := by
  induction suf with
  | nil =>
    intro pre _
    refine ev_step (f := fun _ => some _) (Ev.now _) (fun k => ?_)
    rw [impl_isArea.l0, if_neg (by simp)]
    have e : ((l.length : Int) == 15) = decide (l.length = 15) := by
      by_cases h : l.length = 15
      · simp [h]
      · simp [h]; omega
    rw [e]; simp
  | cons x suf ih =>
    intro pre hl
    have h := ih (pre ++ [x]) (by simp at hl ⊢; omega)
    rw [snoc_app, snoc_leni] at h
    have hl' : (pre.length : Int) < ((pre ++ x :: suf).length : Int) := by simp; omega
    have hw : wrap64 ((pre.length : Int) + 1) = (pre.length : Int) + 1 := wrapS (by omega) (by simp at hl; omega)
    by_cases h1 : 0 ≤ x ∧ x ≤ 9999
    · refine ev_step (ev_eq h (by simp [h1])) (fun k => ?_)
      rw [impl_isArea.l0, if_pos hl', if_pos (by omega), if_pos hl', rd_mid, hw, if_neg (by omega), if_neg (by omega)]
    · refine ev_step (f := fun _ => some _) (Ev.now _) (fun k => ?_)
      rw [impl_isArea.l0, if_pos hl', if_pos (by omega), if_pos hl', rd_mid, hw]
      by_cases h2 : x < 0
      · rw [if_pos h2]; simp [show ¬ 0 ≤ x by omega]
      · rw [if_neg h2, if_pos (by omega)]; simp [show ¬ x ≤ 9999 by omega]
theorem isArea_ok (l : List Int) (h : l.length ≤ 9223372036854775806) : Ev (fun k => impl_isArea.f k l) (areaOk l) :=
  Ev.congr (fun _ => rfl) (isArea_l0 l l [] (by simpa using h))
theorem l1Own_ok (l : List Int) (h : l.length ≤ 1048576000) : spec_l1Own.f l = some l := by
  unfold spec_l1Own.f
  simp only [Option.bind_some, List.length_nil, List.nil_append]
  rw [if_pos (by omega)]
theorem area_len {l : List Int} (h : areaOk l = true) : l.length = 15 := by
  simp only [areaOk, Bool.and_eq_true, decide_eq_true_eq] at h; exact h.2

/-! the area of a state, and what an area holds -/
theorem sum_same (l : List Int) : ∀ i s, spec_jrCheck.sum i l s = impl_areaOf.sum i l s := by
  induction l with
  | nil => intro i s; rfl
  | cons x l ih => intro i s; simp only [spec_jrCheck.sum, impl_areaOf.sum, ih]
def mk (g : Int) (l : List Int) : List Int := impl_areaOf.body g l ++ [Int.tmod (impl_areaOf.sum 0 (impl_areaOf.body g l) 0) 9973]
theorem body_len (g : Int) (l : List Int) (h : l.length ≤ 12) : (impl_areaOf.body g l).length = 14 := by
  simp [impl_areaOf.body]; omega
theorem mk_len (g : Int) (l : List Int) (h : l.length ≤ 12) : (mk g l).length = 15 := by
  simp [mk, body_len g l h]
theorem areaOf_ok (g : Int) (l : List Int) (h : l.length ≤ 12) : impl_areaOf.f g l = some (mk g l) := by
  rw [impl_areaOf.f, if_pos h]; rfl

theorem jrMake_l0 (g : Int) (suf : List Int) : ∀ pre : List Int, (pre ++ suf).length ≤ 12 →
    Ev (fun k => spec_jrMake.l0 k (g :: ((pre ++ suf).length : Int) :: (pre ++ List.replicate (13 - pre.length) 0)) (pre ++ suf) ((pre ++ suf).length : Int) (pre.length : Int)) (mk g (pre ++ suf)) := by
  induction suf with
  | nil =>
    intro pre hl
    refine ev_step (f := fun _ => some _) (Ev.now _) (fun k => ?_)
    simp only [List.append_nil] at hl ⊢
    have e : g :: (pre.length : Int) :: (pre ++ List.replicate (13 - pre.length) 0) = impl_areaOf.body g pre ++ [0] := by
      rw [show 13 - pre.length = (12 - pre.length) + 1 by omega, List.replicate_succ']
      simp [impl_areaOf.body]
    have hb := body_len g pre hl
    rw [spec_jrMake.l0, if_neg (by omega), e, spec_jrCheck.f, if_pos (by simp [hb])]
    simp only [Option.bind_some]
    rw [if_pos (by simp [hb]), sum_same]
    have e1 : (impl_areaOf.body g pre ++ [0]).take 14 = impl_areaOf.body g pre := by
      rw [List.take_append_of_le_length (by omega), List.take_of_length_le (by omega)]
    rw [e1]
    congr 1
    rw [mk]
    exact set_mid _ [] _ _ _ hb.symm
  | cons x suf ih =>
    intro pre hl
    have hl2 : pre.length + suf.length + 1 ≤ 12 := by simp at hl; omega
    have h := ih (pre ++ [x]) (by simp; omega)
    rw [snoc_app, snoc_app, snoc_leni] at h
    have hl' : (pre.length : Int) < ((pre ++ x :: suf).length : Int) := by simp; omega
    have hw : wrap64 ((pre.length : Int) + 1) = (pre.length : Int) + 1 := wrapS (by omega) (by omega)
    have hw2 : wrap64 (2 + (pre.length : Int)) = 2 + (pre.length : Int) := wrapS (by omega) (by omega)
    refine ev_step h (fun k => ?_)
    rw [spec_jrMake.l0, if_pos hl', if_pos (by omega), if_pos hl', hw2, hw, if_pos (by omega), if_pos (by simp; omega), rd_mid]
    have e : (2 + (pre.length : Int)).toNat = pre.length + 1 + 1 := by omega
    rw [e, List.set_cons_succ, List.set_cons_succ, show 13 - pre.length = (13 - (pre ++ [x]).length) + 1 by simp; omega, List.replicate_succ, set_mid _ _ _ _ _ rfl]

theorem jrMake_ok (g : Int) (l : List Int) (h : l.length ≤ 12) : Ev (fun k => spec_jrMake.f k g l) (mk g l) := by
  have := jrMake_l0 g l [] (by simpa using h)
  refine Ev.congr (fun k => ?_) this
  rw [spec_jrMake.f, if_pos (by omega)]
  rfl

theorem l1Same_l0 (sa : List Int) : ∀ (sb pre : List Int), sa.length = sb.length → (pre ++ sa).length ≤ 1048576000 →
    Ev (fun k => spec_l1Same.l0 k (pre ++ sa) (pre ++ sb) ((pre ++ sa).length : Int) (pre.length : Int)) (decide (sa = sb)) := by
  induction sa with
  | nil =>
    intro sb pre hs hl
    cases sb with
    | cons y sb => simp at hs
    | nil =>
      refine ev_step (f := fun _ => some _) (Ev.now _) (fun k => ?_)
      rw [spec_l1Same.l0, if_neg (by simp)]
      simp
  | cons x sa ih =>
    intro sb pre hs hl
    cases sb with
    | nil => simp at hs
    | cons y sb =>
      have hl' : (pre.length : Int) < ((pre ++ x :: sa).length : Int) := by simp; omega
      have hl2 : (pre.length : Int) < ((pre ++ y :: sb).length : Int) := by simp; omega
      have hw : wrap64 ((pre.length : Int) + 1) = (pre.length : Int) + 1 := wrapS (by omega) (by simp at hl; omega)
      by_cases h : x = y
      · subst h
        have h1 := ih sb (pre ++ [x]) (by simpa using hs) (by simp at hl ⊢; omega)
        rw [snoc_app, snoc_app, snoc_leni] at h1
        refine ev_step (ev_eq h1 (by simp)) (fun k => ?_)
        rw [spec_l1Same.l0, if_pos hl', if_pos (by omega), if_pos hl', if_pos hl2, rd_mid, rd_mid, if_pos rfl, hw]
      · refine ev_step (f := fun _ => some _) (Ev.now _) (fun k => ?_)
        rw [spec_l1Same.l0, if_pos hl', if_pos (by omega), if_pos hl', if_pos hl2, rd_mid, rd_mid, if_neg h]
        simp [h]
theorem l1Same_ok (a b : List Int) (h : a.length ≤ 1048576000) : Ev (fun k => spec_l1Same.f k a b) (decide (a = b)) := by
  by_cases hs : a.length = b.length
  · refine Ev.congr (fun k => ?_) (l1Same_l0 a b [] hs (by simpa using h))
    rw [spec_l1Same.f, if_pos (by omega)]
    rfl
  · refine Ev.congr (f := fun _ => some _) (fun k => ?_) (Ev.now _)
    rw [spec_l1Same.f, if_neg (by omega)]
    have : a ≠ b := fun e => hs (by rw [e])
    simp [this]
theorem equal_l0 (sa : List Int) : ∀ (sb pre : List Int), sa.length = sb.length → (pre ++ sa).length ≤ 1048576000 →
    Ev (fun k => slices_Equal_int_int.l0 k (pre ++ sa) (pre ++ sb) ((pre ++ sa).length : Int) (pre.length : Int)) (decide (sa = sb)) := by
  induction sa with
  | nil =>
    intro sb pre hs hl
    cases sb with
    | cons y sb => simp at hs
    | nil =>
      refine ev_step (f := fun _ => some _) (Ev.now _) (fun k => ?_)
      rw [slices_Equal_int_int.l0, if_neg (by simp)]
      simp
  | cons x sa ih =>
    intro sb pre hs hl
    cases sb with
    | nil => simp at hs
    | cons y sb =>
      have hl' : (pre.length : Int) < ((pre ++ x :: sa).length : Int) := by simp; omega
      have hl2 : (pre.length : Int) < ((pre ++ y :: sb).length : Int) := by simp; omega
      have hw : wrap64 ((pre.length : Int) + 1) = (pre.length : Int) + 1 := wrapS (by omega) (by simp at hl; omega)
      by_cases h : x = y
      · subst h
        have h1 := ih sb (pre ++ [x]) (by simpa using hs) (by simp at hl ⊢; omega)
        rw [snoc_app, snoc_app, snoc_leni] at h1
        refine ev_step (ev_eq h1 (by simp)) (fun k => ?_)
        rw [slices_Equal_int_int.l0, if_pos hl', if_pos (by omega), if_pos hl', if_pos hl2, rd_mid, rd_mid, if_pos rfl, hw]
      · refine ev_step (f := fun _ => some _) (Ev.now _) (fun k => ?_)
        rw [slices_Equal_int_int.l0, if_pos hl', if_pos (by omega), if_pos hl', if_pos hl2, rd_mid, rd_mid, if_neg h]
        simp [h]
theorem equal_ok (a b : List Int) (h : a.length ≤ 1048576000) : Ev (fun k => slices_Equal_int_int.f k a b) (decide (a = b)) := by
  by_cases hs : a.length = b.length
  · refine Ev.congr (fun k => ?_) (equal_l0 a b [] hs (by simpa using h))
    rw [slices_Equal_int_int.f, if_pos (by omega)]
    rfl
  · refine Ev.congr (f := fun _ => some _) (fun k => ?_) (Ev.now _)
    rw [slices_Equal_int_int.f, if_neg (by omega)]
    have : a ≠ b := fun e => hs (by rw [e])
    simp [this]

/-- The numbers behind the head of an area. -/
def held (a : List Int) : List Int := (a.take (2 + rd a 1).toNat).drop 2
/-- The generation (0: not whole) and the state of an area. -/
def readA (a : List Int) : Int × List Int :=
  if 1 ≤ rd a 0 ∧ rd a 0 ≤ 999 ∧ rd a 1 ≤ 12 ∧ stateOk (held a) = true ∧ mk (rd a 0) (held a) = a then (rd a 0, held a) else (0, [])
theorem readA_yes {a : List Int} (h : 1 ≤ rd a 0 ∧ rd a 0 ≤ 999 ∧ rd a 1 ≤ 12 ∧ stateOk (held a) = true ∧ mk (rd a 0) (held a) = a) : readA a = (rd a 0, held a) := if_pos h
theorem readA_no {a : List Int} (h : (1 ≤ rd a 0 ∧ rd a 0 ≤ 999 ∧ rd a 1 ≤ 12 ∧ stateOk (held a) = true ∧ mk (rd a 0) (held a) = a) → False) : readA a = (0, []) := if_neg h
theorem area_rd {a : List Int} (h : areaOk a = true) (i : Nat) (hi : i < 15) : 0 ≤ rd a (i : Int) ∧ rd a (i : Int) ≤ 9999 := by
  have hl := area_len h
  rw [rd_nat a i (by omega)]
  simp only [areaOk, Bool.and_eq_true, List.all_eq_true, decide_eq_true_eq] at h
  exact h.1 _ (List.getElem_mem _)
theorem state_len {l : List Int} (h : stateOk l = true) : l.length ≤ 12 := by
  simp only [stateOk, Bool.and_eq_true, decide_eq_true_eq] at h; exact h.2
theorem held_len (a : List Int) : (held a).length ≤ a.length := by
  unfold held; simp; omega

theorem jrRead_ok (a : List Int) (h : areaOk a = true) : Ev (fun k => spec_jrRead.f k a) ((readA a).1, (readA a).2, decide ((readA a).1 > 0)) := by
  have hl := area_len h
  have h0 := area_rd h 0 (by omega)
  have h1 := area_rd h 1 (by omega)
  simp only [Int.ofNat_zero, Int.natCast_one, Int.natCast_zero, Int.ofNat_one] at h0 h1
  have hw : wrap64 (2 + rd a 1) = 2 + rd a 1 := wrapS (by omega) (by omega)
  have J1 : ∀ b, b = true → Ev (fun k => spec_jrRead.j0 k a b) (0, [], false) := by
    intro b hb
    refine ev_step (f := fun _ => some _) (Ev.now _) (fun k => ?_)
    rw [spec_jrRead.j0, if_pos hb]
  by_cases g : 1 ≤ rd a 0 ∧ rd a 0 ≤ 999
  · have eg : spec_jrGeneration.f (rd a 0) = some true := by simp [spec_jrGeneration.f, spec_l1In.f, g.1, g.2]
    by_cases n : rd a 1 ≤ 12
    · have J0 : Ev (fun k => spec_jrRead.j0 k a false) ((readA a).1, (readA a).2, decide ((readA a).1 > 0)) := by
        have hh := held_len a
        obtain ⟨K1, e1⟩ := jrState_ok (held a) (by omega)
        dsimp only at e1
        by_cases s : stateOk (held a) = true
        · have hs := state_len s
          obtain ⟨K2, e2⟩ := jrMake_ok (rd a 0) (held a) hs
          obtain ⟨K3, e3⟩ := l1Same_ok (mk (rd a 0) (held a)) a (by rw [mk_len _ _ hs]; omega)
          dsimp only at e2 e3
          refine ⟨K1 + K2 + K3 + 2, fun k hk => ?_⟩
          obtain ⟨m, rfl⟩ : ∃ m, k = m + 1 := ⟨k - 1, by omega⟩
          dsimp only
          rw [spec_jrRead.j0, if_neg (by decide), if_pos (by omega), hw, if_pos (by omega), if_pos (by omega), show (a.take (2 + rd a 1).toNat).drop 2 = held a from rfl, l1Own_ok _ (by omega)]
          simp only [Option.bind_some]
          rw [e1 m (by omega), s]
          simp only [Option.bind_some, if_true]
          rw [if_pos (by omega), e2 m (by omega)]
          simp only [Option.bind_some]
          rw [e3 m (by omega)]
          simp only [Option.bind_some]
          by_cases q : mk (rd a 0) (held a) = a
          · rw [readA_yes ⟨g.1, g.2, n, s, q⟩]
            simp [q, show rd a 0 > 0 by omega]
          · rw [readA_no (fun x => q x.2.2.2.2)]
            simp [q]
        · refine ⟨K1 + 2, fun k hk => ?_⟩
          obtain ⟨m, rfl⟩ : ∃ m, k = m + 1 := ⟨k - 1, by omega⟩
          dsimp only
          rw [spec_jrRead.j0, if_neg (by decide), if_pos (by omega), hw, if_pos (by omega), if_pos (by omega), show (a.take (2 + rd a 1).toNat).drop 2 = held a from rfl, l1Own_ok _ (by omega)]
          simp only [Option.bind_some]
          rw [e1 m (by omega), readA_no (fun x => s x.2.2.2.1)]
          simp [s]
      refine Ev.congr (fun k => ?_) J0
      rw [spec_jrRead.f, if_pos (by omega), eg]
      simp only [Option.bind_some, if_true]
      rw [if_pos (by omega)]
      simp [show ¬ rd a 1 > 12 by omega]
    · refine Ev.congr (fun k => ?_) (ev_eq (J1 true rfl) ?_)
      · rw [spec_jrRead.f, if_pos (by omega), eg]
        simp only [Option.bind_some, if_true]
        rw [if_pos (by omega)]
        simp [show rd a 1 > 12 by omega]
      · rw [readA_no (fun x => n x.2.2.1)]; simp
  · have eg : spec_jrGeneration.f (rd a 0) = some false := by
      by_cases g1 : 1 ≤ rd a 0
      · have g2 : ¬ rd a 0 ≤ 999 := fun g2 => g ⟨g1, g2⟩
        simp [spec_jrGeneration.f, spec_l1In.f, g1, g2]
      · simp [spec_jrGeneration.f, spec_l1In.f, g1]
    refine Ev.congr (fun k => ?_) (ev_eq (J1 true rfl) ?_)
    · rw [spec_jrRead.f, if_pos (by omega), eg]
      simp
    · rw [readA_no (fun x => g ⟨x.1, x.2.1⟩)]; simp

theorem readArea_ok (a : List Int) (h : areaOk a = true) : Ev (fun k => impl_readArea.f k a) (readA a) := by
  have hl := area_len h
  have h0 := area_rd h 0 (by omega)
  have h1 := area_rd h 1 (by omega)
  simp only [Int.ofNat_zero, Int.natCast_one, Int.natCast_zero, Int.ofNat_one] at h0 h1
  have hw : wrap64 (2 + rd a 1) = 2 + rd a 1 := wrapS (by omega) (by omega)
  have J1 : ∀ b, b = true → Ev (fun k => impl_readArea.j0 k a b) (0, []) := by
    intro b hb
    refine ev_step (f := fun _ => some _) (Ev.now _) (fun k => ?_)
    rw [impl_readArea.j0, if_pos hb]
  by_cases g1 : rd a 0 < 1
  · refine Ev.congr (fun k => ?_) (ev_eq (J1 true rfl) ?_)
    · rw [impl_readArea.f, if_pos (by omega), if_pos g1]
    · rw [readA_no (fun x => by omega)]
  by_cases g2 : rd a 0 > 999
  · refine Ev.congr (fun k => ?_) (ev_eq (J1 true rfl) ?_)
    · rw [impl_readArea.f, if_pos (by omega), if_neg g1, if_pos g2]
    · rw [readA_no (fun x => by omega)]
  by_cases n : rd a 1 ≤ 12
  · have J0 : Ev (fun k => impl_readArea.j0 k a false) (readA a) := by
      have hh := held_len a
      obtain ⟨K1, e1⟩ := isState_ok (held a) (by omega)
      dsimp only at e1
      have ec : slices_Clone_int_int.f (held a) = some (held a) := by rw [slices_Clone_int_int.f, if_pos (by omega)]
      by_cases s : stateOk (held a) = true
      · have hs := state_len s
        obtain ⟨K3, e3⟩ := equal_ok (mk (rd a 0) (held a)) a (by rw [mk_len _ _ hs]; omega)
        dsimp only at e3
        refine ⟨K1 + K3 + 2, fun k hk => ?_⟩
        obtain ⟨m, rfl⟩ : ∃ m, k = m + 1 := ⟨k - 1, by omega⟩
        dsimp only
        rw [impl_readArea.j0, if_neg (by decide), if_pos (by omega), hw, if_pos (by omega), if_pos (by omega), show (a.take (2 + rd a 1).toNat).drop 2 = held a from rfl, ec]
        simp only [Option.bind_some]
        rw [e1 m (by omega), s]
        simp only [Option.bind_some, if_true]
        rw [if_pos (by omega), areaOf_ok _ _ hs]
        simp only [Option.bind_some]
        rw [e3 m (by omega)]
        simp only [Option.bind_some]
        by_cases q : mk (rd a 0) (held a) = a
        · rw [readA_yes ⟨by omega, by omega, n, s, q⟩]
          simp [q]
        · rw [readA_no (fun x => q x.2.2.2.2)]
          simp [q]
      · refine ⟨K1 + 2, fun k hk => ?_⟩
        obtain ⟨m, rfl⟩ : ∃ m, k = m + 1 := ⟨k - 1, by omega⟩
        dsimp only
        rw [impl_readArea.j0, if_neg (by decide), if_pos (by omega), hw, if_pos (by omega), if_pos (by omega), show (a.take (2 + rd a 1).toNat).drop 2 = held a from rfl, ec]
        simp only [Option.bind_some]
        rw [e1 m (by omega), readA_no (fun x => s x.2.2.2.1)]
        simp [s]
    refine Ev.congr (fun k => ?_) J0
    rw [impl_readArea.f, if_pos (by omega), if_neg g1, if_neg g2, if_pos (by omega)]
    simp [show ¬ rd a 1 > 12 by omega]
  · refine Ev.congr (fun k => ?_) (ev_eq (J1 true rfl) ?_)
    · rw [impl_readArea.f, if_pos (by omega), if_neg g1, if_neg g2, if_pos (by omega)]
      simp [show rd a 1 > 12 by omega]
    · rw [readA_no (fun x => n x.2.2.1)]
theorem readA_len (a : List Int) : (readA a).2.length ≤ a.length := by
  have := held_len a
  unfold readA; split
  · exact this
  · simp

/-- Which of two areas holds the state (-1: none), its generation and its state. -/
def newA (a b : List Int) : Int × Int × List Int :=
  if (readA a).1 = 0 ∧ (readA b).1 = 0 then (-1, 0, []) else if (readA a).1 ≥ (readA b).1 then (0, (readA a).1, (readA a).2) else (1, (readA b).1, (readA b).2)
theorem newA_none {a b : List Int} (h1 : (readA a).1 = 0) (h2 : (readA b).1 = 0) : newA a b = (-1, 0, []) := if_pos ⟨h1, h2⟩
theorem newA_fst {a b : List Int} (h : ¬ ((readA a).1 = 0 ∧ (readA b).1 = 0)) (h3 : (readA a).1 ≥ (readA b).1) : newA a b = (0, (readA a).1, (readA a).2) := by
  unfold newA; rw [if_neg h, if_pos h3]
theorem newA_snd {a b : List Int} (h : ¬ ((readA a).1 = 0 ∧ (readA b).1 = 0)) (h3 : ¬ (readA a).1 ≥ (readA b).1) : newA a b = (1, (readA b).1, (readA b).2) := by
  unfold newA; rw [if_neg h, if_neg h3]
theorem readA_gen (a : List Int) : 0 ≤ (readA a).1 ∧ ((readA a).1 = 0 → (readA a).2 = []) := by
  unfold readA; split
  · rename_i h; exact ⟨by omega, fun e => by omega⟩
  · exact ⟨by simp, fun _ => rfl⟩
theorem jrTwo_ok (a b : List Int) (ha : a.length ≤ 1048576) (hb : b.length ≤ 1048576) : Ev (fun k => spec_jrTwo.f k a b) (areaOk a && areaOk b) := by
  refine Ev.bind (jrArea_ok a (by omega)) ?_
  cases s : areaOk a with
  | false => exact ev_of_eq (fun _ => by simp)
  | true =>
    simp only [if_true]
    exact Ev.bind (jrArea_ok b (by omega)) (ev_of_eq (fun _ => by simp))
theorem jrHeld_ok (a b : List Int) (ha : areaOk a = true) (hb : areaOk b = true) : Ev (fun k => spec_jrHeld.f k a b) ((newA a b).2.1, (newA a b).2.2, (newA a b).1) := by
  refine Ev.bind (jrRead_ok a ha) (Ev.bind (jrRead_ok b hb) ?_)
  have ga := readA_gen a
  have gb := readA_gen b
  dsimp only
  by_cases h1 : (readA a).1 > 0
  · by_cases h2 : (readA b).1 > 0
    · by_cases h3 : (readA a).1 ≥ (readA b).1
      · simp only [h1, h2, decide_true, if_true]
        refine ev_step (f := fun _ => some _) (Ev.now _) (fun k => ?_)
        rw [spec_jrHeld.j0, if_pos (by simpa using h3), newA, if_neg (by omega), if_pos h3]
      · simp only [h1, h2, decide_true, if_true]
        refine ev_step (f := fun _ => some _) (Ev.now _) (fun k => ?_)
        rw [spec_jrHeld.j0, if_neg (by simpa using h3), if_pos rfl, newA, if_neg (by omega), if_neg h3]
    · have h2' : decide ((readA b).1 > 0) = false := by simpa using h2
      simp only [h1, h2', decide_true, if_true, Bool.false_eq_true, if_false]
      refine ev_step (f := fun _ => some _) (Ev.now _) (fun k => ?_)
      rw [spec_jrHeld.j0, if_pos rfl, newA, if_neg (by omega), if_pos (by omega)]
  · have h1' : decide ((readA a).1 > 0) = false := by simpa using h1
    simp only [h1', Bool.false_eq_true, if_false]
    by_cases h2 : (readA b).1 > 0
    · refine ev_step (f := fun _ => some _) (Ev.now _) (fun k => ?_)
      rw [spec_jrHeld.j0, if_neg (by decide), if_pos (by simpa using h2), newA, if_neg (by omega), if_neg (by omega)]
    · refine ev_step (f := fun _ => some _) (Ev.now _) (fun k => ?_)
      rw [spec_jrHeld.j0, if_neg (by decide), if_neg (by simpa using h2), newA, if_pos ⟨by omega, by omega⟩]
theorem newest_ok (a b : List Int) (ha : areaOk a = true) (hb : areaOk b = true) : Ev (fun k => impl_newest.f k a b) (newA a b) := by
  refine Ev.bind (readArea_ok a ha) (Ev.bind (readArea_ok b hb) ?_)
  have gb := readA_gen b
  by_cases h1 : (readA a).1 = 0
  · by_cases h2 : (readA b).1 = 0
    · simp only [h1, if_true]
      refine ev_step (f := fun _ => some _) (Ev.now _) (fun k => ?_)
      rw [impl_newest.j0, if_pos (by simp [h2]), newA_none h1 h2]
    · simp only [h1, if_true]
      refine ev_step (f := fun _ => some _) (Ev.now _) (fun k => ?_)
      have h4 : ¬ (0 : Int) ≥ (readA b).1 := by omega
      rw [impl_newest.j0, if_neg (by simpa using h2), if_neg h4, newA_snd (fun x => h2 x.2) (by rw [h1]; exact h4)]
  · simp only [h1, if_false]
    refine ev_step (f := fun _ => some _) (Ev.now _) (fun k => ?_)
    rw [impl_newest.j0, if_neg (by decide)]
    by_cases h3 : (readA a).1 ≥ (readA b).1
    · rw [if_pos h3, newA_fst (fun x => h1 x.1) h3]
    · rw [if_neg h3, newA_snd (fun x => h1 x.1) h3]
theorem newA_len (a b : List Int) : (newA a b).2.2.length ≤ a.length + b.length := by
  have h1 := readA_len a
  have h2 := readA_len b
  unfold newA; split
  · simp
  · split
    · simp only; omega
    · simp only; omega
theorem newA_pos (a b : List Int) : decide ((newA a b).1 ≥ 0) = decide ((newA a b).2.1 > 0) := by
  have ga := readA_gen a
  have gb := readA_gen b
  unfold newA; split
  · simp
  · split
    · simp; omega
    · simp; omega

/-! a cursor's draws: what they give lies in bounds, and the cursor goes on by few places -/
def bytesOk (l : List Int) : Prop := ∀ x ∈ l, 0 ≤ x ∧ x ≤ 255
def lcg (s b : Int) : Int := (s * 6364136223846793005 + b + 1442695040888963407) % 18446744073709551616
theorem and255 (x : Int) (h0 : 0 ≤ x) (h1 : x < 18446744073709551616) : Go.bits .and .u64 x 255 = x % 256 := by
  obtain ⟨n, rfl⟩ : ∃ n : Nat, x = n := ⟨x.toNat, by omega⟩
  have h := bits_and_u64_nat n 255 (by omega) (by omega)
  have h2 := Nat.and_two_pow_sub_one_eq_mod n 8
  rw [show (2 : Nat) ^ 8 - 1 = 255 from rfl, show (2 : Nat) ^ 8 = 256 from rfl] at h2
  rw [h2] at h
  exact h.trans (by omega)
theorem lcg_eq (s b : Int) : IntKind.u64.wrap ((IntKind.u64.wrap ((IntKind.u64.wrap (s * 6364136223846793005)) + (IntKind.u64.wrap b))) + 1442695040888963407) = lcg s b := by
  simp only [IntKind.wrap_u64, lcg]; omega
theorem lcg_eq0 (s : Int) : IntKind.u64.wrap ((IntKind.u64.wrap (IntKind.u64.wrap (s * 6364136223846793005))) + 1442695040888963407) = lcg s 0 := by
  simp only [IntKind.wrap_u64, lcg]; omega
theorem lcg_lt (s b : Int) : 0 ≤ lcg s b ∧ lcg s b < 18446744073709551616 := by unfold lcg; omega
theorem rd_byte {l : List Int} (hb : bytesOk l) (p : Int) (h0 : 0 ≤ p) (h1 : p < l.length) : 0 ≤ rd l p ∧ rd l p ≤ 255 := by
  obtain ⟨n, rfl⟩ : ∃ n : Nat, p = n := ⟨p.toNat, by omega⟩
  rw [rd_nat l n (by omega)]
  exact hb _ (List.getElem_mem _)
theorem next_in {l : List Int} (hb : bytesOk l) (p s : Int) (h0 : 0 ≤ p) (h1 : p < l.length) (h2 : p ≤ 4000000000000000000) : spec_l1Cur_next.f l p s = some (rd l p, p + 1, lcg s (rd l p)) := by
  have hr := rd_byte hb p h0 h1
  have hw : wrap64 (p + 1) = p + 1 := wrapS (by omega) (by omega)
  have hw2 : wrap64 (rd l p) = rd l p := wrapS (by omega) (by omega)
  rw [spec_l1Cur_next.f, if_pos h1, if_pos h0, hw, if_pos (by omega), hw2, lcg_eq]
theorem next_out {l : List Int} (p s : Int) (h1 : ¬ p < l.length) (h0 : 0 ≤ p) (h2 : p ≤ 4000000000000000000) : spec_l1Cur_next.f l p s = some ((lcg s 0 / 1099511627776) % 256, p + 1, lcg s 0) := by
  have hw : wrap64 (p + 1) = p + 1 := wrapS (by omega) (by omega)
  have hl := lcg_lt s 0
  rw [spec_l1Cur_next.f, if_neg h1, hw, if_neg (by omega), lcg_eq0, and255 _ (by omega) (by omega), wrapS (by omega) (by omega)]
theorem next_ok {l : List Int} (hb : bytesOk l) (p s : Int) (h0 : 0 ≤ p) (h2 : p ≤ 4000000000000000000) : ∃ b s', spec_l1Cur_next.f l p s = some (b, p + 1, s') ∧ 0 ≤ b ∧ b ≤ 255 := by
  by_cases h : p < l.length
  · exact ⟨_, _, next_in hb p s h0 h h2, rd_byte hb p h0 h⟩
  · exact ⟨_, _, next_out p s h h0 h2, by omega, by omega⟩
theorem pick_ok {l : List Int} (hb : bytesOk l) (p s n : Int) (h0 : 0 ≤ p) (h2 : p ≤ 3000000000000000000) : ∃ r p' s', spec_l1Cur_pick.f l p s n = some (r, p', s') ∧ 0 ≤ r ∧ (1 ≤ n → r < n) ∧ p ≤ p' ∧ p' ≤ p + 2 ∧ (2 ≤ n → p + 1 ≤ p') := by
  by_cases c : n ≤ 1
  · exact ⟨0, p, s, by rw [spec_l1Cur_pick.f, if_pos c], by omega, by omega, by omega, by omega, by omega⟩
  · obtain ⟨b, s1, e1, b0, b1⟩ := next_ok hb p s h0 (by omega)
    by_cases d : n > 200
    · obtain ⟨b2, s2, e2, c0, c1⟩ := next_ok hb (p + 1) s1 (by omega) (by omega)
      refine ⟨Int.tmod (b * 256 + b2) n, p + 1 + 1, s2, ?_, ?_, ?_, by omega, by omega, by omega⟩
      · rw [spec_l1Cur_pick.f, if_neg c, e1]
        simp only [Option.bind_some]
        rw [if_pos d, e2]
        simp only [Option.bind_some]
        rw [if_neg (by omega), wrapS (x := b * 256) (by omega) (by omega), wrapS (by omega) (by omega)]
      · exact Int.tmod_nonneg _ (by omega)
      · intro _; exact Int.tmod_lt_of_pos _ (by omega)
    · refine ⟨Int.tmod b n, p + 1, s1, ?_, ?_, ?_, by omega, by omega, by omega⟩
      · rw [spec_l1Cur_pick.f, if_neg c, e1]
        simp only [Option.bind_some]
        rw [if_neg d, if_neg (by omega)]
      · exact Int.tmod_nonneg _ (by omega)
      · intro _; exact Int.tmod_lt_of_pos _ (by omega)
theorem rd_mem {xs : List Int} (r : Int) (h0 : 0 ≤ r) (h1 : r < xs.length) : rd xs r ∈ xs := by
  obtain ⟨n, rfl⟩ : ∃ n : Nat, r = n := ⟨r.toNat, by omega⟩
  rw [rd_nat xs n (by omega)]
  exact List.getElem_mem _
theorem among_ok {l : List Int} (hb : bytesOk l) (p s : Int) (xs : List Int) (hx : 1 ≤ xs.length) (h0 : 0 ≤ p) (h2 : p ≤ 3000000000000000000) : ∃ r p' s', spec_l1Cur_among.f l p s xs = some (r, p', s') ∧ r ∈ xs ∧ p ≤ p' ∧ p' ≤ p + 2 := by
  obtain ⟨r, p', s', e, r0, r1, q0, q1⟩ := pick_ok hb p s (xs.length : Int) h0 h2
  have r1 := r1 (by omega)
  refine ⟨rd xs r, p', s', ?_, rd_mem r r0 r1, q0, q1.1⟩
  rw [spec_l1Cur_among.f, e]
  simp only [Option.bind_some]
  rw [if_pos r0, if_pos r1]
theorem one_ok {l : List Int} (hb : bytesOk l) (p s n : Int) (h0 : 0 ≤ p) (h2 : p ≤ 3000000000000000000) : ∃ r p' s', spec_l1Cur_one.f l p s n = some (r, p', s') ∧ p ≤ p' ∧ p' ≤ p + 2 := by
  obtain ⟨r, p', s', e, _, _, q0, q1⟩ := pick_ok hb p s n h0 h2
  exact ⟨r == 0, p', s', by rw [spec_l1Cur_one.f, e]; rfl, q0, q1.1⟩

/-! a drawn state, a drawn area -/
theorem stateOf_l0 {l : List Int} (hb : bytesOk l) (n : Int) (hn : n ≤ 13) (d : Nat) : ∀ (x : List Int) (p s : Int), (x.length : Int) + d = n → 0 ≤ p → p + 4 * d ≤ 2000000000000000000 →
    ∃ r p' s', Ev (fun k => spec_l1Cur_stateOf.l0 k x n l p s) (r, p', s') ∧ (r.length : Int) = n ∧ p ≤ p' ∧ p' ≤ p + 4 * d + 6 := by
  induction d with
  | zero =>
    intro x p s hx h0 h1
    have J : ∀ (b : Bool) (p1 s1 : Int), 0 ≤ p1 → p1 ≤ 2500000000000000000 → (b = true → 1 ≤ n) → ∃ r p' s', Ev (fun k => spec_l1Cur_stateOf.j2 k x n b l p1 s1) (r, p', s') ∧ (r.length : Int) = n ∧ p1 ≤ p' ∧ p' ≤ p1 + 4 := by
      intro b p1 s1 q0 q1 hbn
      cases b with
      | false => exact ⟨x, p1, s1, ev_step (f := fun _ => some _) (Ev.now _) (fun k => by rw [spec_l1Cur_stateOf.j2, if_neg (by decide)]), by omega, by omega, by omega⟩
      | true =>
        obtain ⟨i, p2, s2, e2, i0, i1, a2, b2⟩ := pick_ok hb p1 s1 n q0 (by omega)
        obtain ⟨v, p3, s3, e3, _, a3, b3⟩ := among_ok hb p2 s2 (([(-1), 1000] : List Int)) (by decide) (by omega) (by omega)
        have i1 := i1 (hbn rfl)
        refine ⟨x.set i.toNat v, p3, s3, ev_step (f := fun _ => some _) (Ev.now _) (fun k => ?_), by simp; omega, by omega, by omega⟩
        rw [spec_l1Cur_stateOf.j2, if_pos rfl, e2]
        simp only [Option.bind_some]
        rw [e3]
        simp only [Option.bind_some]
        rw [if_pos i0, if_pos (by omega)]
    by_cases c : n > 0
    · obtain ⟨b, p1, s1, e1, a1, b1⟩ := one_ok hb p s 24 h0 (by omega)
      obtain ⟨r, p', s', e, hr, a, b'⟩ := J b p1 s1 (by omega) (by omega) (fun _ => by omega)
      refine ⟨r, p', s', ev_step e (fun k => ?_), hr, by omega, by omega⟩
      rw [spec_l1Cur_stateOf.l0, if_neg (by omega), if_pos c, e1]
      rfl
    · obtain ⟨r, p', s', e, hr, a, b'⟩ := J false p s (by omega) (by omega) (fun h => by cases h)
      refine ⟨r, p', s', ev_step e (fun k => ?_), hr, by omega, by omega⟩
      rw [spec_l1Cur_stateOf.l0, if_neg (by omega), if_neg c]
  | succ d ih =>
    intro x p s hx h0 h1
    obtain ⟨v, p1, s1, e1, _, _, a1, b1⟩ := pick_ok hb p s 1000 h0 (by omega)
    obtain ⟨u, p2, s2, e2, _, a2, b2⟩ := among_ok hb p1 s1 (([0, 5, 999, v] : List Int)) (by simp) (by omega) (by omega)
    obtain ⟨r, p', s', e, hr, a, b'⟩ := ih (x ++ [u]) p2 s2 (by simp; omega) (by omega) (by omega)
    refine ⟨r, p', s', ev_step e (fun k => ?_), hr, by omega, by omega⟩
    rw [spec_l1Cur_stateOf.l0, if_pos (by omega), e1]
    simp only [Option.bind_some]
    rw [e2]
    simp only [Option.bind_some]
    rw [if_pos (by omega)]
theorem stateOf_ok {l : List Int} (hb : bytesOk l) (p s : Int) (h0 : 0 ≤ p) (h1 : p ≤ 1000000000000000000) : ∃ r p' s', Ev (fun k => spec_l1Cur_stateOf.f k l p s) (r, p', s') ∧ r.length ≤ 13 ∧ p + 1 ≤ p' ∧ p' ≤ p + 100 := by
  obtain ⟨n, p1, s1, e1, n0, n1, a1, b1⟩ := pick_ok hb p s 6 h0 (by omega)
  have n1 := n1 (by omega)
  obtain ⟨c, p2, s2, e2, a2, b2⟩ := one_ok hb p1 s1 16 (by omega) (by omega)
  cases c with
  | true =>
    obtain ⟨m, p3, s3, e3, m0, m1, a3, b3⟩ := pick_ok hb p2 s2 2 (by omega) (by omega)
    have m1 := m1 (by omega)
    obtain ⟨r, p', s', e, hr, a, b'⟩ := stateOf_l0 hb (12 + m) (by omega) (12 + m).toNat [] p3 s3 (by simp; omega) (by omega) (by omega)
    refine ⟨r, p', s', Ev.congr (fun k => ?_) (ev_step (g := fun k => spec_l1Cur_stateOf.j0 k [] (12 + m) l p3 s3) (f := fun k => spec_l1Cur_stateOf.l0 k [] (12 + m) l p3 s3) e (fun k => by rw [spec_l1Cur_stateOf.j0])), by omega, by omega, by omega⟩
    rw [spec_l1Cur_stateOf.f, e1]
    simp only [Option.bind_some]
    rw [e2]
    simp only [Option.bind_some, if_true]
    rw [e3]
    simp only [Option.bind_some]
    rw [wrapS (x := 12 + m) (by omega) (by omega)]
  | false =>
    obtain ⟨r, p', s', e, hr, a, b'⟩ := stateOf_l0 hb n (by omega) n.toNat [] p2 s2 (by simp; omega) (by omega) (by omega)
    refine ⟨r, p', s', Ev.congr (fun k => ?_) (ev_step (g := fun k => spec_l1Cur_stateOf.j0 k [] n l p2 s2) (f := fun k => spec_l1Cur_stateOf.l0 k [] n l p2 s2) e (fun k => by rw [spec_l1Cur_stateOf.j0])), by omega, by omega, by omega⟩
    rw [spec_l1Cur_stateOf.f, e1]
    simp only [Option.bind_some]
    rw [e2]
    simp only [Option.bind_some, Bool.false_eq_true, if_false]
theorem area_j0 {l : List Int} (hb : bytesOk l) (x : List Int) (hx : x.length ≤ 12) (p s : Int) (h0 : 0 ≤ p) (h1 : p ≤ 1000000000000000000) : ∃ r p' s', Ev (fun k => spec_l1Cur_area.j0 k x l p s) (r, p', s') ∧ r.length ≤ 15 ∧ p ≤ p' ∧ p' ≤ p + 20 := by
  obtain ⟨v, p1, s1, e1, _, _, a1, b1⟩ := pick_ok hb p s 999 h0 (by omega)
  obtain ⟨g, p2, s2, e2, _, a2, b2⟩ := among_ok hb p1 s1 (([1, 1, 2, 2, 3, wrap64 (1 + v), 998, 999] : List Int)) (by simp) (by omega) (by omega)
  obtain ⟨c, p3, s3, e3, _, _, a3, b3⟩ := pick_ok hb p2 s2 12 (by omega) (by omega)
  obtain ⟨K, em⟩ := jrMake_ok g x hx
  dsimp only at em
  have hm := mk_len g x hx
  have hm15 : ((mk g x).length : Int) = 15 := by omega
  have st : ∀ k, K ≤ k → ∀ y, (∀ z, (if c = 0 then ((spec_l1Cur_pick.f l p3 s3 ((mk g x).length : Int)).bind fun bt288 => ((spec_l1Cur_among.f l bt288.2.1 bt288.2.2 (([0, 1, 12, 13, 1000, 9999] : List Int))).bind fun bt294 => (if 0 ≤ bt288.1 then (if bt288.1 < ((mk g x).length : Int) then (some (((mk g x).set (bt288.1 : Int).toNat bt294.1), bt294.2.1, bt294.2.2)) else (none)) else (none)))) else (if c = 1 then (if 15 ≤ 35184372088832 then (some ((List.replicate 15 0), p3, s3)) else (none)) else (if c = 2 then ((spec_l1Cur_one.f l p3 s3 3).bind fun bt301 => (if bt301.1 = true then ((spec_l1Cur_pick.f l bt301.2.1 bt301.2.2 ((mk g x).length : Int)).bind fun bt304 => ((spec_l1Cur_among.f l bt304.2.1 bt304.2.2 (([(-1), 10000] : List Int))).bind fun bt310 => (if 0 ≤ bt304.1 then (if bt304.1 < ((mk g x).length : Int) then (some (((mk g x).set (bt304.1 : Int).toNat bt310.1), bt310.2.1, bt310.2.2)) else (none)) else (none)))) else (some ((mk g x), bt301.2.1, bt301.2.2)))) else (if c = 3 then ((spec_l1Cur_one.f l p3 s3 3).bind fun bt314 => (if bt314.1 = true then (if 1 ≤ ((mk g x).length : Int) then (some (((mk g x).drop (1 : Int).toNat), bt314.2.1, bt314.2.2)) else (none)) else (some ((mk g x), bt314.2.1, bt314.2.2)))) else (some ((mk g x), p3, s3)))))) = z → z = y) → spec_l1Cur_area.j0 (k + 1) x l p s = y := by
    intro k hk y hy
    rw [spec_l1Cur_area.j0, e1]
    simp only [Option.bind_some]
    rw [e2]
    simp only [Option.bind_some]
    rw [em k hk]
    simp only [Option.bind_some]
    rw [e3]
    simp only [Option.bind_some]
    exact hy _ rfl
  by_cases c0 : c = 0
  · obtain ⟨i, p4, s4, e4, i0, i1, a4, b4⟩ := pick_ok hb p3 s3 ((mk g x).length : Int) (by omega) (by omega)
    obtain ⟨u, p5, s5, e5, _, a5, b5⟩ := among_ok hb p4 s4 (([0, 1, 12, 13, 1000, 9999] : List Int)) (by simp) (by omega) (by omega)
    have i1 := i1 (by omega)
    refine ⟨(mk g x).set i.toNat u, p5, s5, ⟨K + 1, fun k hk => ?_⟩, by simp; omega, by omega, by omega⟩
    obtain ⟨m, rfl⟩ : ∃ m, k = m + 1 := ⟨k - 1, by omega⟩
    refine st m (by omega) _ (fun z hz => ?_)
    rw [if_pos c0, e4] at hz
    simp only [Option.bind_some] at hz
    rw [e5] at hz
    simp only [Option.bind_some] at hz
    rw [if_pos i0, if_pos (by omega)] at hz
    exact hz.symm
  by_cases c1 : c = 1
  · refine ⟨List.replicate 15 0, p3, s3, ⟨K + 1, fun k hk => ?_⟩, by simp, by omega, by omega⟩
    obtain ⟨m, rfl⟩ : ∃ m, k = m + 1 := ⟨k - 1, by omega⟩
    refine st m (by omega) _ (fun z hz => ?_)
    rw [if_neg c0, if_pos c1, if_pos (by omega)] at hz
    exact hz.symm
  by_cases c2 : c = 2
  · obtain ⟨t, p4, s4, e4, a4, b4⟩ := one_ok hb p3 s3 3 (by omega) (by omega)
    cases t with
    | false =>
      refine ⟨mk g x, p4, s4, ⟨K + 1, fun k hk => ?_⟩, by omega, by omega, by omega⟩
      obtain ⟨m, rfl⟩ : ∃ m, k = m + 1 := ⟨k - 1, by omega⟩
      refine st m (by omega) _ (fun z hz => ?_)
      rw [if_neg c0, if_neg c1, if_pos c2, e4] at hz
      exact hz.symm
    | true =>
      obtain ⟨i, p5, s5, e5, i0, i1, a5, b5⟩ := pick_ok hb p4 s4 ((mk g x).length : Int) (by omega) (by omega)
      obtain ⟨u, p6, s6, e6, _, a6, b6⟩ := among_ok hb p5 s5 (([(-1), 10000] : List Int)) (by simp) (by omega) (by omega)
      have i1 := i1 (by omega)
      refine ⟨(mk g x).set i.toNat u, p6, s6, ⟨K + 1, fun k hk => ?_⟩, by simp; omega, by omega, by omega⟩
      obtain ⟨m, rfl⟩ : ∃ m, k = m + 1 := ⟨k - 1, by omega⟩
      refine st m (by omega) _ (fun z hz => ?_)
      rw [if_neg c0, if_neg c1, if_pos c2, e4] at hz
      simp only [Option.bind_some, if_true] at hz
      rw [e5] at hz
      simp only [Option.bind_some] at hz
      rw [e6] at hz
      simp only [Option.bind_some] at hz
      rw [if_pos i0, if_pos (by omega)] at hz
      exact hz.symm
  by_cases c3 : c = 3
  · obtain ⟨t, p4, s4, e4, a4, b4⟩ := one_ok hb p3 s3 3 (by omega) (by omega)
    cases t with
    | false =>
      refine ⟨mk g x, p4, s4, ⟨K + 1, fun k hk => ?_⟩, by omega, by omega, by omega⟩
      obtain ⟨m, rfl⟩ : ∃ m, k = m + 1 := ⟨k - 1, by omega⟩
      refine st m (by omega) _ (fun z hz => ?_)
      rw [if_neg c0, if_neg c1, if_neg c2, if_pos c3, e4] at hz
      exact hz.symm
    | true =>
      refine ⟨(mk g x).drop 1, p4, s4, ⟨K + 1, fun k hk => ?_⟩, by simp; omega, by omega, by omega⟩
      obtain ⟨m, rfl⟩ : ∃ m, k = m + 1 := ⟨k - 1, by omega⟩
      refine st m (by omega) _ (fun z hz => ?_)
      rw [if_neg c0, if_neg c1, if_neg c2, if_pos c3, e4] at hz
      simp only [Option.bind_some, if_true] at hz
      rw [if_pos (by omega)] at hz
      exact hz.symm
  · refine ⟨mk g x, p3, s3, ⟨K + 1, fun k hk => ?_⟩, by omega, by omega, by omega⟩
    obtain ⟨m, rfl⟩ : ∃ m, k = m + 1 := ⟨k - 1, by omega⟩
    refine st m (by omega) _ (fun z hz => ?_)
    rw [if_neg c0, if_neg c1, if_neg c2, if_neg c3] at hz
    exact hz.symm
theorem area_ok {l : List Int} (hb : bytesOk l) (p s : Int) (h0 : 0 ≤ p) (h1 : p ≤ 500000000000000000) : ∃ r p' s', Ev (fun k => spec_l1Cur_area.f k l p s) (r, p', s') ∧ r.length ≤ 15 ∧ p ≤ p' ∧ p' ≤ p + 120 := by
  obtain ⟨x, p1, s1, e1, hx, a1, b1⟩ := stateOf_ok hb p s h0 (by omega)
  have e2 := jrState_ok x (by omega)
  cases g : stateOk x with
  | true =>
    obtain ⟨r, p', s', e, hr, a, b⟩ := area_j0 hb x (state_len g) p1 s1 (by omega) (by omega)
    refine ⟨r, p', s', Ev.bind e1 (Ev.bind e2 ?_), hr, by omega, by omega⟩
    simp only [g, if_true]
    exact e
  | false =>
    obtain ⟨r, p', s', e, hr, a, b⟩ := area_j0 hb (([5, 7] : List Int)) (by simp) p1 s1 (by omega) (by omega)
    refine ⟨r, p', s', Ev.bind e1 (Ev.bind e2 ?_), hr, by omega, by omega⟩
    simp only [g, Bool.false_eq_true, if_false]
    exact e

/-! the steps of a write -/
def put1 (nx : List Int) (i : Int) (x : List Int) : List Int := if i = 0 then x.set 0 0 else if i < 15 then x.set i.toNat (rd nx i) else x.set 0 (rd nx 0)
theorem put1_len (nx : List Int) (i : Int) (x : List Int) : (put1 nx i x).length = x.length := by
  unfold put1
  by_cases c : i = 0
  · rw [if_pos c]; simp
  · rw [if_neg c]
    by_cases d : i < 15
    · rw [if_pos d]; simp
    · rw [if_neg d]; simp
def goSt (nx : List Int) : Nat → Int → List Int → List Int
  | 0, _, x => x
  | d + 1, i, x => goSt nx d (i + 1) (put1 nx i x)
theorem goSt_len (nx : List Int) (d : Nat) : ∀ i x, (goSt nx d i x).length = x.length := by
  induction d with
  | zero => intro i x; rfl
  | succ d ih => intro i x; rw [goSt, ih, put1_len]
theorem steps_ok (nx : List Int) (n : Int) (hn : n ≤ 16) (d : Nat) : ∀ (i : Int) (x : List Int), i + d = n → 0 ≤ i →
    Ev (fun k => impl_writeSteps.steps k x nx n i) (goSt nx d i x) := by
  induction d with
  | zero =>
    intro i x hi h0
    refine ev_step (f := fun _ => some _) (Ev.now _) (fun k => ?_)
    rw [impl_writeSteps.steps, if_neg (by omega)]; rfl
  | succ d ih =>
    intro i x hi h0
    have hw : wrap64 (i + 1) = i + 1 := wrapS (by omega) (by omega)
    have h := ih (i + 1) (put1 nx i x) (by omega) (by omega)
    refine ev_step (ev_eq h (by rw [goSt])) (fun k => ?_)
    rw [impl_writeSteps.steps, if_pos (by omega), if_pos h0, hw]
    unfold put1
    by_cases c : i = 0
    · rw [if_pos c, if_pos c]
    · rw [if_neg c, if_neg c]
      by_cases e : i < 15
      · rw [if_pos e, if_pos e]
      · rw [if_neg e, if_neg e]
theorem jrWrite_l0 (nx : List Int) (hx : nx.length = 15) (n : Int) (hn : n ≤ 16) (w : Int) (d : Nat) : ∀ (i : Int) (f s : List Int), i + d = n → 0 ≤ i → f.length = 15 → s.length = 15 →
    Ev (fun k => spec_jrWrite.l0 k n w f s nx i) (if w = 0 then (f, goSt nx d i s, true) else (goSt nx d i f, s, true)) := by
  induction d with
  | zero =>
    intro i f s hi h0 hf hs
    refine ev_step (f := fun _ => some _) (Ev.now _) (fun k => ?_)
    rw [spec_jrWrite.l0, if_neg (by omega)]
    by_cases c : w = 0
    · rw [if_pos c]; rfl
    · rw [if_neg c]; rfl
  | succ d ih =>
    intro i f s hi h0 hf hs
    have hw : wrap64 (i + 1) = i + 1 := wrapS (by omega) (by omega)
    have ht : Int.tmod i 15 = if i < 15 then i else 0 := by
      rw [Int.tmod_eq_emod_of_nonneg h0]
      by_cases e : i < 15
      · rw [if_pos e]; omega
      · rw [if_neg e]; omega
    have t0 : 0 ≤ Int.tmod i 15 := by rw [ht]; by_cases e : i < 15 <;> simp only [e, if_true, if_false] <;> omega
    have t1 : Int.tmod i 15 < 15 := by rw [ht]; by_cases e : i < 15 <;> simp only [e, if_true, if_false] <;> omega
    have hp : ∀ x : List Int, put1 nx i x = if i = 0 then x.set (Int.tmod i 15).toNat 0 else x.set (Int.tmod i 15).toNat (rd nx (Int.tmod i 15)) := fun x => by
      unfold put1
      rw [ht]
      by_cases c : i = 0
      · subst c; rfl
      · rw [if_neg c, if_neg c]
        by_cases e : i < 15
        · simp only [e, if_true]
        · simp only [e, if_false]; rfl
    by_cases c : w = 0
    · have h := ih (i + 1) f (put1 nx i s) (by omega) (by omega) hf (by rw [put1_len]; exact hs)
      rw [if_pos c] at h ⊢
      refine ev_step (ev_eq h (by rw [goSt])) (fun k => ?_)
      rw [spec_jrWrite.l0, if_pos (by omega), if_pos t0, if_pos (by omega), hw, hp]
      by_cases e : i = 0
      · rw [if_pos e, if_pos e, if_pos c, if_pos (by omega)]
      · rw [if_neg e, if_neg e, if_pos c, if_pos (by omega)]
    · have h := ih (i + 1) (put1 nx i f) s (by omega) (by omega) (by rw [put1_len]; exact hf) hs
      rw [if_neg c] at h ⊢
      refine ev_step (ev_eq h (by rw [goSt])) (fun k => ?_)
      rw [spec_jrWrite.l0, if_pos (by omega), if_pos t0, if_pos (by omega), hw, hp]
      by_cases e : i = 0
      · rw [if_pos e, if_pos e, if_neg c, if_pos (by omega)]
      · rw [if_neg e, if_neg e, if_neg c, if_pos (by omega)]
def core (a b st : List Int) (n : Int) : List Int × List Int × Bool :=
  if (newA a b).2.1 = 999 then ([], [], false) else if (newA a b).1 = 0 then (a, goSt (mk (wrap64 ((newA a b).2.1 + 1)) st) n.toNat 0 b, true) else (goSt (mk (wrap64 ((newA a b).2.1 + 1)) st) n.toNat 0 a, b, true)
theorem core_len (a b st : List Int) (n : Int) (ha : a.length = 15) (hb : b.length = 15) : (core a b st n).1.length ≤ 15 ∧ (core a b st n).2.1.length ≤ 15 := by
  unfold core
  by_cases c : (newA a b).2.1 = 999
  · rw [if_pos c]; simp
  · rw [if_neg c]
    by_cases d : (newA a b).1 = 0
    · rw [if_pos d]; simp only [goSt_len]; omega
    · rw [if_neg d]; simp only [goSt_len]; omega
theorem jrWrite_ok (a b st : List Int) (n : Int) (ha : areaOk a = true) (hb : areaOk b = true) (hs : stateOk st = true) (h0 : 0 ≤ n) (hn : n ≤ 16) : Ev (fun k => spec_jrWrite.f k a b st n) (core a b st n) := by
  have la := area_len ha
  have lb := area_len hb
  have ls := state_len hs
  refine Ev.bind (jrHeld_ok a b ha hb) ?_
  unfold core
  dsimp only
  by_cases c : (newA a b).2.1 = 999
  · simp only [c, if_true]; exact ev_const
  · simp only [c, if_false, l1Own_ok a (by omega), l1Own_ok b (by omega), Option.bind_some]
    refine Ev.bind (jrMake_ok (wrap64 ((newA a b).2.1 + 1)) st ls) ?_
    exact jrWrite_l0 _ (mk_len _ _ ls) n hn (newA a b).1 n.toNat 0 a b (by omega) (by omega) la lb
theorem writeSteps_ok (a b st : List Int) (n : Int) (ha : areaOk a = true) (hb : areaOk b = true) (hs : stateOk st = true) (h0 : 0 ≤ n) (hn : n ≤ 16) : Ev (fun k => impl_writeSteps.f k a b st n) (core a b st n) := by
  have la := area_len ha
  have lb := area_len hb
  have ls := state_len hs
  refine Ev.bind (newest_ok a b ha hb) ?_
  unfold core
  by_cases c : (newA a b).2.1 = 999
  · simp only [c, if_true]; exact ev_const
  · simp only [c, if_false, la, lb, if_true, areaOf_ok _ st ls, Option.bind_some]
    by_cases d : (newA a b).1 = 0
    · simp only [d, if_true]
      exact Ev.bind (steps_ok _ n hn n.toNat 0 b (by omega) (by omega)) ev_const
    · simp only [d, if_false]
      exact Ev.bind (steps_ok _ n hn n.toNat 0 a (by omega) (by omega)) ev_const

/-! all states that are written -/
theorem rd_get (l : List Int) (j : Nat) (h : j < l.length) : l[j]? = some (rd l (j : Int)) := by
  rw [rd_nat l j h, List.getElem?_eq_getElem h]
theorem goSt_all (nx : List Int) (hn : nx.length = 15) (d : Nat) : ∀ (i : Nat) (x : List Int), i + d = 16 → 1 ≤ i → x.length = 15 → (∀ j, 1 ≤ j → j < i → j < 15 → x[j]? = nx[j]?) → (i = 16 → x[0]? = nx[0]?) → goSt nx d (i : Int) x = nx := by
  induction d with
  | zero =>
    intro i x hi h1 hx hj h0
    rw [goSt]
    refine List.ext_getElem? (fun j => ?_)
    rcases Nat.lt_or_ge j 15 with h | h
    · rcases Nat.eq_zero_or_pos j with rfl | hp
      · exact h0 (by omega)
      · exact hj j hp (by omega) h
    · rw [List.getElem?_eq_none (by omega), List.getElem?_eq_none (by omega)]
  | succ d ih =>
    intro i x hi h1 hx hj h0
    have e : ((i + 1 : Nat) : Int) = (i : Int) + 1 := by simp
    rw [goSt, ← e]
    refine ih (i + 1) _ (by omega) (by omega) (by rw [put1_len]; exact hx) (fun j hj1 hj2 hj3 => ?_) (fun hi2 => ?_)
    · unfold put1
      rw [if_neg (by omega)]
      by_cases c : (i : Int) < 15
      · rw [if_pos c, Int.toNat_natCast, List.getElem?_set]
        by_cases q : i = j
        · subst q
          rw [if_pos rfl, if_pos (by omega), rd_get nx i (by omega)]
        · rw [if_neg q]; exact hj j hj1 (by omega) hj3
      · rw [if_neg c, List.getElem?_set, if_neg (by omega)]
        exact hj j hj1 (by omega) hj3
    · unfold put1
      rw [if_neg (by omega), if_neg (by omega), List.getElem?_set, if_pos rfl, if_pos (by omega)]
      exact (rd_get nx 0 (by omega)).symm
theorem goSt16 (nx x : List Int) (hn : nx.length = 15) (hx : x.length = 15) : goSt nx 16 0 x = nx := by
  rw [goSt]
  have h := goSt_all nx hn 15 1 (put1 nx 0 x) rfl (by omega) (by rw [put1_len]; exact hx) (fun j h1 h2 _ => by omega) (fun h => by omega)
  simpa using h
theorem sum_bound (l : List Int) : ∀ (i s : Int), (∀ x ∈ l, 0 ≤ x ∧ x ≤ 9999) → 0 ≤ i → i + l.length ≤ 100 → 0 ≤ s → s ≤ 1000000000 - 2000000 * l.length → 0 ≤ impl_areaOf.sum i l s := by
  induction l with
  | nil => intro i s _ _ _ h _; exact h
  | cons x l ih =>
    intro i s hx h0 h1 h2 h3
    simp only [List.length_cons] at h1 h3
    obtain ⟨x0, x1⟩ := hx x List.mem_cons_self
    have m0 : 0 ≤ (i + 3) * x := Int.mul_nonneg (by omega) x0
    have m1 : (i + 3) * x ≤ 103 * 9999 := Int.mul_le_mul (by omega) x1 x0 (by omega)
    have w1 : wrap64 ((i + 3) * x) = (i + 3) * x := wrapS (by omega) (by omega)
    have w2 : wrap64 (s + (i + 3) * x) = s + (i + 3) * x := wrapS (by omega) (by omega)
    rw [impl_areaOf.sum, w1, w2]
    exact ih (i + 1) _ (fun y hy => hx y (List.mem_cons_of_mem _ hy)) (by omega) (by omega) (by omega) (by omega)
theorem mk_area (g : Int) (l : List Int) (h0 : 0 ≤ g) (h1 : g ≤ 9999) (h : stateOk l = true) : areaOk (mk g l) = true := by
  have ls := state_len h
  have hl : ∀ x ∈ l, 0 ≤ x ∧ x ≤ 9999 := fun x hx => by
    unfold stateOk at h
    have := of_decide_eq_true (List.all_eq_true.1 (Bool.and_eq_true_iff.1 h).1 x hx)
    omega
  have hb : ∀ x ∈ impl_areaOf.body g l, 0 ≤ x ∧ x ≤ 9999 := fun x hx => by
    unfold impl_areaOf.body at hx
    rcases List.mem_cons.1 hx with rfl | hx
    · exact ⟨h0, h1⟩
    rcases List.mem_cons.1 hx with rfl | hx
    · omega
    rcases List.mem_append.1 hx with hx | hx
    · exact hl x hx
    · have := List.eq_of_mem_replicate hx; omega
  have hs := sum_bound (impl_areaOf.body g l) 0 0 hb (by omega) (by rw [body_len g l ls]; omega) (by omega) (by rw [body_len g l ls]; omega)
  have t0 := Int.tmod_nonneg 9973 hs
  have t1 := Int.tmod_lt_of_pos (impl_areaOf.sum 0 (impl_areaOf.body g l) 0) (show (0 : Int) < 9973 by omega)
  unfold areaOk
  rw [Bool.and_eq_true_iff]
  refine ⟨List.all_eq_true.2 (fun x hx => decide_eq_true ?_), decide_eq_true (mk_len g l ls)⟩
  unfold mk at hx
  rcases List.mem_append.1 hx with hx | hx
  · exact hb x hx
  · rw [List.mem_singleton.1 hx]; omega
theorem mk_head (g : Int) (l : List Int) : rd (mk g l) 0 = g := rfl
theorem readA_le (a : List Int) (h : areaOk a = true) : (readA a).1 ≤ rd a 0 := by
  have h0 := (area_rd h 0 (by omega)).1
  by_cases c : 1 ≤ rd a 0 ∧ rd a 0 ≤ 999 ∧ rd a 1 ≤ 12 ∧ stateOk (held a) = true ∧ mk (rd a 0) (held a) = a
  · rw [readA_yes c]; exact Int.le_refl _
  · rw [readA_no c]; simpa using h0
theorem newA_le (a b : List Int) (m : Int) (ha : areaOk a = true) (hb : areaOk b = true) (h1 : rd a 0 ≤ m) (h2 : rd b 0 ≤ m) (h3 : 0 ≤ m) : 0 ≤ (newA a b).2.1 ∧ (newA a b).2.1 ≤ m := by
  have r1 := readA_le a ha
  have r2 := readA_le b hb
  have g1 := (readA_gen a).1
  have g2 := (readA_gen b).1
  by_cases c : (readA a).1 = 0 ∧ (readA b).1 = 0
  · rw [newA_none c.1 c.2]; exact ⟨Int.le_refl _, h3⟩
  · by_cases d : (readA a).1 ≥ (readA b).1
    · rw [newA_fst c d]; simp only; omega
    · rw [newA_snd c d]; simp only; omega
theorem core_next (a b st : List Int) (m : Int) (ha : areaOk a = true) (hb : areaOk b = true) (h1 : rd a 0 ≤ m) (h2 : rd b 0 ≤ m) (h3 : 0 ≤ m) (h4 : m ≤ 100) (hs : stateOk st = true) :
    ∃ a' b', core a b st 16 = (a', b', true) ∧ areaOk a' = true ∧ areaOk b' = true ∧ rd a' 0 ≤ m + 1 ∧ rd b' 0 ≤ m + 1 := by
  obtain ⟨n0, n1⟩ := newA_le a b m ha hb h1 h2 h3
  have ls := state_len hs
  have hw : wrap64 ((newA a b).2.1 + 1) = (newA a b).2.1 + 1 := wrapS (by omega) (by omega)
  have hm := mk_area ((newA a b).2.1 + 1) st (by omega) (by omega) hs
  have ht : (16 : Int).toNat = 16 := rfl
  unfold core
  rw [if_neg (by omega), hw, ht]
  by_cases d : (newA a b).1 = 0
  · rw [if_pos d, goSt16 _ _ (mk_len _ _ ls) (area_len hb)]
    exact ⟨_, _, rfl, ha, hm, by omega, by rw [mk_head]; omega⟩
  · rw [if_neg d, goSt16 _ _ (mk_len _ _ ls) (area_len ha)]
    exact ⟨_, _, rfl, hm, hb, by rw [mk_head]; omega, by omega⟩

/-! what is held after a write, and after a part of one -/
theorem held_mk (g : Int) (l : List Int) : held (mk g l) = l := by
  have e : mk g l = g :: (l.length : Int) :: (l ++ (List.replicate (12 - l.length) 0 ++ [Int.tmod (impl_areaOf.sum 0 (impl_areaOf.body g l) 0) 9973])) := by
    simp [mk, impl_areaOf.body]
  have h1 : rd (mk g l) 1 = (l.length : Int) := rfl
  unfold held
  rw [h1, e, show (2 + (l.length : Int)).toNat = l.length + 1 + 1 by omega, List.take_succ_cons, List.take_succ_cons, List.drop_succ_cons, List.drop_succ_cons, List.drop_zero, List.take_left]
theorem readA_mk (g : Int) (l : List Int) (h0 : 1 ≤ g) (h1 : g ≤ 999) (hs : stateOk l = true) : readA (mk g l) = (g, l) := by
  have e1 : rd (mk g l) 0 = g := rfl
  have e2 : rd (mk g l) 1 = (l.length : Int) := rfl
  have ls := state_len hs
  rw [readA_yes, held_mk, e1]
  rw [held_mk, e1, e2]
  exact ⟨h0, h1, by omega, hs, rfl⟩
theorem set_rd0 (x : List Int) (i : Nat) (v : Int) (h : 1 ≤ i) : rd (x.set i v) 0 = rd x 0 := by
  obtain ⟨m, rfl⟩ : ∃ m, i = m + 1 := ⟨i - 1, by omega⟩
  cases x <;> rfl
theorem goSt_rd0 (nx : List Int) (d : Nat) : ∀ (i : Int) (x : List Int), 1 ≤ i → i + d ≤ 15 → rd (goSt nx d i x) 0 = rd x 0 := by
  induction d with
  | zero => intro i x _ _; rfl
  | succ d ih =>
    intro i x h0 h1
    rw [goSt, ih (i + 1) _ (by omega) (by omega)]
    unfold put1
    rw [if_neg (by omega), if_pos (by omega)]
    exact set_rd0 _ _ _ (by omega)
theorem goSt_part (nx x : List Int) (n : Nat) (h1 : 1 ≤ n) (h2 : n ≤ 15) : rd (goSt nx n 0 x) 0 = 0 := by
  obtain ⟨m, rfl⟩ : ∃ m, n = m + 1 := ⟨n - 1, by omega⟩
  rw [goSt, show (0 : Int) + 1 = 1 from rfl, goSt_rd0 nx m 1 _ (by omega) (by omega)]
  unfold put1
  rw [if_pos rfl]
  cases x <;> rfl
theorem readA_zero {a : List Int} (h : rd a 0 = 0) : readA a = (0, []) := readA_no (fun x => by omega)
theorem newA_cases (a b : List Int) : (newA a b = (-1, 0, []) ∧ (readA a).1 = 0 ∧ (readA b).1 = 0) ∨ (newA a b = (0, (readA a).1, (readA a).2) ∧ (readA a).1 ≥ (readA b).1 ∧ (readA a).1 ≠ 0) ∨ (newA a b = (1, (readA b).1, (readA b).2) ∧ (readA a).1 < (readA b).1) := by
  have ga := (readA_gen a).1
  have gb := (readA_gen b).1
  by_cases c : (readA a).1 = 0 ∧ (readA b).1 = 0
  · exact .inl ⟨newA_none c.1 c.2, c⟩
  · by_cases d : (readA a).1 ≥ (readA b).1
    · exact .inr (.inl ⟨newA_fst c d, d, fun e => c ⟨e, by omega⟩⟩)
    · exact .inr (.inr ⟨newA_snd c d, by omega⟩)
theorem readA_top (a : List Int) : (readA a).1 ≤ 999 := by
  unfold readA; split
  · rename_i h; exact h.2.1
  · simp
/-- The whole write leaves the new state, of the next generation. -/
theorem core_full (a b st : List Int) (ha : a.length = 15) (hb : b.length = 15) (hs : stateOk st = true) (h9 : (newA a b).2.1 ≠ 999) :
    ∃ a' b', core a b st 16 = (a', b', true) ∧ (newA a' b').2 = ((newA a b).2.1 + 1, st) ∧ (newA a' b').1 ≥ 0 := by
  have ls := state_len hs
  have ga := (readA_gen a).1
  have gb := (readA_gen b).1
  have ta := readA_top a
  have tb := readA_top b
  have ht : (16 : Int).toNat = 16 := rfl
  unfold core
  rw [if_neg h9, ht]
  rcases newA_cases a b with ⟨e, z1, z2⟩ | ⟨e, z1, z2⟩ | ⟨e, z1⟩
  · have hm := readA_mk 1 st (by omega) (by omega) hs
    rw [e]
    simp only
    rw [if_neg (by omega), show wrap64 (0 + 1) = 1 from (wrapS (x := 0 + 1) (by omega) (by omega)).trans (by omega), goSt16 _ _ (mk_len _ _ ls) ha]
    refine ⟨_, _, rfl, ?_⟩
    rw [newA_fst (by rw [hm]; simp) (by rw [hm]; simp only; omega), hm]
    refine ⟨rfl, ?_⟩
    simp only; omega
  · rw [e] at h9 ⊢
    simp only at h9 ⊢
    have hw : wrap64 ((readA a).1 + 1) = (readA a).1 + 1 := wrapS (by omega) (by omega)
    have hm := readA_mk ((readA a).1 + 1) st (by omega) (by omega) hs
    rw [if_pos trivial, hw, goSt16 _ _ (mk_len _ _ ls) hb]
    refine ⟨_, _, rfl, ?_⟩
    rw [newA_snd (by rw [hm]; simp only; omega) (by rw [hm]; simp only; omega), hm]
    refine ⟨rfl, ?_⟩
    simp only; omega
  · rw [e] at h9 ⊢
    simp only at h9 ⊢
    have hw : wrap64 ((readA b).1 + 1) = (readA b).1 + 1 := wrapS (by omega) (by omega)
    have hm := readA_mk ((readA b).1 + 1) st (by omega) (by omega) hs
    rw [if_neg (by decide), hw, goSt16 _ _ (mk_len _ _ ls) ha]
    refine ⟨_, _, rfl, ?_⟩
    rw [newA_fst (by rw [hm]; simp only; omega) (by rw [hm]; simp only; omega), hm]
    refine ⟨rfl, ?_⟩
    simp only; omega
/-- A part of a write leaves what was held. -/
theorem core_part (a b st : List Int) (n : Int) (h0 : 0 ≤ n) (h1 : n ≤ 15) (h9 : (newA a b).2.1 ≠ 999) :
    ∃ a' b', core a b st n = (a', b', true) ∧ (newA a' b').2 = (newA a b).2 := by
  have ga := (readA_gen a).1
  have gb := (readA_gen b).1
  unfold core
  rw [if_neg h9]
  by_cases z : n = 0
  · subst z
    by_cases d : (newA a b).1 = 0
    · rw [if_pos d]; exact ⟨_, _, rfl, rfl⟩
    · rw [if_neg d]; exact ⟨_, _, rfl, rfl⟩
  · rcases newA_cases a b with ⟨e, z1, z2⟩ | ⟨e, z1, z2⟩ | ⟨e, z1⟩
    · have hp := readA_zero (goSt_part (mk (wrap64 ((newA a b).2.1 + 1)) st) a n.toNat (by omega) (by omega))
      rw [if_neg (by rw [e]; decide)]
      refine ⟨_, _, rfl, ?_⟩
      rw [newA_none (by rw [hp]) z2, e]
    · have hp := readA_zero (goSt_part (mk (wrap64 ((newA a b).2.1 + 1)) st) b n.toNat (by omega) (by omega))
      rw [if_pos (by rw [e])]
      refine ⟨_, _, rfl, ?_⟩
      rw [newA_fst (fun q => z2 q.1) (by rw [hp]; exact ga), e]
    · have hp := readA_zero (goSt_part (mk (wrap64 ((newA a b).2.1 + 1)) st) a n.toNat (by omega) (by omega))
      rw [if_neg (by rw [e]; simp only; omega)]
      refine ⟨_, _, rfl, ?_⟩
      rw [newA_snd (fun q => by have := q.2; omega) (by rw [hp]; simp only; omega), e]
theorem areaOk_set {a : List Int} (h : areaOk a = true) (i : Nat) (v : Int) (h0 : 0 ≤ v) (h1 : v ≤ 9999) : areaOk (a.set i v) = true := by
  simp only [areaOk, Bool.and_eq_true, List.all_eq_true, decide_eq_true_eq] at h ⊢
  refine ⟨fun x hx => ?_, by rw [List.length_set]; exact h.2⟩
  rcases List.mem_or_eq_of_mem_set hx with hx | rfl
  · exact h.1 x hx
  · exact ⟨h0, h1⟩
theorem put1_area {nx x : List Int} (hn : areaOk nx = true) (hx : areaOk x = true) (i : Int) (h0 : 0 ≤ i) : areaOk (put1 nx i x) = true := by
  have r0 := area_rd hn 0 (by omega)
  unfold put1
  by_cases c : i = 0
  · rw [if_pos c]; exact areaOk_set hx _ _ (by omega) (by omega)
  · rw [if_neg c]
    by_cases d : i < 15
    · have r := area_rd hn i.toNat (by omega)
      rw [show ((i.toNat : Nat) : Int) = i by omega] at r
      rw [if_pos d]; exact areaOk_set hx _ _ r.1 r.2
    · rw [if_neg d]; exact areaOk_set hx _ _ r0.1 r0.2
theorem goSt_area {nx : List Int} (hn : areaOk nx = true) (d : Nat) : ∀ (i : Int) (x : List Int), 0 ≤ i → areaOk x = true → areaOk (goSt nx d i x) = true := by
  induction d with
  | zero => intro i x _ hx; exact hx
  | succ d ih => intro i x h0 hx; exact ih (i + 1) _ (by omega) (put1_area hn hx i h0)
theorem core_area (a b st : List Int) (n : Int) (ha : areaOk a = true) (hb : areaOk b = true) (hs : stateOk st = true) (h9 : (newA a b).2.1 ≠ 999) :
    areaOk (core a b st n).1 = true ∧ areaOk (core a b st n).2.1 = true := by
  have ga := (readA_gen a).1
  have gb := (readA_gen b).1
  have ta := readA_top a
  have tb := readA_top b
  have hg : 0 ≤ (newA a b).2.1 ∧ (newA a b).2.1 ≤ 999 := by
    rcases newA_cases a b with ⟨e, _, _⟩ | ⟨e, _, _⟩ | ⟨e, _⟩ <;> rw [e] <;> simp only <;> omega
  have hw : wrap64 ((newA a b).2.1 + 1) = (newA a b).2.1 + 1 := wrapS (by omega) (by omega)
  have hm := mk_area ((newA a b).2.1 + 1) st (by omega) (by omega) hs
  unfold core
  rw [if_neg h9, hw]
  by_cases d : (newA a b).1 = 0
  · rw [if_pos d]; exact ⟨ha, goSt_area hm _ 0 b (by omega) hb⟩
  · rw [if_neg d]; exact ⟨goSt_area hm _ 0 a (by omega) ha, hb⟩

/-! two drawn areas -/
theorem zero_area : areaOk (List.replicate 15 0) = true := by decide
theorem zero_head : rd (List.replicate 15 0) 0 ≤ 0 := by decide
theorem areas_l0 {l : List Int} (hb : bytesOk l) (d : Nat) : ∀ (a b : List Int) (m p s : Int), areaOk a = true → areaOk b = true → rd a 0 ≤ m → rd b 0 ≤ m → 0 ≤ m → m + d ≤ 60 → d ≤ 50 → 0 ≤ p → p + 200 * d ≤ 400000000000000000 →
    ∃ a' b' p' s', Ev (fun k => spec_l1Cur_areas.l0 k a b (d : Int) l p s) (a', b', p', s') ∧ a'.length ≤ 15 ∧ b'.length ≤ 15 ∧ p ≤ p' ∧ p' ≤ p + 200 * d + 10 := by
  induction d with
  | zero =>
    intro a b m p s ha hb' h1 h2 h3 h4 _ h5 h6
    obtain ⟨c, p1, s1, e1, a1, b1⟩ := one_ok hb p s 3 h5 (by omega)
    have la := area_len ha
    have lb := area_len hb'
    cases c with
    | false =>
      refine ⟨a, b, p1, s1, ev_step (f := fun _ => some _) (Ev.now _) (fun k => ?_), by omega, by omega, by omega, by omega⟩
      rw [spec_l1Cur_areas.l0, if_neg (by omega), e1]
      rfl
    | true =>
      obtain ⟨n, p2, s2, e2, n0, n1, a2, b2⟩ := pick_ok hb p1 s1 15 (by omega) (by omega)
      have n1 := n1 (by omega)
      obtain ⟨w1, w2⟩ := core_len a b [1, 2, 3] n la lb
      obtain ⟨K, ew⟩ := jrWrite_ok a b [1, 2, 3] n ha hb' (by decide) n0 (by omega)
      dsimp only at ew
      refine ⟨_, _, p2, s2, ⟨K + 1, fun k hk => ?_⟩, w1, w2, by omega, by omega⟩
      obtain ⟨m, rfl⟩ : ∃ m, k = m + 1 := ⟨k - 1, by omega⟩
      dsimp only
      rw [spec_l1Cur_areas.l0, if_neg (by omega), e1]
      simp only [Option.bind_some, if_true]
      rw [e2]
      simp only [Option.bind_some]
      rw [ew m (by omega)]
      rfl
  | succ d ih =>
    intro a b m p s ha hb' h1 h2 h3 h4 h7 h5 h6
    obtain ⟨x, p1, s1, e1, hx, a1, b1⟩ := stateOf_ok hb p s h5 (by omega)
    have e2 := jrState_ok x (by omega)
    have hw : wrap64 (((d + 1 : Nat) : Int) - 1) = (d : Int) := by rw [wrapS (by omega) (by omega)]; omega
    cases g : stateOk x with
    | true =>
      obtain ⟨a', b', ec, ha', hb2, g1, g2⟩ := core_next a b x m ha hb' h1 h2 h3 (by omega) g
      have ew := jrWrite_ok a b x 16 ha hb' g (by omega) (by omega)
      rw [ec] at ew
      obtain ⟨a3, b3, p3, s3, e3, l1, l2, q1, q2⟩ := ih a' b' (m + 1) p1 s1 ha' hb2 g1 g2 (by omega) (by omega) (by omega) (by omega) (by omega)
      refine ⟨a3, b3, p3, s3, ?_, l1, l2, by omega, by omega⟩
      refine ev_step (f := fun k => (spec_l1Cur_stateOf.f k l p s).bind fun bt342 => ((spec_jrState.f k bt342.1).bind fun t347 => (if t347 = true then ((spec_jrWrite.f k a b bt342.1 16).bind fun bt348 => (spec_l1Cur_areas.l0 k bt348.1 bt348.2.1 (wrap64 (((d + 1 : Nat) : Int) - 1)) l bt342.2.1 bt342.2.2)) else (spec_l1Cur_areas.l0 k a b (wrap64 (((d + 1 : Nat) : Int) - 1)) l bt342.2.1 bt342.2.2)))) ?_ (fun k => by rw [spec_l1Cur_areas.l0, if_pos (by omega)])
      refine Ev.bind e1 (Ev.bind e2 ?_)
      simp only [g, if_true]
      refine Ev.bind ew ?_
      simp only [hw]
      exact e3
    | false =>
      obtain ⟨a3, b3, p3, s3, e3, l1, l2, q1, q2⟩ := ih a b m p1 s1 ha hb' h1 h2 h3 (by omega) (by omega) (by omega) (by omega)
      refine ⟨a3, b3, p3, s3, ?_, l1, l2, by omega, by omega⟩
      refine ev_step (f := fun k => (spec_l1Cur_stateOf.f k l p s).bind fun bt342 => ((spec_jrState.f k bt342.1).bind fun t347 => (if t347 = true then ((spec_jrWrite.f k a b bt342.1 16).bind fun bt348 => (spec_l1Cur_areas.l0 k bt348.1 bt348.2.1 (wrap64 (((d + 1 : Nat) : Int) - 1)) l bt342.2.1 bt342.2.2)) else (spec_l1Cur_areas.l0 k a b (wrap64 (((d + 1 : Nat) : Int) - 1)) l bt342.2.1 bt342.2.2)))) ?_ (fun k => by rw [spec_l1Cur_areas.l0, if_pos (by omega)])
      refine Ev.bind e1 (Ev.bind e2 ?_)
      simp only [g, Bool.false_eq_true, if_false, hw]
      exact e3
theorem areas_ok {l : List Int} (hb : bytesOk l) (p s : Int) (h0 : 0 ≤ p) (h1 : p ≤ 100000000000000000) :
    ∃ a b p' s', Ev (fun k => spec_l1Cur_areas.f k l p s) (a, b, p', s') ∧ a.length ≤ 15 ∧ b.length ≤ 15 ∧ p ≤ p' ∧ p' ≤ p + 2000 := by
  obtain ⟨c, p1, s1, e1, a1, b1⟩ := one_ok hb p s 2 h0 (by omega)
  cases c with
  | true =>
    obtain ⟨x, p2, s2, e2, hx, a2, b2⟩ := area_ok hb p1 s1 (by omega) (by omega)
    obtain ⟨y, p3, s3, e3, hy, a3, b3⟩ := area_ok hb p2 s2 (by omega) (by omega)
    refine ⟨x, y, p3, s3, Ev.congr (f := fun k => (spec_l1Cur_area.f k l p1 s1).bind fun bt323 => ((spec_l1Cur_area.f k l bt323.2.1 bt323.2.2).bind fun bt328 => (some (bt323.1, bt328.1, bt328.2.1, bt328.2.2)))) (fun k => ?_) (Ev.bind e2 (Ev.bind e3 (ev_of_eq (fun _ => rfl)))), hx, hy, by omega, by omega⟩
    rw [spec_l1Cur_areas.f, e1]
    rfl
  | false =>
    obtain ⟨n, p2, s2, e2, n0, n1, a2, b2⟩ := pick_ok hb p1 s1 5 (by omega) (by omega)
    have n1 := n1 (by omega)
    obtain ⟨d, rfl⟩ : ∃ d : Nat, n = d := ⟨n.toNat, by omega⟩
    obtain ⟨a', b', p', s', e, l1, l2, q1, q2⟩ := areas_l0 hb d (List.replicate 15 0) (List.replicate 15 0) 0 p2 s2 zero_area zero_area zero_head zero_head (by omega) (by omega) (by omega) (by omega) (by omega)
    refine ⟨a', b', p', s', Ev.congr (fun k => ?_) e, l1, l2, by omega, by omega⟩
    rw [spec_l1Cur_areas.f, e1]
    simp only [Option.bind_some, Bool.false_eq_true, if_false]
    rw [if_pos (by omega), e2]
    rfl
theorem drawCrash_ok {l : List Int} (hb : bytesOk l) : ∃ a b st n, Ev (fun k => spec_DrawCrashAt.f k l) (a, b, st, n) ∧ a.length ≤ 15 ∧ b.length ≤ 15 ∧ st.length ≤ 13 := by
  obtain ⟨a, b, p, s, e, la, lb, p0, p1⟩ := areas_ok hb 0 0 (by omega) (by omega)
  obtain ⟨st, p2, s2, e2, ls, q0, q1⟩ := stateOf_ok hb p s (by omega) (by omega)
  obtain ⟨x, p3, s3, e3, _, _, _, _⟩ := pick_ok hb p2 s2 16 (by omega) (by omega)
  obtain ⟨y, p4, s4, e4, _, _, _, _⟩ := pick_ok hb p3 s3 16 (by omega) (by omega)
  obtain ⟨z, p5, s5, e5, _, _, _⟩ := among_ok hb p4 s4 (([17, (-1)] : List Int)) (by simp) (by omega) (by omega)
  obtain ⟨u, p6, s6, e6, _, _, _⟩ := among_ok hb p5 s5 (([0, 1, 2, 3, x, y, 15, 16, z] : List Int)) (by simp) (by omega) (by omega)
  refine ⟨a, b, st, u, Ev.bind e (Ev.bind e2 (ev_of_eq (fun _ => ?_))), la, lb, ls⟩
  dsimp only
  rw [e3]
  simp only [Option.bind_some]
  rw [e4]
  simp only [Option.bind_some]
  rw [e5]
  simp only [Option.bind_some]
  rw [e6]
  rfl
theorem drawWrite_ok {l : List Int} (hb : bytesOk l) : ∃ a b st, Ev (fun k => spec_DrawWriteState.f k l) (a, b, st) ∧ a.length ≤ 15 ∧ b.length ≤ 15 ∧ st.length ≤ 13 := by
  obtain ⟨a, b, p, s, e, la, lb, p0, p1⟩ := areas_ok hb 0 0 (by omega) (by omega)
  obtain ⟨st, p2, s2, e2, ls, q0, q1⟩ := stateOf_ok hb p s (by omega) (by omega)
  exact ⟨a, b, st, Ev.bind e (Ev.bind e2 ev_const), la, lb, ls⟩

end Go.Proofs.Ytlbbkepkincleaa.LFnCrashesD
