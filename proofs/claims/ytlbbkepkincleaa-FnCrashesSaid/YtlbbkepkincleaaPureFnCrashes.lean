/- For every input the law FnCrashes answers true, after some number of rounds; the conditions are the input's own bounds. -/
import Derived.Test.YtlbbkepkincleaaQFnCrashesx9
import Derived.Test.YtlbbkepkincleaaBaseFnCrashes
import Derived.Test.YtlbbkepkincleaaLFnCrashesD
namespace Go.Proofs.Ytlbbkepkincleaa.Pure
open Go Go.RowKit Go.Proofs.Ytlbbkepkincleaa.QFnCrashes Go.Proofs.YtlbbkepkincleaaW.PrintWords Go.Proofs.YtlbbkepkincleaaW.PrintLast Go.Proofs.YtlbbkepkincleaaW.PrintMore Go.Proofs.Ytlbbkepkincleaa.Base Go.Proofs.Ytlbbkepkincleaa.LFnCrashesD
set_option linter.unusedVariables false
set_option linter.unusedSimpArgs false

/-! two lists that are one -/
theorem qInts_l0 (suf : List Int) : ∀ pre : List Int, (pre ++ suf).length ≤ 9223372036854775806 → Ev (fun k => laws_qInts.l0 k (pre ++ suf) (pre ++ suf) ((pre ++ suf).length : Int) (pre.length : Int)) true := by
  induction suf with
  | nil =>
    intro pre _
    refine ev_step ev_const (fun k => ?_)
    rw [laws_qInts.l0, if_neg (by simp)]
  | cons x suf ih =>
    intro pre hl
    have h := ih (pre ++ [x]) (by simp at hl ⊢; omega)
    rw [snoc_app, snoc_leni] at h
    have hl' : (pre.length : Int) < ((pre ++ x :: suf).length : Int) := by simp; omega
    refine ev_step h (fun k => ?_)
    rw [laws_qInts.l0, if_pos hl', if_pos (by omega), if_pos hl', if_pos hl', if_pos rfl, wrapS (by omega) (by simp at hl; omega)]
theorem qInts_same (l : List Int) (h : l.length ≤ 9223372036854775806) : Ev (fun k => laws_qInts.f k l l) true := by
  have := qInts_l0 l [] (by simpa using h)
  refine Ev.congr (fun k => ?_) this
  rw [laws_qInts.f, if_pos rfl]
  rfl

def crashR (a b st : List Int) (n : Int) : List Int × List Int × Bool := if (areaOk a && areaOk b) = true then (if stateOk st = true then (if 0 ≤ n ∧ n ≤ 16 then core a b st n else ([], [], false)) else ([], [], false)) else ([], [], false)
theorem crashR_len (a b st : List Int) (n : Int) : (crashR a b st n).1.length ≤ 15 ∧ (crashR a b st n).2.1.length ≤ 15 := by
  unfold crashR
  by_cases c : (areaOk a && areaOk b) = true
  · rw [if_pos c]
    by_cases d : stateOk st = true
    · rw [if_pos d]
      by_cases e : 0 ≤ n ∧ n ≤ 16
      · rw [if_pos e]; exact core_len a b st n (area_len (Bool.and_eq_true_iff.1 c).1) (area_len (Bool.and_eq_true_iff.1 c).2)
      · rw [if_neg e]; simp
    · rw [if_neg d]; simp
  · rw [if_neg c]; simp
theorem specCrash_ok (a b st : List Int) (n : Int) (ha : a.length ≤ 1048576) (hb : b.length ≤ 1048576) (hs : st.length ≤ 1048576) : Ev (fun k => spec_CrashAt.f k a b st n) (crashR a b st n) := by
  refine Ev.bind (jrTwo_ok a b ha hb) ?_
  unfold crashR
  by_cases c : (areaOk a && areaOk b) = true
  · simp only [c, if_true]
    refine Ev.bind (jrState_ok st (by omega)) ?_
    by_cases d : stateOk st = true
    · simp only [d, if_true]
      have hc : spec_l1In.f n 0 16 = some (decide (0 ≤ n ∧ n ≤ 16)) := by
        unfold spec_l1In.f
        by_cases h : n ≥ 0
        · rw [if_pos h]; congr 1; exact decide_eq_decide.2 ⟨fun q => ⟨h, q⟩, fun q => q.2⟩
        · rw [if_neg h]; congr 1; exact (decide_eq_false (fun q => h q.1)).symm
      simp only [hc, Option.bind_some]
      by_cases e : 0 ≤ n ∧ n ≤ 16
      · simp only [e, and_self, decide_true, if_true]
        exact Ev.bind (jrWrite_ok a b st n (Bool.and_eq_true_iff.1 c).1 (Bool.and_eq_true_iff.1 c).2 d e.1 e.2) ev_const
      · simp only [e, decide_false, Bool.false_eq_true, if_false]; exact ev_const
    · simp only [d, Bool.false_eq_true, if_false]; exact ev_const
  · simp only [c, Bool.false_eq_true, if_false]; exact ev_const
theorem implCrash_ok (a b st : List Int) (n : Int) (ha : a.length ≤ 1048576) (hb : b.length ≤ 1048576) (hs : st.length ≤ 1048576) : Ev (fun k => impl_CrashAt.f k a b st n) (crashR a b st n) := by
  refine Ev.bind (isArea_ok a (by omega)) ?_
  unfold crashR
  cases ca : areaOk a with
  | false => simp only [Bool.false_and, Bool.false_eq_true, if_false]; exact ev_const
  | true =>
    simp only [Bool.true_and, if_true]
    refine Ev.bind (isArea_ok b (by omega)) ?_
    cases cb : areaOk b with
    | false => simp only [Bool.false_eq_true, if_false]; exact ev_const
    | true =>
      simp only [if_true]
      refine Ev.bind (isState_ok st (by omega)) ?_
      by_cases d : stateOk st = true
      · simp only [d, if_true]
        by_cases e1 : n < 0
        · rw [if_neg (show ¬ (0 ≤ n ∧ n ≤ 16) by omega)]
          simp only [e1, if_true]; exact ev_const
        · by_cases e2 : n > 16
          · rw [if_neg (show ¬ (0 ≤ n ∧ n ≤ 16) by omega)]
            simp only [e1, e2, if_true, if_false]; exact ev_const
          · rw [if_pos (show (0 ≤ n ∧ n ≤ 16) by omega)]
            simp only [e1, e2, if_false]
            exact Ev.bind (writeSteps_ok a b st n ca cb d (by omega) (by omega)) ev_const
      · simp only [d, Bool.false_eq_true, if_false]; exact ev_const

def writeR (a b st : List Int) : List Int × List Int × Bool := crashR a b st 16
theorem writeR_len (a b st : List Int) : (writeR a b st).1.length ≤ 15 ∧ (writeR a b st).2.1.length ≤ 15 := crashR_len a b st 16
theorem specWrite_ok (a b st : List Int) (ha : a.length ≤ 1048576) (hb : b.length ≤ 1048576) (hs : st.length ≤ 1048576) : Ev (fun k => spec_WriteState.f k a b st) (writeR a b st) := by
  refine Ev.bind (jrTwo_ok a b ha hb) ?_
  unfold writeR crashR
  by_cases c : (areaOk a && areaOk b) = true
  · simp only [c, if_true]
    refine Ev.bind (jrState_ok st (by omega)) ?_
    by_cases d : stateOk st = true
    · simp only [d, if_true]
      rw [if_pos (show (0 : Int) ≤ 16 ∧ (16 : Int) ≤ 16 by omega)]
      exact Ev.bind (jrWrite_ok a b st 16 (Bool.and_eq_true_iff.1 c).1 (Bool.and_eq_true_iff.1 c).2 d (by omega) (by omega)) ev_const
    · simp only [d, Bool.false_eq_true, if_false]; exact ev_const
  · simp only [c, Bool.false_eq_true, if_false]; exact ev_const
theorem implWrite_ok (a b st : List Int) (ha : a.length ≤ 1048576) (hb : b.length ≤ 1048576) (hs : st.length ≤ 1048576) : Ev (fun k => impl_WriteState.f k a b st) (writeR a b st) :=
  Ev.bind (implCrash_ok a b st 16 ha hb hs) ev_const

def newR (a b : List Int) : Int × Bool := if (areaOk a && areaOk b) = true then (if (newA a b).1 < 0 then 0 else (newA a b).1, decide ((newA a b).1 ≥ 0)) else (0, false)
theorem specNewestArea_ok (a b : List Int) (ha : a.length ≤ 1048576) (hb : b.length ≤ 1048576) : Ev (fun k => spec_NewestArea.f k a b) (newR a b) := by
  refine Ev.bind (jrTwo_ok a b ha hb) ?_
  cases s : (areaOk a && areaOk b) with
  | false => exact ev_of_eq (fun _ => by simp [newR, s])
  | true =>
    simp only [if_true]
    have s' : areaOk a = true ∧ areaOk b = true := by simpa using s
    refine Ev.bind (jrHeld_ok a b s'.1 s'.2) (ev_of_eq (fun _ => ?_))
    simp only [newR, s, if_true, spec_l1Most.f]
    by_cases h : (newA a b).1 < 0
    · simp [h, show (0 : Int) > (newA a b).1 by omega]
    · have h3 : ¬ (0 : Int) > (newA a b).1 := by omega
      simp [h3, h]
theorem implNewestArea_ok (a b : List Int) (ha : a.length ≤ 1048576) (hb : b.length ≤ 1048576) : Ev (fun k => impl_NewestArea.f k a b) (newR a b) := by
  have J1 : ∀ c, c = true → Ev (fun k => impl_NewestArea.j0 k a b c) (0, false) := by
    intro c hc
    refine ev_step (f := fun _ => some _) (Ev.now _) (fun k => ?_)
    rw [impl_NewestArea.j0, if_pos hc]
  refine Ev.bind (isArea_ok a (by omega)) ?_
  cases s1 : areaOk a with
  | false =>
    simp only [Bool.false_eq_true, if_false]
    exact ev_eq (J1 true rfl) (by simp [newR, s1])
  | true =>
    simp only [if_true]
    refine Ev.bind (isArea_ok b (by omega)) ?_
    cases s2 : areaOk b with
    | false => exact ev_eq (J1 true rfl) (by simp [newR, s2])
    | true =>
      obtain ⟨K, e⟩ := newest_ok a b s1 s2
      dsimp only at e
      refine ⟨K + 1, fun k hk => ?_⟩
      obtain ⟨m, rfl⟩ : ∃ m, k = m + 1 := ⟨k - 1, by omega⟩
      dsimp only
      rw [impl_NewestArea.j0, if_neg (by decide), e m (by omega)]
      simp only [Option.bind_some, newR, s1, s2, Bool.and_self, if_true]
      by_cases h : (newA a b).1 < 0
      · simp [h]
      · simp [h]; omega

/-! how many of two areas hold a state -/
def leftR (a b : List Int) : Int × Bool := if (areaOk a && areaOk b) = true then ((if (readA a).1 > 0 then (1 : Int) else 0) + (if (readA b).1 > 0 then (1 : Int) else 0), true) else (0, false)
theorem specLeft_ok (a b : List Int) (ha : a.length ≤ 1048576) (hb : b.length ≤ 1048576) : Ev (fun k => spec_StatesLeft.f k a b) (leftR a b) := by
  refine Ev.bind (jrTwo_ok a b ha hb) ?_
  unfold leftR
  by_cases c : (areaOk a && areaOk b) = true
  · obtain ⟨ca, cb⟩ := Bool.and_eq_true_iff.1 c
    simp only [c, if_true]
    refine Ev.bind (jrRead_ok a ca) (Ev.bind (jrRead_ok b cb) (ev_of_eq (fun _ => ?_)))
    simp only [decide_eq_true_eq]
  · simp only [c, Bool.false_eq_true, if_false]; exact ev_const
theorem implLeft_ok (a b : List Int) (ha : a.length ≤ 1048576) (hb : b.length ≤ 1048576) : Ev (fun k => impl_StatesLeft.f k a b) (leftR a b) := by
  refine Ev.bind (isArea_ok a (by omega)) ?_
  unfold leftR
  cases ca : areaOk a with
  | false => simp only [Bool.false_and, Bool.false_eq_true, if_false]; exact ev_const
  | true =>
    simp only [Bool.true_and, if_true]
    refine Ev.bind (isArea_ok b (by omega)) ?_
    cases cb : areaOk b with
    | false => simp only [Bool.false_eq_true, if_false]; exact ev_const
    | true =>
      simp only [if_true]
      exact Ev.bind (readArea_ok a ca) (Ev.bind (readArea_ok b cb) ev_const)

def recR (a b : List Int) : Int × List Int × Bool := if (areaOk a && areaOk b) = true then ((newA a b).2.1, (newA a b).2.2, decide ((newA a b).2.1 > 0)) else (0, [], false)
theorem recR_len (a b : List Int) : (recR a b).2.1.length ≤ 30 := by
  unfold recR; split
  · rename_i h
    simp only [Bool.and_eq_true] at h
    have h1 := area_len h.1
    have h2 := area_len h.2
    have := newA_len a b
    simp only
    omega
  · simp
theorem specRecoverState_ok (a b : List Int) (ha : a.length ≤ 1048576) (hb : b.length ≤ 1048576) : Ev (fun k => spec_RecoverState.f k a b) (recR a b) := by
  refine Ev.bind (jrTwo_ok a b ha hb) ?_
  cases s : (areaOk a && areaOk b) with
  | false => exact ev_of_eq (fun _ => by simp [recR, s])
  | true =>
    simp only [if_true]
    have s' : areaOk a = true ∧ areaOk b = true := by simpa using s
    exact Ev.bind (jrHeld_ok a b s'.1 s'.2) (ev_of_eq (fun _ => by simp only [recR, s, if_true, newA_pos]))
theorem implRecoverState_ok (a b : List Int) (ha : a.length ≤ 1048576) (hb : b.length ≤ 1048576) : Ev (fun k => impl_RecoverState.f k a b) (recR a b) := by
  refine Ev.bind (isArea_ok a (by omega)) ?_
  cases s1 : areaOk a with
  | false => exact ev_of_eq (fun _ => by simp [recR, s1])
  | true =>
    simp only [if_true]
    refine Ev.bind (isArea_ok b (by omega)) ?_
    cases s2 : areaOk b with
    | false => exact ev_of_eq (fun _ => by simp [recR, s2])
    | true =>
      simp only [if_true]
      exact Ev.bind (newest_ok a b s1 s2) (ev_of_eq (fun _ => by simp [recR, s1, s2]))

def readR (a : List Int) : Int × List Int × Bool := if areaOk a = true then ((readA a).1, (readA a).2, decide ((readA a).1 > 0)) else (0, [], false)
theorem readR_len (a : List Int) : (readR a).2.1.length ≤ a.length := by
  have := readA_len a
  unfold readR; split
  · exact this
  · simp
theorem implReadArea_ok (a : List Int) (h : a.length ≤ 1048576) : Ev (fun k => impl_ReadArea.f k a) (readR a) := by
  refine Ev.bind (isArea_ok a (by omega)) ?_
  cases s : areaOk a with
  | false => exact ev_of_eq (fun _ => by simp [readR, s])
  | true =>
    simp only [if_true]
    exact Ev.bind (readArea_ok a s) (ev_of_eq (fun _ => by simp [readR, s]))

/-! what the law asks of two areas -/
theorem u8_bytes {l : List Int} (h : ∀ x ∈ l, (Lit.int .u8 x).wf = true) : bytesOk l := by
  intro x hx
  have := h x hx
  simp [Lit.wf, IntKind.min, IntKind.max, IntKind.bits, IntKind.signed] at this
  omega
theorem ne2 (x : Bool) : ¬ (x != x) = true := by simp
theorem new_rec (a b : List Int) : (newR a b).2 = (recR a b).2.2 := by
  unfold newR recR
  split
  · exact newA_pos a b
  · rfl
theorem rec_left (a b : List Int) : (recR a b).2.2 = ((leftR a b).2 && decide ((leftR a b).1 > 0)) := by
  unfold recR leftR
  split
  · have ga := (readA_gen a).1
    have gb := (readA_gen b).1
    simp only [Bool.true_and]
    rcases newA_cases a b with ⟨e, z1, z2⟩ | ⟨e, z1, z2⟩ | ⟨e, z1⟩
    · rw [e, z1, z2]; rfl
    · rw [e]
      simp only
      refine decide_eq_decide.2 ?_
      rw [if_pos (show (readA a).1 > 0 by omega)]
      split <;> omega
    · rw [e]
      simp only
      refine decide_eq_decide.2 ?_
      rw [if_pos (show (readA b).1 > 0 by omega)]
      split <;> omega
  · rfl
theorem rec_yes {a b : List Int} (h : (recR a b).2.2 = true) : areaOk a = true ∧ areaOk b = true ∧ recR a b = ((newA a b).2.1, (newA a b).2.2, true) ∧ (newA a b).2.1 > 0 := by
  unfold recR at h ⊢
  by_cases c : (areaOk a && areaOk b) = true
  · rw [if_pos c] at h ⊢
    simp only [decide_eq_true_eq] at h
    obtain ⟨c1, c2⟩ := Bool.and_eq_true_iff.1 c
    exact ⟨c1, c2, by rw [show decide ((newA a b).2.1 > 0) = true from decide_eq_true h], h⟩
  · rw [if_neg c] at h; cases h
theorem newest_read {a b : List Int} (h : (recR a b).2.2 = true) : 0 ≤ (newR a b).1 ∧ (newR a b).1 < 2 ∧ readR (rd_L2 [a, b] (newR a b).1) = recR a b := by
  obtain ⟨ha, hb, e, hg⟩ := rec_yes h
  rw [e]
  unfold newR
  rw [if_pos (by rw [ha, hb]; rfl)]
  rcases newA_cases a b with ⟨e, z1, z2⟩ | ⟨e, z1, z2⟩ | ⟨e, z1⟩
  · rw [e] at hg; simp only at hg; omega
  · rw [e] at hg ⊢
    simp only at hg ⊢
    refine ⟨by decide, by decide, ?_⟩
    show readR a = _
    rw [readR, if_pos ha, show decide ((readA a).1 > 0) = true from decide_eq_true hg]
  · rw [e] at hg ⊢
    simp only at hg ⊢
    refine ⟨by decide, by decide, ?_⟩
    show readR b = _
    rw [readR, if_pos hb, show decide ((readA b).1 > 0) = true from decide_eq_true hg]
theorem crash_yes {a b st : List Int} {n : Int} (h : (crashR a b st n).2.2 = true) : areaOk a = true ∧ areaOk b = true ∧ stateOk st = true ∧ 0 ≤ n ∧ n ≤ 16 ∧ (newA a b).2.1 ≠ 999 ∧ crashR a b st n = core a b st n := by
  unfold crashR at h ⊢
  by_cases c : (areaOk a && areaOk b) = true
  · rw [if_pos c] at h ⊢
    by_cases d : stateOk st = true
    · rw [if_pos d] at h ⊢
      by_cases e : 0 ≤ n ∧ n ≤ 16
      · rw [if_pos e] at h ⊢
        obtain ⟨c1, c2⟩ := Bool.and_eq_true_iff.1 c
        refine ⟨c1, c2, d, e.1, e.2, fun q => ?_, rfl⟩
        unfold core at h
        rw [if_pos q] at h
        cases h
      · rw [if_neg e] at h; cases h
    · rw [if_neg d] at h; cases h
  · rw [if_neg c] at h; cases h
theorem rec_of {a b : List Int} (ha : areaOk a = true) (hb : areaOk b = true) : recR a b = ((newA a b).2.1, (newA a b).2.2, decide ((newA a b).2.1 > 0)) := by
  unfold recR; rw [if_pos (by rw [ha, hb]; rfl)]
theorem newA_gen (a b : List Int) : 0 ≤ (newA a b).2.1 ∧ (newA a b).2.1 ≤ 999 := by
  have ga := (readA_gen a).1
  have gb := (readA_gen b).1
  have ta := readA_top a
  have tb := readA_top b
  rcases newA_cases a b with ⟨e, _, _⟩ | ⟨e, _, _⟩ | ⟨e, _⟩ <;> rw [e] <;> simp only <;> omega
theorem crash_after {a b st : List Int} {n : Int} (h : (crashR a b st n).2.2 = true) :
    (n = 16 → recR (crashR a b st n).1 (crashR a b st n).2.1 = (wrap64 ((recR a b).1 + 1), st, true)) ∧ (n ≠ 16 → recR (crashR a b st n).1 (crashR a b st n).2.1 = recR a b) := by
  obtain ⟨ha, hb, hs, h0, h1, h9, e⟩ := crash_yes h
  obtain ⟨wa, wb⟩ := core_area a b st n ha hb hs h9
  have hg := newA_gen a b
  rw [e, rec_of wa wb, rec_of ha hb]
  constructor
  · intro hn
    subst hn
    obtain ⟨a', b', ec, h2, _⟩ := core_full a b st (area_len ha) (area_len hb) hs h9
    rw [ec]
    simp only
    rw [h2]
    simp only
    rw [wrapS (by omega) (by omega), show decide ((newA a b).2.1 + 1 > 0) = true from decide_eq_true (by omega)]
  · intro hn
    obtain ⟨a', b', ec, h2⟩ := core_part a b st n h0 (by omega) h9
    rw [ec]
    simp only
    rw [h2]
theorem write_after {a b st : List Int} (h : (writeR a b st).2.2 = true) : recR (writeR a b st).1 (writeR a b st).2.1 = (wrap64 ((recR a b).1 + 1), st, true) := (crash_after h).1 rfl
theorem crash_state {a b st : List Int} {n : Int} (h : (crashR a b st n).2.2 = true) : st.length ≤ 12 := state_len (crash_yes h).2.2.1
theorem law_j3 (st : List Int) (n : Int) (Q S : Int × List Int × Bool) (hq : Q.2.1.length ≤ 30) (hs : S.2.1.length ≤ 30) (h1 : n = 16 → S = (wrap64 (Q.1 + 1), st, true)) (h2 : n ≠ 16 → S = Q) :
    Ev (fun k => laws_FnCrashes.j3 k st n Q.1 Q.2.1 Q.2.2 S.1 S.2.1 S.2.2 false) true := by
  obtain ⟨K, e⟩ := qInts_same S.2.1 (by omega)
  dsimp only at e
  refine ⟨K + 1, fun k hk => ?_⟩
  obtain ⟨m, rfl⟩ : ∃ m, k = m + 1 := ⟨k - 1, by omega⟩
  dsimp only
  rw [laws_FnCrashes.j3, if_neg (by decide)]
  by_cases c : n = 16
  · have hS := h1 c
    subst hS
    dsimp only at e ⊢
    rw [if_pos c, if_pos rfl, if_pos rfl, e m (by omega)]
    rfl
  · have hS := h2 c
    subst hS
    rw [if_neg c, if_pos (by simp), if_pos rfl, e m (by omega)]
    rfl
theorem law_j2 (a b st : List Int) (n : Int) (ha : a.length ≤ 15) (hb : b.length ≤ 15) : Ev (fun k => laws_FnCrashes.j2 k a b st n (crashR a b st n).1 (crashR a b st n).2.1 (crashR a b st n).2.2 (crashR a b st n).1 (crashR a b st n).2.1) true := by
  obtain ⟨w1, w2⟩ := crashR_len a b st n
  by_cases c : (crashR a b st n).2.2 = true
  · obtain ⟨h1, h2⟩ := crash_after c
    obtain ⟨K1, e1⟩ := implRecoverState_ok a b (by omega) (by omega)
    obtain ⟨K2, e2⟩ := specRecoverState_ok a b (by omega) (by omega)
    obtain ⟨K3, e3⟩ := implRecoverState_ok (crashR a b st n).1 (crashR a b st n).2.1 (by omega) (by omega)
    obtain ⟨K4, e4⟩ := specRecoverState_ok (crashR a b st n).1 (crashR a b st n).2.1 (by omega) (by omega)
    have q1 := recR_len a b
    have q2 := recR_len (crashR a b st n).1 (crashR a b st n).2.1
    obtain ⟨K5, e5⟩ := qInts_same (recR a b).2.1 (by omega)
    obtain ⟨K6, e6⟩ := qInts_same (recR (crashR a b st n).1 (crashR a b st n).2.1).2.1 (by omega)
    obtain ⟨K7, e7⟩ := law_j3 st n (recR a b) (recR (crashR a b st n).1 (crashR a b st n).2.1) q1 q2 h1 h2
    dsimp only at e1 e2 e3 e4 e5 e6 e7
    refine ⟨K1 + K2 + K3 + K4 + K5 + K6 + K7 + 1, fun k hk => ?_⟩
    obtain ⟨m, rfl⟩ : ∃ m, k = m + 1 := ⟨k - 1, by omega⟩
    dsimp only
    rw [laws_FnCrashes.j2, if_pos c]
    simp (disch := omega) only [e1, e2, e3, e4, Option.bind_some, bnot_ne, Bool.false_eq_true, if_false, if_true, e5, e6, Bool.not_true, e7]
  · refine ev_step (f := fun _ => some true) (Ev.now _) (fun k => ?_)
    rw [laws_FnCrashes.j2, if_neg c]
theorem law_j1 (a b st : List Int) (n : Int) (c d o : List Int) (ha : a.length ≤ 15) (hb : b.length ≤ 15) (hc : c.length ≤ 15) (hd : d.length ≤ 15) :
    Ev (fun k => laws_FnCrashes.j1 k a b st n (crashR a b st n).1 (crashR a b st n).2.1 (crashR a b st n).2.2 (crashR a b st n).1 (crashR a b st n).2.1 o (writeR c d o).1 (writeR c d o).2.1 (writeR c d o).2.2 (recR c d).1) true := by
  have h2 := law_j2 a b st n ha hb
  by_cases g : (writeR c d o).2.2 = true
  · have hw := write_after g
    obtain ⟨w1, w2⟩ := writeR_len c d o
    have lo := crash_state g
    obtain ⟨K1, e1⟩ := implRecoverState_ok (writeR c d o).1 (writeR c d o).2.1 (by omega) (by omega)
    obtain ⟨K2, e2⟩ := qInts_same o (by omega)
    obtain ⟨K3, e3⟩ := h2
    rw [hw] at e1
    dsimp only at e1 e2 e3
    refine ⟨K1 + K2 + K3 + 1, fun k hk => ?_⟩
    obtain ⟨m, rfl⟩ : ∃ m, k = m + 1 := ⟨k - 1, by omega⟩
    dsimp only
    rw [laws_FnCrashes.j1, if_pos g]
    simp (disch := omega) only [e1, e2, e3, Option.bind_some, if_true]
  · refine ev_step h2 (fun k => ?_)
    rw [laws_FnCrashes.j1, if_neg g]
theorem law_j0 (a b st : List Int) (n : Int) (c d o : List Int) (ha : a.length ≤ 15) (hb : b.length ≤ 15) (hc : c.length ≤ 15) (hd : d.length ≤ 15) :
    Ev (fun k => laws_FnCrashes.j0 k a b st n (crashR a b st n).1 (crashR a b st n).2.1 (crashR a b st n).2.2 (crashR a b st n).1 (crashR a b st n).2.1 c d o (writeR c d o).1 (writeR c d o).2.1 (writeR c d o).2.2 (newR c d).1 (recR c d).2.2 (recR c d).1 (recR c d).2.1 false) true := by
  have h1 := law_j1 a b st n c d o ha hb hc hd
  by_cases g : (recR c d).2.2 = true
  · obtain ⟨i0, i1, hr⟩ := newest_read g
    have hl : (rd_L2 [c, d] (newR c d).1).length ≤ 15 := by
      have hm : rd_L2 [c, d] (newR c d).1 = c ∨ rd_L2 [c, d] (newR c d).1 = d := by
        rcases (show (newR c d).1 = 0 ∨ (newR c d).1 = 1 by omega) with e | e <;> rw [e]
        · exact .inl rfl
        · exact .inr rfl
      rcases hm with e | e <;> rw [e] <;> assumption
    have q1 := recR_len c d
    obtain ⟨K1, e1⟩ := implReadArea_ok (rd_L2 [c, d] (newR c d).1) (by omega)
    obtain ⟨K2, e2⟩ := qInts_same (recR c d).2.1 (by omega)
    obtain ⟨K3, e3⟩ := h1
    rw [hr] at e1
    dsimp only at e1 e2 e3
    refine ⟨K1 + K2 + K3 + 1, fun k hk => ?_⟩
    obtain ⟨m, rfl⟩ : ∃ m, k = m + 1 := ⟨k - 1, by omega⟩
    dsimp only
    rw [laws_FnCrashes.j0, if_neg (by decide), if_pos g]
    simp only [Option.bind_some]
    rw [if_pos i0, if_pos (show (newR c d).1 < (([c, d] : List (List Int)).length : Int) from i1)]
    simp (disch := omega) only [e1, e2, e3, Option.bind_some, g, if_true]
  · refine ev_step h1 (fun k => ?_)
    rw [laws_FnCrashes.j0, if_neg (by decide), if_neg g]
set_option maxHeartbeats 4000000 in
theorem FnCrashes : laws_FnCrashes.Pure := by
  intro l0 l1 hm0 hb0 hw0 hm1 hb1 hw1
  by_cases big : wrap64 ((l0.length : Int) + (l1.length : Int)) > 1048576
  · exact ⟨0, by rw [laws_FnCrashes.f, if_pos big]⟩
  obtain ⟨a, b, st, n, ⟨K1, e1⟩, la, lb, ls⟩ := drawCrash_ok (u8_bytes hw0)
  obtain ⟨c, d, o, ⟨K2, e2⟩, lc, ld, lo⟩ := drawWrite_ok (u8_bytes hw1)
  obtain ⟨K3, e3⟩ := implCrash_ok a b st n (by omega) (by omega) (by omega)
  obtain ⟨K4, e4⟩ := specCrash_ok a b st n (by omega) (by omega) (by omega)
  obtain ⟨K5, e5⟩ := implWrite_ok c d o (by omega) (by omega) (by omega)
  obtain ⟨K6, e6⟩ := specWrite_ok c d o (by omega) (by omega) (by omega)
  obtain ⟨K7, e7⟩ := implNewestArea_ok c d (by omega) (by omega)
  obtain ⟨K8, e8⟩ := specNewestArea_ok c d (by omega) (by omega)
  obtain ⟨K9, e9⟩ := implLeft_ok c d (by omega) (by omega)
  obtain ⟨K10, e10⟩ := specLeft_ok c d (by omega) (by omega)
  obtain ⟨K11, e11⟩ := implRecoverState_ok c d (by omega) (by omega)
  obtain ⟨K12, e12⟩ := specRecoverState_ok c d (by omega) (by omega)
  obtain ⟨w1, w2⟩ := crashR_len a b st n
  obtain ⟨w3, w4⟩ := writeR_len c d o
  have q1 := recR_len c d
  obtain ⟨K13, e13⟩ := qInts_same (crashR a b st n).1 (by omega)
  obtain ⟨K14, e14⟩ := qInts_same (crashR a b st n).2.1 (by omega)
  obtain ⟨K15, e15⟩ := qInts_same (writeR c d o).1 (by omega)
  obtain ⟨K16, e16⟩ := qInts_same (writeR c d o).2.1 (by omega)
  obtain ⟨K17, e17⟩ := qInts_same (recR c d).2.1 (by omega)
  obtain ⟨K18, e18⟩ := law_j0 a b st n c d o la lb lc ld
  have h1 := new_rec c d
  have h2 := rec_left c d
  dsimp only at e1 e2 e3 e4 e5 e6 e7 e8 e9 e10 e11 e12 e13 e14 e15 e16 e17 e18
  refine ⟨K1 + K2 + K3 + K4 + K5 + K6 + K7 + K8 + K9 + K10 + K11 + K12 + K13 + K14 + K15 + K16 + K17 + K18, ?_⟩
  generalize hK : K1 + K2 + K3 + K4 + K5 + K6 + K7 + K8 + K9 + K10 + K11 + K12 + K13 + K14 + K15 + K16 + K17 + K18 = k
  rw [laws_FnCrashes.f, if_neg big, e1 k (by omega), Option.bind_some, e3 k (by omega), Option.bind_some, e4 k (by omega), Option.bind_some, e2 k (by omega), Option.bind_some, e5 k (by omega), Option.bind_some, e6 k (by omega), Option.bind_some, e7 k (by omega), Option.bind_some, e8 k (by omega), Option.bind_some, e9 k (by omega), Option.bind_some, e10 k (by omega), Option.bind_some, e11 k (by omega), Option.bind_some, e12 k (by omega), Option.bind_some]
  rw [if_neg (ne2 _), e13 k (by omega), Option.bind_some, if_pos rfl, e14 k (by omega), Option.bind_some, if_pos rfl, if_neg (ne2 _), e15 k (by omega), Option.bind_some, if_pos rfl, e16 k (by omega), Option.bind_some, if_pos rfl, if_neg (ne2 _), if_pos rfl, if_neg (ne2 _), if_pos rfl, if_neg (ne2 _), if_pos rfl, e17 k (by omega), Option.bind_some, if_pos rfl]
  rw [show ((newR c d).2 != (recR c d).2.2) = false from by rw [h1, bnot_ne], if_neg (by decide)]
  by_cases g : (leftR c d).2 = true
  · rw [if_pos g, show ((recR c d).2.2 != decide ((leftR c d).1 > 0)) = false from by rw [h2, g, Bool.true_and, bnot_ne]]
    exact e18 k (by omega)
  · rw [if_neg g, show ((recR c d).2.2 != false) = false from by rw [h2, Bool.eq_false_iff.2 g]; rfl]
    exact e18 k (by omega)

end Go.Proofs.Ytlbbkepkincleaa.Pure
