/- For every input the law FnAreas answers true, after some number of rounds; the conditions are the input's own bounds. -/
import Derived.Test.YtlbbkepkincleaaQFnAreasx9
import Derived.Test.YtlbbkepkincleaaBaseFnAreas
import Derived.Test.YtlbbkepkincleaaLFnAreasD
namespace Go.Proofs.Ytlbbkepkincleaa.Pure
open Go Go.RowKit Go.Proofs.Ytlbbkepkincleaa.QFnAreas Go.Proofs.YtlbbkepkincleaaW.PrintWords Go.Proofs.YtlbbkepkincleaaW.PrintLast Go.Proofs.YtlbbkepkincleaaW.PrintMore Go.Proofs.Ytlbbkepkincleaa.Base Go.Proofs.Ytlbbkepkincleaa.LFnAreasD
set_option linter.unusedVariables false
set_option linter.unusedSimpArgs false

/-! two lists that are one -/
theorem qInts_l0 (suf : List Int) : ∀ pre : List Int, (pre ++ suf).length ≤ 9223372036854775806 → Ev (fun k => laws_qInts.l0 k (pre ++ suf) (pre ++ suf) ((pre ++ suf).length : Int) (pre.length : Int)) true := by
  induction suf with
  | nil =>
    intro pre _
    refine ev_step ev_const (fun k => ?_)
    rw [laws_qInts.l0, if_neg (by simp)]
  | cons x suf ih =>
    intro pre hl
    have h := ih (pre ++ [x]) (by simp at hl ⊢; omega)
    rw [snoc_app, snoc_leni] at h
    have hl' : (pre.length : Int) < ((pre ++ x :: suf).length : Int) := by simp; omega
    refine ev_step h (fun k => ?_)
    rw [laws_qInts.l0, if_pos hl', if_pos (by omega), if_pos hl', if_pos hl', if_pos rfl, wrapS (by omega) (by simp at hl; omega)]
theorem qInts_same (l : List Int) (h : l.length ≤ 9223372036854775806) : Ev (fun k => laws_qInts.f k l l) true := by
  have := qInts_l0 l [] (by simpa using h)
  refine Ev.congr (fun k => ?_) this
  rw [laws_qInts.f, if_pos rfl]
  rfl

/-! the steps of a write -/
def put1 (nx : List Int) (i : Int) (x : List Int) : List Int := if i = 0 then x.set 0 0 else if i < 15 then x.set i.toNat (rd nx i) else x.set 0 (rd nx 0)
theorem put1_len (nx : List Int) (i : Int) (x : List Int) : (put1 nx i x).length = x.length := by
  unfold put1
  by_cases c : i = 0
  · rw [if_pos c]; simp
  · rw [if_neg c]
    by_cases d : i < 15
    · rw [if_pos d]; simp
    · rw [if_neg d]; simp
def goSt (nx : List Int) : Nat → Int → List Int → List Int
  | 0, _, x => x
  | d + 1, i, x => goSt nx d (i + 1) (put1 nx i x)
theorem goSt_len (nx : List Int) (d : Nat) : ∀ i x, (goSt nx d i x).length = x.length := by
  induction d with
  | zero => intro i x; rfl
  | succ d ih => intro i x; rw [goSt, ih, put1_len]
theorem steps_ok (nx : List Int) (n : Int) (hn : n ≤ 16) (d : Nat) : ∀ (i : Int) (x : List Int), i + d = n → 0 ≤ i →
    Ev (fun k => impl_writeSteps.steps k x nx n i) (goSt nx d i x) := by
  induction d with
  | zero =>
    intro i x hi h0
    refine ev_step (f := fun _ => some _) (Ev.now _) (fun k => ?_)
    rw [impl_writeSteps.steps, if_neg (by omega)]; rfl
  | succ d ih =>
    intro i x hi h0
    have hw : wrap64 (i + 1) = i + 1 := wrapS (by omega) (by omega)
    have h := ih (i + 1) (put1 nx i x) (by omega) (by omega)
    refine ev_step (ev_eq h (by rw [goSt])) (fun k => ?_)
    rw [impl_writeSteps.steps, if_pos (by omega), if_pos h0, hw]
    unfold put1
    by_cases c : i = 0
    · rw [if_pos c, if_pos c]
    · rw [if_neg c, if_neg c]
      by_cases e : i < 15
      · rw [if_pos e, if_pos e]
      · rw [if_neg e, if_neg e]
theorem jrWrite_l0 (nx : List Int) (hx : nx.length = 15) (n : Int) (hn : n ≤ 16) (w : Int) (d : Nat) : ∀ (i : Int) (f s : List Int), i + d = n → 0 ≤ i → f.length = 15 → s.length = 15 →
    Ev (fun k => spec_jrWrite.l0 k n w f s nx i) (if w = 0 then (f, goSt nx d i s, true) else (goSt nx d i f, s, true)) := by
  induction d with
  | zero =>
    intro i f s hi h0 hf hs
    refine ev_step (f := fun _ => some _) (Ev.now _) (fun k => ?_)
    rw [spec_jrWrite.l0, if_neg (by omega)]
    by_cases c : w = 0
    · rw [if_pos c]; rfl
    · rw [if_neg c]; rfl
  | succ d ih =>
    intro i f s hi h0 hf hs
    have hw : wrap64 (i + 1) = i + 1 := wrapS (by omega) (by omega)
    have ht : Int.tmod i 15 = if i < 15 then i else 0 := by
      rw [Int.tmod_eq_emod_of_nonneg h0]
      by_cases e : i < 15
      · rw [if_pos e]; omega
      · rw [if_neg e]; omega
    have t0 : 0 ≤ Int.tmod i 15 := by rw [ht]; by_cases e : i < 15 <;> simp only [e, if_true, if_false] <;> omega
    have t1 : Int.tmod i 15 < 15 := by rw [ht]; by_cases e : i < 15 <;> simp only [e, if_true, if_false] <;> omega
    have hp : ∀ x : List Int, put1 nx i x = if i = 0 then x.set (Int.tmod i 15).toNat 0 else x.set (Int.tmod i 15).toNat (rd nx (Int.tmod i 15)) := fun x => by
      unfold put1
      rw [ht]
      by_cases c : i = 0
      · subst c; rfl
      · rw [if_neg c, if_neg c]
        by_cases e : i < 15
        · simp only [e, if_true]
        · simp only [e, if_false]; rfl
    by_cases c : w = 0
    · have h := ih (i + 1) f (put1 nx i s) (by omega) (by omega) hf (by rw [put1_len]; exact hs)
      rw [if_pos c] at h ⊢
      refine ev_step (ev_eq h (by rw [goSt])) (fun k => ?_)
      rw [spec_jrWrite.l0, if_pos (by omega), if_pos t0, if_pos (by omega), hw, hp]
      by_cases e : i = 0
      · rw [if_pos e, if_pos e, if_pos c, if_pos (by omega)]
      · rw [if_neg e, if_neg e, if_pos c, if_pos (by omega)]
    · have h := ih (i + 1) (put1 nx i f) s (by omega) (by omega) (by rw [put1_len]; exact hf) hs
      rw [if_neg c] at h ⊢
      refine ev_step (ev_eq h (by rw [goSt])) (fun k => ?_)
      rw [spec_jrWrite.l0, if_pos (by omega), if_pos t0, if_pos (by omega), hw, hp]
      by_cases e : i = 0
      · rw [if_pos e, if_pos e, if_neg c, if_pos (by omega)]
      · rw [if_neg e, if_neg e, if_neg c, if_pos (by omega)]
def core (a b st : List Int) (n : Int) : List Int × List Int × Bool :=
  if (newA a b).2.1 = 999 then ([], [], false) else if (newA a b).1 = 0 then (a, goSt (mk (wrap64 ((newA a b).2.1 + 1)) st) n.toNat 0 b, true) else (goSt (mk (wrap64 ((newA a b).2.1 + 1)) st) n.toNat 0 a, b, true)
theorem core_len (a b st : List Int) (n : Int) (ha : a.length = 15) (hb : b.length = 15) : (core a b st n).1.length ≤ 15 ∧ (core a b st n).2.1.length ≤ 15 := by
  unfold core
  by_cases c : (newA a b).2.1 = 999
  · rw [if_pos c]; simp
  · rw [if_neg c]
    by_cases d : (newA a b).1 = 0
    · rw [if_pos d]; simp only [goSt_len]; omega
    · rw [if_neg d]; simp only [goSt_len]; omega
theorem jrWrite_ok (a b st : List Int) (n : Int) (ha : areaOk a = true) (hb : areaOk b = true) (hs : stateOk st = true) (h0 : 0 ≤ n) (hn : n ≤ 16) : Ev (fun k => spec_jrWrite.f k a b st n) (core a b st n) := by
  have la := area_len ha
  have lb := area_len hb
  have ls := state_len hs
  refine Ev.bind (jrHeld_ok a b ha hb) ?_
  unfold core
  dsimp only
  by_cases c : (newA a b).2.1 = 999
  · simp only [c, if_true]; exact ev_const
  · simp only [c, if_false, l1Own_ok a (by omega), l1Own_ok b (by omega), Option.bind_some]
    refine Ev.bind (jrMake_ok (wrap64 ((newA a b).2.1 + 1)) st ls) ?_
    exact jrWrite_l0 _ (mk_len _ _ ls) n hn (newA a b).1 n.toNat 0 a b (by omega) (by omega) la lb
theorem writeSteps_ok (a b st : List Int) (n : Int) (ha : areaOk a = true) (hb : areaOk b = true) (hs : stateOk st = true) (h0 : 0 ≤ n) (hn : n ≤ 16) : Ev (fun k => impl_writeSteps.f k a b st n) (core a b st n) := by
  have la := area_len ha
  have lb := area_len hb
  have ls := state_len hs
  refine Ev.bind (newest_ok a b ha hb) ?_
  unfold core
  by_cases c : (newA a b).2.1 = 999
  · simp only [c, if_true]; exact ev_const
  · simp only [c, if_false, la, lb, if_true, areaOf_ok _ st ls, Option.bind_some]
    by_cases d : (newA a b).1 = 0
    · simp only [d, if_true]
      exact Ev.bind (steps_ok _ n hn n.toNat 0 b (by omega) (by omega)) ev_const
    · simp only [d, if_false]
      exact Ev.bind (steps_ok _ n hn n.toNat 0 a (by omega) (by omega)) ev_const

/-! all states that are written -/
theorem rd_get (l : List Int) (j : Nat) (h : j < l.length) : l[j]? = some (rd l (j : Int)) := by
  rw [rd_nat l j h, List.getElem?_eq_getElem h]
theorem goSt_all (nx : List Int) (hn : nx.length = 15) (d : Nat) : ∀ (i : Nat) (x : List Int), i + d = 16 → 1 ≤ i → x.length = 15 → (∀ j, 1 ≤ j → j < i → j < 15 → x[j]? = nx[j]?) → (i = 16 → x[0]? = nx[0]?) → goSt nx d (i : Int) x = nx := by
  induction d with
  | zero =>
    intro i x hi h1 hx hj h0
    rw [goSt]
    refine List.ext_getElem? (fun j => ?_)
    rcases Nat.lt_or_ge j 15 with h | h
    · rcases Nat.eq_zero_or_pos j with rfl | hp
      · exact h0 (by omega)
      · exact hj j hp (by omega) h
    · rw [List.getElem?_eq_none (by omega), List.getElem?_eq_none (by omega)]
  | succ d ih =>
    intro i x hi h1 hx hj h0
    have e : ((i + 1 : Nat) : Int) = (i : Int) + 1 := by simp
    rw [goSt, ← e]
    refine ih (i + 1) _ (by omega) (by omega) (by rw [put1_len]; exact hx) (fun j hj1 hj2 hj3 => ?_) (fun hi2 => ?_)
    · unfold put1
      rw [if_neg (by omega)]
      by_cases c : (i : Int) < 15
      · rw [if_pos c, Int.toNat_natCast, List.getElem?_set]
        by_cases q : i = j
        · subst q
          rw [if_pos rfl, if_pos (by omega), rd_get nx i (by omega)]
        · rw [if_neg q]; exact hj j hj1 (by omega) hj3
      · rw [if_neg c, List.getElem?_set, if_neg (by omega)]
        exact hj j hj1 (by omega) hj3
    · unfold put1
      rw [if_neg (by omega), if_neg (by omega), List.getElem?_set, if_pos rfl, if_pos (by omega)]
      exact (rd_get nx 0 (by omega)).symm
theorem goSt16 (nx x : List Int) (hn : nx.length = 15) (hx : x.length = 15) : goSt nx 16 0 x = nx := by
  rw [goSt]
  have h := goSt_all nx hn 15 1 (put1 nx 0 x) rfl (by omega) (by rw [put1_len]; exact hx) (fun j h1 h2 _ => by omega) (fun h => by omega)
  simpa using h
theorem sum_bound (l : List Int) : ∀ (i s : Int), (∀ x ∈ l, 0 ≤ x ∧ x ≤ 9999) → 0 ≤ i → i + l.length ≤ 100 → 0 ≤ s → s ≤ 1000000000 - 2000000 * l.length → 0 ≤ impl_areaOf.sum i l s := by
  induction l with
  | nil => intro i s _ _ _ h _; exact h
  | cons x l ih =>
    intro i s hx h0 h1 h2 h3
    simp only [List.length_cons] at h1 h3
    obtain ⟨x0, x1⟩ := hx x List.mem_cons_self
    have m0 : 0 ≤ (i + 3) * x := Int.mul_nonneg (by omega) x0
    have m1 : (i + 3) * x ≤ 103 * 9999 := Int.mul_le_mul (by omega) x1 x0 (by omega)
    have w1 : wrap64 ((i + 3) * x) = (i + 3) * x := wrapS (by omega) (by omega)
    have w2 : wrap64 (s + (i + 3) * x) = s + (i + 3) * x := wrapS (by omega) (by omega)
    rw [impl_areaOf.sum, w1, w2]
    exact ih (i + 1) _ (fun y hy => hx y (List.mem_cons_of_mem _ hy)) (by omega) (by omega) (by omega) (by omega)
theorem mk_area (g : Int) (l : List Int) (h0 : 0 ≤ g) (h1 : g ≤ 9999) (h : stateOk l = true) : areaOk (mk g l) = true := by
  have ls := state_len h
  have hl : ∀ x ∈ l, 0 ≤ x ∧ x ≤ 9999 := fun x hx => by
    unfold stateOk at h
    have := of_decide_eq_true (List.all_eq_true.1 (Bool.and_eq_true_iff.1 h).1 x hx)
    omega
  have hb : ∀ x ∈ impl_areaOf.body g l, 0 ≤ x ∧ x ≤ 9999 := fun x hx => by
    unfold impl_areaOf.body at hx
    rcases List.mem_cons.1 hx with rfl | hx
    · exact ⟨h0, h1⟩
    rcases List.mem_cons.1 hx with rfl | hx
    · omega
    rcases List.mem_append.1 hx with hx | hx
    · exact hl x hx
    · have := List.eq_of_mem_replicate hx; omega
  have hs := sum_bound (impl_areaOf.body g l) 0 0 hb (by omega) (by rw [body_len g l ls]; omega) (by omega) (by rw [body_len g l ls]; omega)
  have t0 := Int.tmod_nonneg 9973 hs
  have t1 := Int.tmod_lt_of_pos (impl_areaOf.sum 0 (impl_areaOf.body g l) 0) (show (0 : Int) < 9973 by omega)
  unfold areaOk
  rw [Bool.and_eq_true_iff]
  refine ⟨List.all_eq_true.2 (fun x hx => decide_eq_true ?_), decide_eq_true (mk_len g l ls)⟩
  unfold mk at hx
  rcases List.mem_append.1 hx with hx | hx
  · exact hb x hx
  · rw [List.mem_singleton.1 hx]; omega
theorem mk_head (g : Int) (l : List Int) : rd (mk g l) 0 = g := rfl
theorem readA_le (a : List Int) (h : areaOk a = true) : (readA a).1 ≤ rd a 0 := by
  have h0 := (area_rd h 0 (by omega)).1
  by_cases c : 1 ≤ rd a 0 ∧ rd a 0 ≤ 999 ∧ rd a 1 ≤ 12 ∧ stateOk (held a) = true ∧ mk (rd a 0) (held a) = a
  · rw [readA_yes c]; exact Int.le_refl _
  · rw [readA_no c]; simpa using h0
theorem newA_le (a b : List Int) (m : Int) (ha : areaOk a = true) (hb : areaOk b = true) (h1 : rd a 0 ≤ m) (h2 : rd b 0 ≤ m) (h3 : 0 ≤ m) : 0 ≤ (newA a b).2.1 ∧ (newA a b).2.1 ≤ m := by
  have r1 := readA_le a ha
  have r2 := readA_le b hb
  have g1 := (readA_gen a).1
  have g2 := (readA_gen b).1
  by_cases c : (readA a).1 = 0 ∧ (readA b).1 = 0
  · rw [newA_none c.1 c.2]; exact ⟨Int.le_refl _, h3⟩
  · by_cases d : (readA a).1 ≥ (readA b).1
    · rw [newA_fst c d]; simp only; omega
    · rw [newA_snd c d]; simp only; omega
theorem core_next (a b st : List Int) (m : Int) (ha : areaOk a = true) (hb : areaOk b = true) (h1 : rd a 0 ≤ m) (h2 : rd b 0 ≤ m) (h3 : 0 ≤ m) (h4 : m ≤ 100) (hs : stateOk st = true) :
    ∃ a' b', core a b st 16 = (a', b', true) ∧ areaOk a' = true ∧ areaOk b' = true ∧ rd a' 0 ≤ m + 1 ∧ rd b' 0 ≤ m + 1 := by
  obtain ⟨n0, n1⟩ := newA_le a b m ha hb h1 h2 h3
  have ls := state_len hs
  have hw : wrap64 ((newA a b).2.1 + 1) = (newA a b).2.1 + 1 := wrapS (by omega) (by omega)
  have hm := mk_area ((newA a b).2.1 + 1) st (by omega) (by omega) hs
  have ht : (16 : Int).toNat = 16 := rfl
  unfold core
  rw [if_neg (by omega), hw, ht]
  by_cases d : (newA a b).1 = 0
  · rw [if_pos d, goSt16 _ _ (mk_len _ _ ls) (area_len hb)]
    exact ⟨_, _, rfl, ha, hm, by omega, by rw [mk_head]; omega⟩
  · rw [if_neg d, goSt16 _ _ (mk_len _ _ ls) (area_len ha)]
    exact ⟨_, _, rfl, hm, hb, by rw [mk_head]; omega, by omega⟩

/-! what is held after a write, and after a part of one -/
theorem held_mk (g : Int) (l : List Int) : held (mk g l) = l := by
  have e : mk g l = g :: (l.length : Int) :: (l ++ (List.replicate (12 - l.length) 0 ++ [Int.tmod (impl_areaOf.sum 0 (impl_areaOf.body g l) 0) 9973])) := by
    simp [mk, impl_areaOf.body]
  have h1 : rd (mk g l) 1 = (l.length : Int) := rfl
  unfold held
  rw [h1, e, show (2 + (l.length : Int)).toNat = l.length + 1 + 1 by omega, List.take_succ_cons, List.take_succ_cons, List.drop_succ_cons, List.drop_succ_cons, List.drop_zero, List.take_left]
theorem readA_mk (g : Int) (l : List Int) (h0 : 1 ≤ g) (h1 : g ≤ 999) (hs : stateOk l = true) : readA (mk g l) = (g, l) := by
  have e1 : rd (mk g l) 0 = g := rfl
  have e2 : rd (mk g l) 1 = (l.length : Int) := rfl
  have ls := state_len hs
  rw [readA_yes, held_mk, e1]
  rw [held_mk, e1, e2]
  exact ⟨h0, h1, by omega, hs, rfl⟩
theorem set_rd0 (x : List Int) (i : Nat) (v : Int) (h : 1 ≤ i) : rd (x.set i v) 0 = rd x 0 := by
  obtain ⟨m, rfl⟩ : ∃ m, i = m + 1 := ⟨i - 1, by omega⟩
  cases x <;> rfl
theorem goSt_rd0 (nx : List Int) (d : Nat) : ∀ (i : Int) (x : List Int), 1 ≤ i → i + d ≤ 15 → rd (goSt nx d i x) 0 = rd x 0 := by
  induction d with
  | zero => intro i x _ _; rfl
  | succ d ih =>
    intro i x h0 h1
    rw [goSt, ih (i + 1) _ (by omega) (by omega)]
    unfold put1
    rw [if_neg (by omega), if_pos (by omega)]
    exact set_rd0 _ _ _ (by omega)
theorem goSt_part (nx x : List Int) (n : Nat) (h1 : 1 ≤ n) (h2 : n ≤ 15) : rd (goSt nx n 0 x) 0 = 0 := by
  obtain ⟨m, rfl⟩ : ∃ m, n = m + 1 := ⟨n - 1, by omega⟩
  rw [goSt, show (0 : Int) + 1 = 1 from rfl, goSt_rd0 nx m 1 _ (by omega) (by omega)]
  unfold put1
  rw [if_pos rfl]
  cases x <;> rfl
theorem readA_zero {a : List Int} (h : rd a 0 = 0) : readA a = (0, []) := readA_no (fun x => by omega)
theorem newA_cases (a b : List Int) : (newA a b = (-1, 0, []) ∧ (readA a).1 = 0 ∧ (readA b).1 = 0) ∨ (newA a b = (0, (readA a).1, (readA a).2) ∧ (readA a).1 ≥ (readA b).1 ∧ (readA a).1 ≠ 0) ∨ (newA a b = (1, (readA b).1, (readA b).2) ∧ (readA a).1 < (readA b).1) := by
  have ga := (readA_gen a).1
  have gb := (readA_gen b).1
  by_cases c : (readA a).1 = 0 ∧ (readA b).1 = 0
  · exact .inl ⟨newA_none c.1 c.2, c⟩
  · by_cases d : (readA a).1 ≥ (readA b).1
    · exact .inr (.inl ⟨newA_fst c d, d, fun e => c ⟨e, by omega⟩⟩)
    · exact .inr (.inr ⟨newA_snd c d, by omega⟩)
theorem readA_top (a : List Int) : (readA a).1 ≤ 999 := by
  unfold readA; split
  · rename_i h; exact h.2.1
  · simp
/-- The whole write leaves the new state, of the next generation. -/
theorem core_full (a b st : List Int) (ha : a.length = 15) (hb : b.length = 15) (hs : stateOk st = true) (h9 : (newA a b).2.1 ≠ 999) :
    ∃ a' b', core a b st 16 = (a', b', true) ∧ (newA a' b').2 = ((newA a b).2.1 + 1, st) ∧ (newA a' b').1 ≥ 0 := by
  have ls := state_len hs
  have ga := (readA_gen a).1
  have gb := (readA_gen b).1
  have ta := readA_top a
  have tb := readA_top b
  have ht : (16 : Int).toNat = 16 := rfl
  unfold core
  rw [if_neg h9, ht]
  rcases newA_cases a b with ⟨e, z1, z2⟩ | ⟨e, z1, z2⟩ | ⟨e, z1⟩
  · have hm := readA_mk 1 st (by omega) (by omega) hs
    rw [e]
    simp only
    rw [if_neg (by omega), show wrap64 (0 + 1) = 1 from (wrapS (x := 0 + 1) (by omega) (by omega)).trans (by omega), goSt16 _ _ (mk_len _ _ ls) ha]
    refine ⟨_, _, rfl, ?_⟩
    rw [newA_fst (by rw [hm]; simp) (by rw [hm]; simp only; omega), hm]
    refine ⟨rfl, ?_⟩
    simp only; omega
  · rw [e] at h9 ⊢
    simp only at h9 ⊢
    have hw : wrap64 ((readA a).1 + 1) = (readA a).1 + 1 := wrapS (by omega) (by omega)
    have hm := readA_mk ((readA a).1 + 1) st (by omega) (by omega) hs
    rw [if_pos trivial, hw, goSt16 _ _ (mk_len _ _ ls) hb]
    refine ⟨_, _, rfl, ?_⟩
    rw [newA_snd (by rw [hm]; simp only; omega) (by rw [hm]; simp only; omega), hm]
    refine ⟨rfl, ?_⟩
    simp only; omega
  · rw [e] at h9 ⊢
    simp only at h9 ⊢
    have hw : wrap64 ((readA b).1 + 1) = (readA b).1 + 1 := wrapS (by omega) (by omega)
    have hm := readA_mk ((readA b).1 + 1) st (by omega) (by omega) hs
    rw [if_neg (by decide), hw, goSt16 _ _ (mk_len _ _ ls) ha]
    refine ⟨_, _, rfl, ?_⟩
    rw [newA_fst (by rw [hm]; simp only; omega) (by rw [hm]; simp only; omega), hm]
    refine ⟨rfl, ?_⟩
    simp only; omega
/-- A part of a write leaves what was held. -/
theorem core_part (a b st : List Int) (n : Int) (h0 : 0 ≤ n) (h1 : n ≤ 15) (h9 : (newA a b).2.1 ≠ 999) :
    ∃ a' b', core a b st n = (a', b', true) ∧ (newA a' b').2 = (newA a b).2 := by
  have ga := (readA_gen a).1
  have gb := (readA_gen b).1
  unfold core
  rw [if_neg h9]
  by_cases z : n = 0
  · subst z
    by_cases d : (newA a b).1 = 0
    · rw [if_pos d]; exact ⟨_, _, rfl, rfl⟩
    · rw [if_neg d]; exact ⟨_, _, rfl, rfl⟩
  · rcases newA_cases a b with ⟨e, z1, z2⟩ | ⟨e, z1, z2⟩ | ⟨e, z1⟩
    · have hp := readA_zero (goSt_part (mk (wrap64 ((newA a b).2.1 + 1)) st) a n.toNat (by omega) (by omega))
      rw [if_neg (by rw [e]; decide)]
      refine ⟨_, _, rfl, ?_⟩
      rw [newA_none (by rw [hp]) z2, e]
    · have hp := readA_zero (goSt_part (mk (wrap64 ((newA a b).2.1 + 1)) st) b n.toNat (by omega) (by omega))
      rw [if_pos (by rw [e])]
      refine ⟨_, _, rfl, ?_⟩
      rw [newA_fst (fun q => z2 q.1) (by rw [hp]; exact ga), e]
    · have hp := readA_zero (goSt_part (mk (wrap64 ((newA a b).2.1 + 1)) st) a n.toNat (by omega) (by omega))
      rw [if_neg (by rw [e]; simp only; omega)]
      refine ⟨_, _, rfl, ?_⟩
      rw [newA_snd (fun q => by have := q.2; omega) (by rw [hp]; simp only; omega), e]
theorem areaOk_set {a : List Int} (h : areaOk a = true) (i : Nat) (v : Int) (h0 : 0 ≤ v) (h1 : v ≤ 9999) : areaOk (a.set i v) = true := by
  simp only [areaOk, Bool.and_eq_true, List.all_eq_true, decide_eq_true_eq] at h ⊢
  refine ⟨fun x hx => ?_, by rw [List.length_set]; exact h.2⟩
  rcases List.mem_or_eq_of_mem_set hx with hx | rfl
  · exact h.1 x hx
  · exact ⟨h0, h1⟩
theorem put1_area {nx x : List Int} (hn : areaOk nx = true) (hx : areaOk x = true) (i : Int) (h0 : 0 ≤ i) : areaOk (put1 nx i x) = true := by
  have r0 := area_rd hn 0 (by omega)
  unfold put1
  by_cases c : i = 0
  · rw [if_pos c]; exact areaOk_set hx _ _ (by omega) (by omega)
  · rw [if_neg c]
    by_cases d : i < 15
    · have r := area_rd hn i.toNat (by omega)
      rw [show ((i.toNat : Nat) : Int) = i by omega] at r
      rw [if_pos d]; exact areaOk_set hx _ _ r.1 r.2
    · rw [if_neg d]; exact areaOk_set hx _ _ r0.1 r0.2
theorem goSt_area {nx : List Int} (hn : areaOk nx = true) (d : Nat) : ∀ (i : Int) (x : List Int), 0 ≤ i → areaOk x = true → areaOk (goSt nx d i x) = true := by
  induction d with
  | zero => intro i x _ hx; exact hx
  | succ d ih => intro i x h0 hx; exact ih (i + 1) _ (by omega) (put1_area hn hx i h0)
theorem core_area (a b st : List Int) (n : Int) (ha : areaOk a = true) (hb : areaOk b = true) (hs : stateOk st = true) (h9 : (newA a b).2.1 ≠ 999) :
    areaOk (core a b st n).1 = true ∧ areaOk (core a b st n).2.1 = true := by
  have ga := (readA_gen a).1
  have gb := (readA_gen b).1
  have ta := readA_top a
  have tb := readA_top b
  have hg : 0 ≤ (newA a b).2.1 ∧ (newA a b).2.1 ≤ 999 := by
    rcases newA_cases a b with ⟨e, _, _⟩ | ⟨e, _, _⟩ | ⟨e, _⟩ <;> rw [e] <;> simp only <;> omega
  have hw : wrap64 ((newA a b).2.1 + 1) = (newA a b).2.1 + 1 := wrapS (by omega) (by omega)
  have hm := mk_area ((newA a b).2.1 + 1) st (by omega) (by omega) hs
  unfold core
  rw [if_neg h9, hw]
  by_cases d : (newA a b).1 = 0
  · rw [if_pos d]; exact ⟨ha, goSt_area hm _ 0 b (by omega) hb⟩
  · rw [if_neg d]; exact ⟨goSt_area hm _ 0 a (by omega) ha, hb⟩

def areaR (g : Int) (l : List Int) : List Int × Bool := if 1 ≤ g ∧ g ≤ 999 ∧ stateOk l = true then (mk g l, true) else ([], false)
theorem areaR_len (g : Int) (l : List Int) : (areaR g l).1.length ≤ 15 := by
  unfold areaR; split
  · rename_i h; exact Nat.le_of_eq (mk_len g l (state_len h.2.2))
  · simp
theorem specAreaOf_ok (g : Int) (l : List Int) (h : l.length ≤ 1048576) : Ev (fun k => spec_AreaOf.f k g l) (areaR g l) := by
  by_cases hg : 1 ≤ g ∧ g ≤ 999
  · have eg : spec_jrGeneration.f g = some true := by simp [spec_jrGeneration.f, spec_l1In.f, hg.1, hg.2]
    simp only [spec_AreaOf.f, eg, Option.bind_some, if_true]
    refine Ev.bind (jrState_ok l (by omega)) ?_
    cases s : stateOk l with
    | false => exact ev_of_eq (fun _ => by simp [areaR, s])
    | true =>
      simp only [if_true]
      refine Ev.bind (jrMake_ok g l (state_len s)) (ev_of_eq (fun _ => by simp [areaR, s, hg]))
  · have eg : spec_jrGeneration.f g = some false := by
      by_cases g1 : 1 ≤ g
      · have g2 : ¬ g ≤ 999 := fun g2 => hg ⟨g1, g2⟩
        simp [spec_jrGeneration.f, spec_l1In.f, g1, g2]
      · simp [spec_jrGeneration.f, spec_l1In.f, g1]
    refine ev_of_eq (fun k => ?_)
    rw [spec_AreaOf.f, eg, areaR, if_neg (fun x => hg ⟨x.1, x.2.1⟩)]
    simp
theorem implAreaOf_ok (g : Int) (l : List Int) (h : l.length ≤ 1048576) : Ev (fun k => impl_AreaOf.f k g l) (areaR g l) := by
  by_cases g1 : g < 1
  · exact ev_of_eq (fun k => by rw [impl_AreaOf.f, if_pos g1, areaR, if_neg (fun x => by omega)])
  by_cases g2 : g > 999
  · exact ev_of_eq (fun k => by rw [impl_AreaOf.f, if_neg g1, if_pos g2, areaR, if_neg (fun x => by omega)])
  refine Ev.congr (fun k => by rw [impl_AreaOf.f, if_neg g1, if_neg g2]) (Ev.bind (isState_ok l (by omega)) ?_)
  cases s : stateOk l with
  | false => exact ev_of_eq (fun _ => by simp [areaR, s])
  | true =>
    simp only [if_true, areaOf_ok g l (state_len s), Option.bind_some]
    exact ev_of_eq (fun _ => by simp [areaR, s, show 1 ≤ g by omega, show g ≤ 999 by omega])

/-! rows of numbers -/
theorem rdII_mid (pre suf : List (List Int)) (x : List Int) : rd_L2 (pre ++ x :: suf) (pre.length : Int) = x := getD_mid _ _ _ _ _ (by simp)

def allR : List (List Int) → List Int → List Int → List Int × List Int × Bool
  | [], a, b => (a, b, true)
  | st :: r, a, b => if stateOk st = true then allR r (core a b st 16).1 (core a b st 16).2.1 else ([], [], false)
theorem allR_len (l : List (List Int)) : ∀ (a b : List Int) (m : Int), areaOk a = true → areaOk b = true → rd a 0 ≤ m → rd b 0 ≤ m → 0 ≤ m → m + l.length ≤ 60 → (allR l a b).1.length ≤ 15 ∧ (allR l a b).2.1.length ≤ 15 := by
  induction l with
  | nil => intro a b m ha hb _ _ _ _; rw [allR]; have := area_len ha; have := area_len hb; simp only; omega
  | cons st l ih =>
    intro a b m ha hb h1 h2 h3 h4
    simp only [List.length_cons] at h4
    rw [allR]
    by_cases c : stateOk st = true
    · rw [if_pos c]
      obtain ⟨a', b', e, ha', hb', g1, g2⟩ := core_next a b st m ha hb h1 h2 h3 (by omega) c
      rw [e]
      exact ih a' b' (m + 1) ha' hb' g1 g2 (by omega) (by omega)
    · rw [if_neg c]; simp
theorem specAll_l0 (suf : List (List Int)) : ∀ (pre : List (List Int)) (a b : List Int) (m : Int), (pre ++ suf).length ≤ 40 → areaOk a = true → areaOk b = true → rd a 0 ≤ m → rd b 0 ≤ m → 0 ≤ m → m + suf.length ≤ 60 → (∀ x ∈ suf, x.length ≤ 1048576) →
    Ev (fun k => spec_WriteAll.l0 k a b (pre ++ suf) ((pre ++ suf).length : Int) (pre.length : Int)) (allR suf a b) := by
  induction suf with
  | nil =>
    intro pre a b m hl _ _ _ _ _ _ _
    refine ev_step (f := fun _ => some _) (Ev.now _) (fun k => ?_)
    rw [spec_WriteAll.l0, if_neg (by simp)]; rfl
  | cons st suf ih =>
    intro pre a b m hl ha hb h1 h2 h3 h4 hx
    simp only [List.length_cons] at h4
    have hlp : pre.length + 1 ≤ 40 := by simp at hl; omega
    have hl' : (pre.length : Int) < ((pre ++ st :: suf).length : Int) := by simp; omega
    have hw : wrap64 ((pre.length : Int) + 1) = (pre.length : Int) + 1 := wrapS (by omega) (by omega)
    obtain ⟨K1, e1⟩ := jrState_ok st (by have := hx st List.mem_cons_self; omega)
    dsimp only at e1
    by_cases c : stateOk st = true
    · obtain ⟨K2, e2⟩ := jrWrite_ok a b st 16 ha hb c (by omega) (by omega)
      obtain ⟨a', b', e, ha', hb', g1, g2⟩ := core_next a b st m ha hb h1 h2 h3 (by omega) c
      have h := ih (pre ++ [st]) a' b' (m + 1) (by simp at hl ⊢; omega) ha' hb' g1 g2 (by omega) (by omega) (fun y hy => hx y (List.mem_cons_of_mem _ hy))
      rw [snoc_app, snoc_leni] at h
      obtain ⟨K3, e3⟩ := h
      dsimp only at e2 e3
      refine ⟨K1 + K2 + K3 + 1, fun k hk => ?_⟩
      obtain ⟨k2, rfl⟩ : ∃ z, k = z + 1 := ⟨k - 1, by omega⟩
      dsimp only
      rw [spec_WriteAll.l0, if_pos hl', if_pos (by omega), if_pos hl', rdII_mid, e1 k2 (by omega)]
      simp only [Option.bind_some]
      rw [if_pos c, e2 k2 (by omega), e]
      simp only [Option.bind_some]
      rw [hw, e3 k2 (by omega), allR, if_pos c, e]
    · refine ⟨K1 + 1, fun k hk => ?_⟩
      obtain ⟨k2, rfl⟩ : ∃ z, k = z + 1 := ⟨k - 1, by omega⟩
      dsimp only
      rw [spec_WriteAll.l0, if_pos hl', if_pos (by omega), if_pos hl', rdII_mid, e1 k2 (by omega)]
      simp only [Option.bind_some]
      rw [if_neg c, allR, if_neg c]
theorem implAll_l0 (suf : List (List Int)) : ∀ (pre : List (List Int)) (a b : List Int) (m : Int), (pre ++ suf).length ≤ 40 → areaOk a = true → areaOk b = true → rd a 0 ≤ m → rd b 0 ≤ m → 0 ≤ m → m + suf.length ≤ 60 → (∀ x ∈ suf, x.length ≤ 1048576) →
    Ev (fun k => impl_WriteAll.l0 k a b (pre ++ suf) ((pre ++ suf).length : Int) (pre.length : Int)) (allR suf a b) := by
  induction suf with
  | nil =>
    intro pre a b m hl _ _ _ _ _ _ _
    refine ev_step (f := fun _ => some _) (Ev.now _) (fun k => ?_)
    rw [impl_WriteAll.l0, if_neg (by simp)]; rfl
  | cons st suf ih =>
    intro pre a b m hl ha hb h1 h2 h3 h4 hx
    simp only [List.length_cons] at h4
    have hlp : pre.length + 1 ≤ 40 := by simp at hl; omega
    have hl' : (pre.length : Int) < ((pre ++ st :: suf).length : Int) := by simp; omega
    have hw : wrap64 ((pre.length : Int) + 1) = (pre.length : Int) + 1 := wrapS (by omega) (by omega)
    obtain ⟨K1, e1⟩ := isState_ok st (by have := hx st List.mem_cons_self; omega)
    dsimp only at e1
    by_cases c : stateOk st = true
    · obtain ⟨K2, e2⟩ := writeSteps_ok a b st 16 ha hb c (by omega) (by omega)
      obtain ⟨a', b', e, ha', hb', g1, g2⟩ := core_next a b st m ha hb h1 h2 h3 (by omega) c
      have h := ih (pre ++ [st]) a' b' (m + 1) (by simp at hl ⊢; omega) ha' hb' g1 g2 (by omega) (by omega) (fun y hy => hx y (List.mem_cons_of_mem _ hy))
      rw [snoc_app, snoc_leni] at h
      obtain ⟨K3, e3⟩ := h
      dsimp only at e2 e3
      refine ⟨K1 + K2 + K3 + 1, fun k hk => ?_⟩
      obtain ⟨k2, rfl⟩ : ∃ z, k = z + 1 := ⟨k - 1, by omega⟩
      dsimp only
      rw [impl_WriteAll.l0, if_pos hl', if_pos (by omega), if_pos hl', rdII_mid, e1 k2 (by omega)]
      simp only [Option.bind_some]
      rw [if_pos c, e2 k2 (by omega), e]
      simp only [Option.bind_some]
      rw [hw, e3 k2 (by omega), allR, if_pos c, e]
    · refine ⟨K1 + 1, fun k hk => ?_⟩
      obtain ⟨k2, rfl⟩ : ∃ z, k = z + 1 := ⟨k - 1, by omega⟩
      dsimp only
      rw [impl_WriteAll.l0, if_pos hl', if_pos (by omega), if_pos hl', rdII_mid, e1 k2 (by omega)]
      simp only [Option.bind_some]
      rw [if_neg c, allR, if_neg c]
theorem zero_area : areaOk (List.replicate 15 0) = true := by decide
theorem zero_head : rd (List.replicate 15 0) 0 ≤ 0 := by decide
def writeAllR (l : List (List Int)) : List Int × List Int × Bool := if (l.length : Int) > 40 then ([], [], false) else allR l (List.replicate 15 0) (List.replicate 15 0)
theorem writeAllR_len (l : List (List Int)) : (writeAllR l).1.length ≤ 15 ∧ (writeAllR l).2.1.length ≤ 15 := by
  unfold writeAllR
  by_cases c : (l.length : Int) > 40
  · rw [if_pos c]; simp
  · rw [if_neg c]; exact allR_len l _ _ 0 zero_area zero_area zero_head zero_head (by omega) (by omega)
theorem specAll_ok (l : List (List Int)) (hx : ∀ x ∈ l, x.length ≤ 1048576) : Ev (fun k => spec_WriteAll.f k l) (writeAllR l) := by
  unfold writeAllR
  by_cases c : (l.length : Int) > 40
  · refine Ev.congr (f := fun _ => some _) (fun k => ?_) (Ev.now _)
    rw [spec_WriteAll.f, if_pos (by decide), if_pos c, if_pos c]
  · rw [if_neg c]
    have h := specAll_l0 l [] (List.replicate 15 0) (List.replicate 15 0) 0 (by simp; omega) zero_area zero_area zero_head zero_head (by omega) (by omega) hx
    simp only [List.nil_append, List.length_nil, Int.natCast_zero] at h
    refine Ev.congr (fun k => ?_) h
    rw [spec_WriteAll.f, if_pos (by decide), if_neg c]
theorem implAll_ok (l : List (List Int)) (hx : ∀ x ∈ l, x.length ≤ 1048576) : Ev (fun k => impl_WriteAll.f k l) (writeAllR l) := by
  unfold writeAllR
  by_cases c : (l.length : Int) > 40
  · refine Ev.congr (f := fun _ => some _) (fun k => ?_) (Ev.now _)
    rw [impl_WriteAll.f, if_pos c, if_pos c]
  · rw [if_neg c]
    have h := implAll_l0 l [] (List.replicate 15 0) (List.replicate 15 0) 0 (by simp; omega) zero_area zero_area zero_head zero_head (by omega) (by omega) hx
    simp only [List.nil_append, List.length_nil, Int.natCast_zero] at h
    refine Ev.congr (fun k => ?_) h
    rw [impl_WriteAll.f, if_neg c, if_pos (by decide)]

def damaged (l : List Int) (i v : Int) : List Int × Bool := if areaOk l = true ∧ 0 ≤ i ∧ i ≤ 14 ∧ 0 ≤ v ∧ v ≤ 9999 then (l.set i.toNat v, true) else ([], false)
theorem specDamage_ok (l : List Int) (i v : Int) (h : l.length ≤ 1048576) : Ev (fun k => spec_DamageArea.f k l i v) (damaged l i v) := by
  refine Ev.bind (jrArea_ok l (by omega)) ?_
  cases ha : areaOk l with
  | false => exact ev_of_eq (fun _ => by simp [damaged, ha])
  | true =>
    have hl := area_len ha
    refine ev_of_eq (fun _ => ?_)
    simp only [if_true, spec_l1In.f]
    by_cases h1 : 0 ≤ i
    · by_cases h2 : i ≤ 14
      · by_cases h3 : 0 ≤ v
        · by_cases h4 : v ≤ 9999
          · simp [damaged, ha, h1, h2, h3, h4, l1Own_ok l (by omega), hl]; omega
          · simp [damaged, ha, h1, h2, h3, h4]
        · simp [damaged, ha, h1, h2, h3]
      · simp [damaged, ha, h1, h2]
    · simp [damaged, ha, h1]
theorem implDamage_ok (l : List Int) (i v : Int) (h : l.length ≤ 1048576) : Ev (fun k => impl_DamageArea.f k l i v) (damaged l i v) := by
  refine Ev.bind (isArea_ok l (by omega)) ?_
  cases ha : areaOk l with
  | false => exact ev_of_eq (fun _ => by simp [damaged, ha])
  | true =>
    have hl := area_len ha
    refine ev_of_eq (fun _ => ?_)
    simp only [if_true, slices_Clone_int_int.f]
    by_cases h1 : i < 0
    · simp [damaged, ha, h1, show ¬ 0 ≤ i by omega]
    by_cases h2 : i ≥ 15
    · simp [damaged, ha, h1, h2, show ¬ i ≤ 14 by omega]
    by_cases h3 : v < 0
    · simp [damaged, ha, h1, h2, h3, show ¬ 0 ≤ v by omega]
    by_cases h4 : v > 9999
    · simp [damaged, ha, h1, h2, h3, h4, show ¬ v ≤ 9999 by omega]
    rw [if_neg h1, if_neg h2, if_neg h3, if_neg h4, if_pos (by omega)]
    simp only [Option.bind_some]
    rw [if_pos (by omega), if_pos (by omega), damaged, if_pos (by refine ⟨ha, ?_, ?_, ?_, ?_⟩ <;> omega)]
theorem damaged_len (l : List Int) (i v : Int) : (damaged l i v).1.length ≤ l.length := by
  unfold damaged; split <;> simp

def readR (a : List Int) : Int × List Int × Bool := if areaOk a = true then ((readA a).1, (readA a).2, decide ((readA a).1 > 0)) else (0, [], false)
theorem readR_len (a : List Int) : (readR a).2.1.length ≤ a.length := by
  have := readA_len a
  unfold readR; split
  · exact this
  · simp
theorem specReadArea_ok (a : List Int) (h : a.length ≤ 1048576) : Ev (fun k => spec_ReadArea.f k a) (readR a) := by
  refine Ev.bind (jrArea_ok a (by omega)) ?_
  cases s : areaOk a with
  | false => exact ev_of_eq (fun _ => by simp [readR, s])
  | true =>
    simp only [if_true]
    exact Ev.bind (jrRead_ok a s) (ev_of_eq (fun _ => by simp [readR, s]))
theorem implReadArea_ok (a : List Int) (h : a.length ≤ 1048576) : Ev (fun k => impl_ReadArea.f k a) (readR a) := by
  refine Ev.bind (isArea_ok a (by omega)) ?_
  cases s : areaOk a with
  | false => exact ev_of_eq (fun _ => by simp [readR, s])
  | true =>
    simp only [if_true]
    exact Ev.bind (readArea_ok a s) (ev_of_eq (fun _ => by simp [readR, s]))

def recR (a b : List Int) : Int × List Int × Bool := if (areaOk a && areaOk b) = true then ((newA a b).2.1, (newA a b).2.2, decide ((newA a b).2.1 > 0)) else (0, [], false)
theorem recR_len (a b : List Int) : (recR a b).2.1.length ≤ 30 := by
  unfold recR; split
  · rename_i h
    simp only [Bool.and_eq_true] at h
    have h1 := area_len h.1
    have h2 := area_len h.2
    have := newA_len a b
    simp only
    omega
  · simp
theorem specRecoverState_ok (a b : List Int) (ha : a.length ≤ 1048576) (hb : b.length ≤ 1048576) : Ev (fun k => spec_RecoverState.f k a b) (recR a b) := by
  refine Ev.bind (jrTwo_ok a b ha hb) ?_
  cases s : (areaOk a && areaOk b) with
  | false => exact ev_of_eq (fun _ => by simp [recR, s])
  | true =>
    simp only [if_true]
    have s' : areaOk a = true ∧ areaOk b = true := by simpa using s
    exact Ev.bind (jrHeld_ok a b s'.1 s'.2) (ev_of_eq (fun _ => by simp only [recR, s, if_true, newA_pos]))
theorem implRecoverState_ok (a b : List Int) (ha : a.length ≤ 1048576) (hb : b.length ≤ 1048576) : Ev (fun k => impl_RecoverState.f k a b) (recR a b) := by
  refine Ev.bind (isArea_ok a (by omega)) ?_
  cases s1 : areaOk a with
  | false => exact ev_of_eq (fun _ => by simp [recR, s1])
  | true =>
    simp only [if_true]
    refine Ev.bind (isArea_ok b (by omega)) ?_
    cases s2 : areaOk b with
    | false => exact ev_of_eq (fun _ => by simp [recR, s2])
    | true =>
      simp only [if_true]
      exact Ev.bind (newest_ok a b s1 s2) (ev_of_eq (fun _ => by simp [recR, s1, s2]))

/-! what the law asks of areas -/
theorem u8_bytes {l : List Int} (h : ∀ x ∈ l, (Lit.int .u8 x).wf = true) : bytesOk l := by
  intro x hx
  have := h x hx
  simp [Lit.wf, IntKind.min, IntKind.max, IntKind.bits, IntKind.signed] at this
  omega
theorem ne2 (x : Bool) : ¬ (x != x) = true := by simp
theorem drawAreaOf_ok {l : List Int} (hb : bytesOk l) : ∃ g st, Ev (fun k => spec_DrawAreaOf.f k l) (g, st) ∧ st.length ≤ 13 := by
  obtain ⟨x, p1, s1, e1, _, a1, b1⟩ := among_ok hb 0 0 (([0, 1000] : List Int)) (by simp) (by omega) (by omega)
  obtain ⟨g, p2, s2, e2, _, a2, b2⟩ := among_ok hb p1 s1 (([1, 2, 50, 999, x] : List Int)) (by simp) (by omega) (by omega)
  obtain ⟨st, p3, s3, e3, ls, _, _⟩ := stateOf_ok hb p2 s2 (by omega) (by omega)
  refine ⟨g, st, Ev.congr (f := fun k => (spec_l1Cur_stateOf.f k l p2 s2).bind fun bt164 => (some (g, bt164.1))) (fun k => ?_) (Ev.bind e3 ev_const), ls⟩
  rw [spec_DrawAreaOf.f, e1]
  simp only [Option.bind_some]
  rw [e2]
  rfl
theorem drawDamage_ok {l : List Int} (hb : bytesOk l) : ∃ b i v, Ev (fun k => spec_DrawDamageArea.f k l) (b, i, v) ∧ b.length ≤ 15 := by
  obtain ⟨b, p, s, e, hl, p0, p1⟩ := area_ok hb 0 0 (by omega) (by omega)
  obtain ⟨x, p3, s3, e3, _, _, _, _⟩ := pick_ok hb p s 15 (by omega) (by omega)
  obtain ⟨y, p4, s4, e4, _, _, _⟩ := among_ok hb p3 s3 (([15, (-1)] : List Int)) (by simp) (by omega) (by omega)
  obtain ⟨i, p5, s5, e5, _, _, _⟩ := among_ok hb p4 s4 (([0, 1, 2, x, 14, y] : List Int)) (by simp) (by omega) (by omega)
  obtain ⟨z, p6, s6, e6, _, _, _⟩ := among_ok hb p5 s5 (([10000, (-1)] : List Int)) (by simp) (by omega) (by omega)
  obtain ⟨v, p7, s7, e7, _, _, _⟩ := among_ok hb p6 s6 (([0, 1, 500, 9999, z] : List Int)) (by simp) (by omega) (by omega)
  refine ⟨b, i, v, Ev.bind e (ev_of_eq (fun _ => ?_)), hl⟩
  dsimp only
  rw [e3]
  simp only [Option.bind_some]
  rw [e4]
  simp only [Option.bind_some]
  rw [e5]
  simp only [Option.bind_some]
  rw [e6]
  simp only [Option.bind_some]
  rw [e7]
  rfl
theorem drawRead_ok {l : List Int} (hb : bytesOk l) : ∃ c, Ev (fun k => spec_DrawReadArea.f k l) c ∧ c.length ≤ 15 := by
  obtain ⟨b, p, s, e, hl, p0, p1⟩ := area_ok hb 0 0 (by omega) (by omega)
  exact ⟨b, Ev.bind e ev_const, hl⟩
/-! an area that is whole -/
theorem read_yes {a : List Int} (h : (readR a).2.2 = true) : areaOk a = true ∧ 1 ≤ (readR a).1 ∧ (readR a).1 ≤ 999 ∧ stateOk (readR a).2.1 = true ∧ mk (readR a).1 (readR a).2.1 = a := by
  unfold readR at h ⊢
  by_cases c : areaOk a = true
  · rw [if_pos c] at h ⊢
    simp only [decide_eq_true_eq] at h
    simp only
    refine ⟨c, ?_⟩
    by_cases d : 1 ≤ rd a 0 ∧ rd a 0 ≤ 999 ∧ rd a 1 ≤ 12 ∧ stateOk (held a) = true ∧ mk (rd a 0) (held a) = a
    · rw [readA_yes d]; exact ⟨d.1, d.2.1, d.2.2.2.1, d.2.2.2.2⟩
    · rw [readA_no d] at h; simp at h
  · rw [if_neg c] at h; cases h
theorem read_area {a : List Int} (h : (readR a).2.2 = true) : areaR (readR a).1 (readR a).2.1 = (a, true) := by
  obtain ⟨_, h1, h2, h3, h4⟩ := read_yes h
  rw [areaR, if_pos ⟨h1, h2, h3⟩, h4]
def lin : Int → List Int → Int
  | _, [] => 0
  | i, x :: l => (i + 3) * x + lin (i + 1) l
theorem sum_lin (l : List Int) : ∀ (i s : Int), (∀ x ∈ l, 0 ≤ x ∧ x ≤ 999) → 0 ≤ i → i + l.length ≤ 100 → 0 ≤ s → s ≤ 1000000000 - 2000000 * l.length → impl_areaOf.sum i l s = s + lin i l ∧ 0 ≤ lin i l ∧ lin i l ≤ 2000000 * l.length := by
  induction l with
  | nil => intro i s _ _ _ h _; simp [impl_areaOf.sum, lin]
  | cons x l ih =>
    intro i s hx h0 h1 h2 h3
    simp only [List.length_cons] at h1 h3
    obtain ⟨x0, x1⟩ := hx x List.mem_cons_self
    have m0 : 0 ≤ (i + 3) * x := Int.mul_nonneg (by omega) x0
    have m1 : (i + 3) * x ≤ 103 * 999 := Int.mul_le_mul (by omega) x1 x0 (by omega)
    have w1 : wrap64 ((i + 3) * x) = (i + 3) * x := wrapS (by omega) (by omega)
    have w2 : wrap64 (s + (i + 3) * x) = s + (i + 3) * x := wrapS (by omega) (by omega)
    obtain ⟨e1, e2, e3⟩ := ih (i + 1) (s + (i + 3) * x) (fun y hy => hx y (List.mem_cons_of_mem _ hy)) (by omega) (by omega) (by omega) (by omega)
    rw [impl_areaOf.sum, w1, w2, e1, lin, List.length_cons]
    omega
theorem lin_set (l : List Int) : ∀ (i : Int) (j : Nat) (x v : Int), l[j]? = some x → lin i (l.set j v) = lin i l + (i + j + 3) * (v - x) := by
  induction l with
  | nil => intro i j x v h; simp at h
  | cons y l ih =>
    intro i j x v h
    cases j with
    | zero =>
      simp only [List.getElem?_cons_zero, Option.some.injEq] at h
      subst h
      rw [List.set_cons_zero, lin, lin, Int.mul_sub, show i + ((0 : Nat) : Int) + 3 = i + 3 by omega]
      omega
    | succ j =>
      rw [List.getElem?_cons_succ] at h
      rw [List.set_cons_succ, lin, lin, ih (i + 1) j x v h, show i + 1 + (j : Int) + 3 = i + ((j + 1 : Nat) : Int) + 3 by omega]
      omega
theorem body_small {g : Int} {l : List Int} (h0 : 1 ≤ g) (h1 : g ≤ 999) (h : stateOk l = true) : ∀ x ∈ impl_areaOf.body g l, 0 ≤ x ∧ x ≤ 999 := by
  have ls := state_len h
  intro x hx
  unfold impl_areaOf.body at hx
  rcases List.mem_cons.1 hx with rfl | hx
  · omega
  rcases List.mem_cons.1 hx with rfl | hx
  · omega
  rcases List.mem_append.1 hx with hx | hx
  · unfold stateOk at h
    have := of_decide_eq_true (List.all_eq_true.1 (Bool.and_eq_true_iff.1 h).1 x hx)
    omega
  · have := List.eq_of_mem_replicate hx; omega
theorem whole_body {a : List Int} (h : (readR a).2.2 = true) : ∃ bd : List Int, bd.length = 14 ∧ (∀ x ∈ bd, 0 ≤ x ∧ x ≤ 999) ∧ a = bd ++ [Int.tmod (impl_areaOf.sum 0 bd 0) 9973] := by
  obtain ⟨_, h1, h2, h3, h4⟩ := read_yes h
  exact ⟨_, body_len _ _ (state_len h3), body_small h1 h2 h3, h4.symm⟩
theorem step_mod (j : Nat) (hj : j < 14) (LB LD x v : Int) (hl : LD = LB + (0 + (j : Int) + 3) * (v - x)) (hx : 0 ≤ x ∧ x ≤ 999) (hv : 0 ≤ v ∧ v ≤ 999) (e : LD % 9973 = LB % 9973) : v = x := by
  obtain ⟨d, hd⟩ : ∃ d, v - x = d := ⟨_, rfl⟩
  rw [hd] at hl
  have hb : -999 ≤ d ∧ d ≤ 999 := by omega
  have hz : d = 0 := by
    obtain ⟨q, hq⟩ : ∃ q, LD = LB + 9973 * q := ⟨LD / 9973 - LB / 9973, by omega⟩
    have hk : (0 + (j : Int) + 3) * d = 9973 * q := by omega
    clear hd hx hv hl hq e
    have hj14 : j = 0 ∨ j = 1 ∨ j = 2 ∨ j = 3 ∨ j = 4 ∨ j = 5 ∨ j = 6 ∨ j = 7 ∨ j = 8 ∨ j = 9 ∨ j = 10 ∨ j = 11 ∨ j = 12 ∨ j = 13 := by omega
    rcases hj14 with rfl | rfl | rfl | rfl | rfl | rfl | rfl | rfl | rfl | rfl | rfl | rfl | rfl | rfl <;> omega
  omega
/-- Two whole areas that differ in one number at most are one. -/
theorem one_change {b : List Int} {j : Nat} {v : Int} (hj : j < 15) (hb : (readR b).2.2 = true) (hd : (readR (b.set j v)).2.2 = true) : v = rd b (j : Int) := by
  obtain ⟨B, lB, sB, eB⟩ := whole_body hb
  obtain ⟨D, lD, sD, eD⟩ := whole_body hd
  have hlb : b.length = 15 := by rw [eB]; simp [lB]
  have hx : b[j]? = some (rd b (j : Int)) := by rw [rd_nat b j (by omega), List.getElem?_eq_getElem]
  by_cases c : j < 14
  · have e1 : D = B.set j v := by
      have := congrArg (List.take 14) eD
      rw [List.take_left' lD, eB, List.set_append_left _ _ (by omega), List.take_left' (by rw [List.length_set]; exact lB)] at this
      exact this.symm
    have e2 : Int.tmod (impl_areaOf.sum 0 D 0) 9973 = Int.tmod (impl_areaOf.sum 0 B 0) 9973 := by
      have h2 := congrArg (List.drop 14) eD
      rw [List.drop_left' lD, eB, List.set_append_left _ _ (by omega), List.drop_left' (by rw [List.length_set]; exact lB)] at h2
      simpa using h2.symm
    have hBx : B[j]? = some (rd b (j : Int)) := by
      rw [eB, List.getElem?_append_left (by omega)] at hx
      rw [← eB] at hx
      exact hx
    obtain ⟨f1, f2, f3⟩ := sum_lin B 0 0 sB (by omega) (by omega) (by omega) (by omega)
    obtain ⟨g1, g2, g3⟩ := sum_lin D 0 0 sD (by omega) (by omega) (by omega) (by omega)
    have hl := lin_set B 0 j (rd b (j : Int)) v hBx
    rw [← e1] at hl
    have rx := sB _ (List.mem_of_getElem? hBx)
    have rv : 0 ≤ v ∧ v ≤ 999 := sD v (by rw [e1]; exact List.mem_of_getElem? (by rw [List.getElem?_set, if_pos rfl, if_pos (by omega)]))
    rw [f1, g1, Int.tmod_eq_emod_of_nonneg (by omega), Int.tmod_eq_emod_of_nonneg (by omega)] at e2
    rw [Int.zero_add, Int.zero_add] at e2
    exact step_mod j c _ _ _ v hl rx rv e2
  · obtain rfl : j = 14 := by omega
    have e1 : D = B := by
      have := congrArg (List.take 14) eD
      rw [List.take_left' lD, List.take_set_of_le (Nat.le_refl _), eB, List.take_left' lB] at this
      exact this.symm
    have e2 : b.set 14 v = b := by rw [eD, e1]; exact eB.symm
    have h3 : (b.set 14 v)[14]? = some v := by rw [List.getElem?_set, if_pos rfl, if_pos (by omega)]
    rw [e2, hx] at h3
    exact (Option.some.inj h3).symm
theorem damage_yes {b : List Int} {i v : Int} (h : (damaged b i v).2 = true) : areaOk b = true ∧ 0 ≤ i ∧ i ≤ 14 ∧ 0 ≤ v ∧ v ≤ 9999 ∧ (damaged b i v).1 = b.set i.toNat v := by
  unfold damaged at h ⊢
  by_cases c : areaOk b = true ∧ 0 ≤ i ∧ i ≤ 14 ∧ 0 ≤ v ∧ v ≤ 9999
  · rw [if_pos c]; exact ⟨c.1, c.2.1, c.2.2.1, c.2.2.2.1, c.2.2.2.2, rfl⟩
  · rw [if_neg c] at h; cases h
theorem damage_back {b : List Int} {i v : Int} (h : (damaged b i v).2 = true) : damaged (damaged b i v).1 i (rd b i) = (b, true) := by
  obtain ⟨hb, i0, i1, v0, v1, e⟩ := damage_yes h
  have hl := area_len hb
  have r := area_rd hb i.toNat (by omega)
  rw [show ((i.toNat : Nat) : Int) = i by omega] at r
  rw [e, damaged, if_pos ⟨areaOk_set hb _ _ v0 v1, i0, i1, r.1, r.2⟩, List.set_set]
  congr 1
  refine List.ext_getElem? (fun j => ?_)
  rw [List.getElem?_set]
  by_cases c : i.toNat = j
  · subst c
    rw [if_pos rfl, if_pos (by omega), List.getElem?_eq_getElem (by omega), ← rd_nat b i.toNat (by omega), show ((i.toNat : Nat) : Int) = i by omega]
  · rw [if_neg c]
theorem damage_seen {b : List Int} {i v : Int} (h : (damaged b i v).2 = true) (h1 : (readR b).2.2 = true) (h2 : (readR (damaged b i v).1).2.2 = true) : v = rd b i := by
  obtain ⟨hb, i0, i1, v0, v1, e⟩ := damage_yes h
  rw [e] at h2
  have := one_change (j := i.toNat) (by omega) h1 h2
  rw [show ((i.toNat : Nat) : Int) = i by omega] at this
  exact this
/-! all states that are written leave the last one -/
theorem rec_of {a b : List Int} (ha : areaOk a = true) (hb : areaOk b = true) : recR a b = ((newA a b).2.1, (newA a b).2.2, decide ((newA a b).2.1 > 0)) := by
  unfold recR; rw [if_pos (by rw [ha, hb]; rfl)]
theorem allR_last (l : List (List Int)) : ∀ (a b : List Int) (m : Int), areaOk a = true → areaOk b = true → (newA a b).2.1 = m → 0 ≤ m → m + l.length ≤ 60 → (allR l a b).2.2 = true →
    areaOk (allR l a b).1 = true ∧ areaOk (allR l a b).2.1 = true ∧ (newA (allR l a b).1 (allR l a b).2.1).2.1 = m + l.length ∧ ∀ (h : l ≠ []), (newA (allR l a b).1 (allR l a b).2.1).2.2 = l.getLast h := by
  induction l with
  | nil => intro a b m ha hb hm _ _ _; exact ⟨ha, hb, by simp [allR, hm], fun h => absurd rfl h⟩
  | cons st l ih =>
    intro a b m ha hb hm h0 h1 h
    simp only [List.length_cons] at h1
    rw [allR] at h ⊢
    by_cases c : stateOk st = true
    · rw [if_pos c] at h ⊢
      obtain ⟨a', b', ec, h2, _⟩ := core_full a b st (area_len ha) (area_len hb) c (by omega)
      obtain ⟨wa, wb⟩ := core_area a b st 16 ha hb c (by omega)
      rw [ec] at h wa wb ⊢
      simp only at h wa wb ⊢
      obtain ⟨q1, q2, q3, q4⟩ := ih a' b' (m + 1) wa wb (by rw [h2, hm]) (by omega) (by omega) h
      refine ⟨q1, q2, by rw [q3, List.length_cons]; omega, fun _ => ?_⟩
      cases l with
      | nil => rw [allR, h2]; rfl
      | cons y l => rw [q4 (List.cons_ne_nil _ _)]; rfl
    · rw [if_neg c] at h; cases h
theorem writeAll_yes {l : List (List Int)} (h : (writeAllR l).2.2 = true) : recR (writeAllR l).1 (writeAllR l).2.1 = ((l.length : Int), (if hl : l ≠ [] then l.getLast hl else (newA (writeAllR l).1 (writeAllR l).2.1).2.2), decide ((l.length : Int) > 0)) := by
  unfold writeAllR at h ⊢
  by_cases c : (l.length : Int) > 40
  · rw [if_pos c] at h; cases h
  · rw [if_neg c] at h ⊢
    obtain ⟨q1, q2, q3, q4⟩ := allR_last l _ _ 0 zero_area zero_area (by decide) (by omega) (by omega) h
    rw [rec_of q1 q2, q3, show (0 : Int) + (l.length : Int) = (l.length : Int) by omega]
    congr 2
    split
    · exact q4 ‹_›
    · rfl
theorem last_rd {l : List (List Int)} (h : l ≠ []) (hl : l.length ≤ 100) : l.getLast h = rd_L2 l (wrap64 ((l.length : Int) - 1)) := by
  have hp := List.length_pos_iff.2 h
  rw [wrapS (by omega) (by omega), List.getLast_eq_getElem]
  rw [rd_L2, List.getD_eq_getElem?_getD, show ((l.length : Int) - 1).toNat = l.length - 1 by omega, List.getElem?_eq_getElem (by omega)]
  rfl
theorem law_j4 (g : Int) (st : List Int) (hst : st.length ≤ 1048576) : Ev (fun k => laws_FnAreas.j4 k g st (areaR g st).1 (areaR g st).2 (areaR g st).1) true := by
  by_cases c : 1 ≤ g ∧ g ≤ 999 ∧ stateOk st = true
  · have e : areaR g st = (mk g st, true) := if_pos c
    have hs := state_len c.2.2
    have hm := mk_area g st (by omega) (by omega) c.2.2
    have hr : readR (mk g st) = (g, st, true) := by
      rw [readR, if_pos hm, readA_mk g st c.1 c.2.1 c.2.2]
      simp only
      rw [show decide (g > 0) = true from decide_eq_true (by omega)]
    have hl := mk_len g st hs
    obtain ⟨K1, e1⟩ := implReadArea_ok (mk g st) (by omega)
    obtain ⟨K2, e2⟩ := qInts_same st (by omega)
    obtain ⟨K3, e3⟩ := isState_ok st (by omega)
    rw [hr] at e1
    rw [e]
    dsimp only at e1 e2 e3 ⊢
    refine ⟨K1 + K2 + K3 + 1, fun k hk => ?_⟩
    obtain ⟨m, rfl⟩ : ∃ m, k = m + 1 := ⟨k - 1, by omega⟩
    dsimp only
    rw [laws_FnAreas.j4, if_pos rfl, e1 m (by omega), Option.bind_some, if_pos rfl, if_pos rfl, e2 m (by omega), Option.bind_some, if_pos rfl, if_pos (by omega), e3 m (by omega), Option.bind_some, c.2.2]
  · have e : areaR g st = ([], false) := if_neg c
    refine ev_step (f := fun _ => some true) (Ev.now _) (fun k => ?_)
    rw [e, laws_FnAreas.j4, if_neg (by decide)]
theorem law_j3 (g : Int) (st : List Int) (hst : st.length ≤ 1048576) (l : List (List Int)) (hx : ∀ y ∈ l, y.length ≤ 1048576) :
    Ev (fun k => laws_FnAreas.j3 k g st (areaR g st).1 (areaR g st).2 (areaR g st).1 l (writeAllR l).1 (writeAllR l).2.1 (writeAllR l).2.2 (writeAllR l).1 (writeAllR l).2.1) true := by
  have h4 := law_j4 g st hst
  by_cases c : (writeAllR l).2.2 = true
  · have hr := writeAll_yes c
    obtain ⟨w1, w2⟩ := writeAllR_len l
    have hlen : (l.length : Int) ≤ 40 := by
      unfold writeAllR at c
      by_cases d : (l.length : Int) > 40
      · rw [if_pos d] at c; cases c
      · omega
    obtain ⟨K1, e1⟩ := implRecoverState_ok (writeAllR l).1 (writeAllR l).2.1 (by omega) (by omega)
    obtain ⟨K2, e2⟩ := specRecoverState_ok (writeAllR l).1 (writeAllR l).2.1 (by omega) (by omega)
    have q1 := recR_len (writeAllR l).1 (writeAllR l).2.1
    obtain ⟨K3, e3⟩ := qInts_same (recR (writeAllR l).1 (writeAllR l).2.1).2.1 (by omega)
    obtain ⟨K4, e4⟩ := h4
    have f1 : (recR (writeAllR l).1 (writeAllR l).2.1).1 = (l.length : Int) := by rw [hr]
    have f3 : (recR (writeAllR l).1 (writeAllR l).2.1).2.2 = decide ((l.length : Int) > 0) := by rw [hr]
    dsimp only at e1 e2 e3 e4
    by_cases d : l = []
    · subst d
      have f3' : (recR (writeAllR []).1 (writeAllR []).2.1).2.2 = false := by rw [f3]; rfl
      refine ⟨K1 + K2 + K3 + K4 + 1, fun k hk => ?_⟩
      obtain ⟨m, rfl⟩ : ∃ m, k = m + 1 := ⟨k - 1, by omega⟩
      dsimp only
      rw [laws_FnAreas.j3, if_pos c, e1 m (by omega), Option.bind_some, e2 m (by omega), Option.bind_some, if_neg (ne2 _), if_pos rfl, e3 m (by omega), Option.bind_some, if_pos rfl, if_neg (by rw [f3']; decide), if_neg (by rw [f3']; decide), e4 m (by omega)]
    · have hp := List.length_pos_iff.2 d
      have f3' : (recR (writeAllR l).1 (writeAllR l).2.1).2.2 = true := by rw [f3]; exact decide_eq_true (by omega)
      have f2 : (recR (writeAllR l).1 (writeAllR l).2.1).2.1 = rd_L2 l (wrap64 ((l.length : Int) - 1)) := by
        rw [hr]
        simp only
        rw [dif_pos d, last_rd d (by omega)]
      have hw : wrap64 ((l.length : Int) - 1) = (l.length : Int) - 1 := wrapS (by omega) (by omega)
      refine ⟨K1 + K2 + K3 + K4 + 1, fun k hk => ?_⟩
      obtain ⟨m, rfl⟩ : ∃ m, k = m + 1 := ⟨k - 1, by omega⟩
      dsimp only
      rw [laws_FnAreas.j3, if_pos c, e1 m (by omega), Option.bind_some, e2 m (by omega), Option.bind_some, if_neg (ne2 _), if_pos rfl, e3 m (by omega), Option.bind_some, if_pos rfl, if_neg (by rw [f3]; simp), if_pos f3', if_pos f1, if_pos (by omega), if_pos (by omega), ← f2, e3 m (by omega), Option.bind_some, if_pos rfl, e4 m (by omega)]
  · refine ev_step h4 (fun k => ?_)
    rw [laws_FnAreas.j3, if_neg c]
theorem law_j1 (g : Int) (st : List Int) (hst : st.length ≤ 1048576) (l : List (List Int)) (hx : ∀ y ∈ l, y.length ≤ 1048576) (b : List Int) (i v : Int) (hb : b.length ≤ 15) :
    Ev (fun k => laws_FnAreas.j1 k g st (areaR g st).1 (areaR g st).2 (areaR g st).1 l (writeAllR l).1 (writeAllR l).2.1 (writeAllR l).2.2 (writeAllR l).1 (writeAllR l).2.1 b i v (damaged b i v).1 (damaged b i v).2) true := by
  have h3 := law_j3 g st hst l hx
  by_cases c : (damaged b i v).2 = true
  · obtain ⟨ha, i0, i1, v0, v1, e⟩ := damage_yes c
    have hl := area_len ha
    have hd := damage_back c
    have ld : (damaged b i v).1.length ≤ 15 := by rw [e, List.length_set]; omega
    obtain ⟨K1, e1⟩ := implDamage_ok (damaged b i v).1 i (rd b i) (by omega)
    obtain ⟨K2, e2⟩ := implReadArea_ok b (by omega)
    obtain ⟨K3, e3⟩ := implReadArea_ok (damaged b i v).1 (by omega)
    obtain ⟨K4, e4⟩ := qInts_same b (by omega)
    obtain ⟨K5, e5⟩ := h3
    rw [hd] at e1
    dsimp only at e1 e2 e3 e4 e5
    refine ⟨K1 + K2 + K3 + K4 + K5 + 2, fun k hk => ?_⟩
    obtain ⟨m, rfl⟩ : ∃ m, k = m + 1 + 1 := ⟨k - 2, by omega⟩
    dsimp only
    rw [laws_FnAreas.j1, if_pos c, if_pos i0, if_pos (by omega), e1 (m + 1) (by omega), Option.bind_some, e2 (m + 1) (by omega), Option.bind_some, e3 (m + 1) (by omega), Option.bind_some, if_pos rfl, e4 (m + 1) (by omega), Option.bind_some, laws_FnAreas.j2, if_neg (by decide)]
    by_cases d : (readR b).2.2 = true
    · rw [if_pos d]
      by_cases f : (readR (damaged b i v).1).2.2 = true
      · rw [if_pos f, if_pos i0, if_pos (by omega), if_pos (damage_seen c d f), e5 m (by omega)]
      · rw [if_neg f, e5 m (by omega)]
    · rw [if_neg d, e5 m (by omega)]
  · refine ev_step h3 (fun k => ?_)
    rw [laws_FnAreas.j1, if_neg c]
theorem law_j0 (g : Int) (st : List Int) (hst : st.length ≤ 1048576) (l : List (List Int)) (hx : ∀ y ∈ l, y.length ≤ 1048576) (b : List Int) (i v : Int) (hb : b.length ≤ 15) (c : List Int) (hc : c.length ≤ 15) :
    Ev (fun k => laws_FnAreas.j0 k g st (areaR g st).1 (areaR g st).2 (areaR g st).1 l (writeAllR l).1 (writeAllR l).2.1 (writeAllR l).2.2 (writeAllR l).1 (writeAllR l).2.1 b i v (damaged b i v).1 (damaged b i v).2 c (readR c).1 (readR c).2.1 (readR c).2.2 false) true := by
  have h1 := law_j1 g st hst l hx b i v hb
  by_cases d : (readR c).2.2 = true
  · have ha := read_area d
    obtain ⟨_, _, _, hs, _⟩ := read_yes d
    have ls := state_len hs
    obtain ⟨K1, e1⟩ := implAreaOf_ok (readR c).1 (readR c).2.1 (by omega)
    obtain ⟨K2, e2⟩ := qInts_same c (by omega)
    obtain ⟨K3, e3⟩ := h1
    rw [ha] at e1
    dsimp only at e1 e2 e3
    refine ⟨K1 + K2 + K3 + 1, fun k hk => ?_⟩
    obtain ⟨m, rfl⟩ : ∃ m, k = m + 1 := ⟨k - 1, by omega⟩
    dsimp only
    rw [laws_FnAreas.j0, if_neg (by decide), if_pos d, e1 m (by omega), Option.bind_some, if_pos rfl, e2 m (by omega), Option.bind_some, if_pos rfl, e3 m (by omega)]
  · refine ev_step h1 (fun k => ?_)
    rw [laws_FnAreas.j0, if_neg (by decide), if_neg d]
set_option maxHeartbeats 4000000 in
theorem FnAreas : laws_FnAreas.Pure := by
  intro l0 l1 hm0 hb0 hw0 hm1 hb1 hw1
  by_cases big : wrap64 ((l0.length : Int) + (l1.length : Int)) > 1048576
  · exact ⟨0, by rw [laws_FnAreas.f, if_pos big]⟩
  have hsm : (l0.length : Int) + (l1.length : Int) ≤ 1048576 := by
    rw [wrapS (by omega) (by omega)] at big
    omega
  obtain ⟨g, st, ⟨K1, e1⟩, ls⟩ := drawAreaOf_ok (u8_bytes hw0)
  obtain ⟨l, ⟨K2, e2⟩, ll, lx⟩ := drawAll_ok (u8_bytes hw1) (by omega)
  obtain ⟨b, i, v, ⟨K3, e3⟩, lb⟩ := drawDamage_ok (u8_bytes hw1)
  obtain ⟨c, ⟨K4, e4⟩, lc⟩ := drawRead_ok (u8_bytes hw1)
  have lx2 : ∀ y ∈ l, y.length ≤ 1048576 := fun y hy => by have := lx y hy; omega
  obtain ⟨K5, e5⟩ := implAreaOf_ok g st (by omega)
  obtain ⟨K6, e6⟩ := specAreaOf_ok g st (by omega)
  obtain ⟨K7, e7⟩ := implAll_ok l lx2
  obtain ⟨K8, e8⟩ := specAll_ok l lx2
  obtain ⟨K9, e9⟩ := implDamage_ok b i v (by omega)
  obtain ⟨K10, e10⟩ := specDamage_ok b i v (by omega)
  obtain ⟨K11, e11⟩ := implReadArea_ok c (by omega)
  obtain ⟨K12, e12⟩ := specReadArea_ok c (by omega)
  have n1 := areaR_len g st
  obtain ⟨n2, n3⟩ := writeAllR_len l
  have n4 := damaged_len b i v
  have n5 := readR_len c
  obtain ⟨K13, e13⟩ := qInts_same (areaR g st).1 (by omega)
  obtain ⟨K14, e14⟩ := qInts_same (writeAllR l).1 (by omega)
  obtain ⟨K15, e15⟩ := qInts_same (writeAllR l).2.1 (by omega)
  obtain ⟨K16, e16⟩ := qInts_same (damaged b i v).1 (by omega)
  obtain ⟨K17, e17⟩ := qInts_same (readR c).2.1 (by omega)
  obtain ⟨K18, e18⟩ := law_j0 g st (by omega) l lx2 b i v lb c lc
  dsimp only at e1 e2 e3 e4 e5 e6 e7 e8 e9 e10 e11 e12 e13 e14 e15 e16 e17 e18
  refine ⟨K1 + K2 + K3 + K4 + K5 + K6 + K7 + K8 + K9 + K10 + K11 + K12 + K13 + K14 + K15 + K16 + K17 + K18, ?_⟩
  generalize hK : K1 + K2 + K3 + K4 + K5 + K6 + K7 + K8 + K9 + K10 + K11 + K12 + K13 + K14 + K15 + K16 + K17 + K18 = k
  rw [laws_FnAreas.f, if_neg big, e1 k (by omega), Option.bind_some, e5 k (by omega), Option.bind_some, e6 k (by omega), Option.bind_some, e2 k (by omega), Option.bind_some, e7 k (by omega), Option.bind_some, e8 k (by omega), Option.bind_some, e3 k (by omega), Option.bind_some, e9 k (by omega), Option.bind_some, e10 k (by omega), Option.bind_some, e4 k (by omega), Option.bind_some, e11 k (by omega), Option.bind_some, e12 k (by omega), Option.bind_some]
  rw [if_neg (ne2 _), e13 k (by omega), Option.bind_some, if_pos rfl, if_neg (ne2 _), e14 k (by omega), Option.bind_some, if_pos rfl, e15 k (by omega), Option.bind_some, if_pos rfl, if_neg (ne2 _), e16 k (by omega), Option.bind_some, if_pos rfl, if_neg (ne2 _), if_pos rfl, e17 k (by omega), Option.bind_some]
  exact e18 k (by omega)

end Go.Proofs.Ytlbbkepkincleaa.Pure
