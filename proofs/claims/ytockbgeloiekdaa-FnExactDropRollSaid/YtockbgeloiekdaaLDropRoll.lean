/- For every input the law FnExactDropRoll answers true, after some number of rounds; the conditions are the input's own bounds. -/
import Derived.Test.YtockbgeloiekdaaQFnExactDropRollx8
import Derived.Test.YtockbgeloiekdaaBase
namespace Go.Proofs.Ytockbgeloiekdaa.LDropRoll
open Go Go.RowKit Go.Proofs.Ytockbgeloiekdaa.QFnExactDropRoll Go.Proofs.YtockbgeloiekdaaW.PrintWords Go.Proofs.YtockbgeloiekdaaW.PrintLast Go.Proofs.YtockbgeloiekdaaW.PrintMore Go.Proofs.Ytockbgeloiekdaa.Base
set_option linter.unusedVariables false
set_option linter.unusedSimpArgs false

/-! slices of rolls: copied, held against each other, measured -/
def toR (x : S66) : S68 := ⟨x.f0, x.f1, x.f2, x.f3⟩
theorem rdL_mid (pre suf : List S66) (x : S66) : rd_T66 (pre ++ x :: suf) (pre.length : Int) = x := getD_mid _ _ _ _ _ (by simp)
theorem rdR_mid (pre suf : List S68) (x : S68) : rd_T68 (pre ++ x :: suf) (pre.length : Int) = x := getD_mid _ _ _ _ _ (by simp)
theorem rdR_app (pre suf : List S68) (j : Int) (h0 : 0 ≤ j) (h : j < pre.length) : rd_T68 (pre ++ suf) j = rd_T68 pre j := by
  simp only [rd_T68, List.getD_eq_getElem?_getD]
  rw [List.getElem?_append_left (by omega)]

theorem toRollS_l0 (suf : List S66) : ∀ pre : List S66, (pre ++ suf).length ≤ 9223372036854775806 →
    Ev (fun k => laws_toRollS.l0 k (pre ++ suf) (pre.map toR ++ List.replicate suf.length z68) (pre.length : Int)) ((pre ++ suf).map toR) := by
  induction suf with
  | nil =>
    intro pre _
    refine ev_step ev_const (fun k => ?_)
    rw [laws_toRollS.l0, if_neg (by simp)]
    simp
  | cons x suf ih =>
    intro pre hl
    have h := ih (pre ++ [x]) (by simp at hl ⊢; omega)
    rw [snoc_app, snoc_leni, List.map_append, List.map_cons, List.map_nil, snoc_app] at h
    have hl' : (pre.length : Int) < ((pre ++ x :: suf).length : Int) := by simp; omega
    refine ev_step h (fun k => ?_)
    rw [laws_toRollS.l0, if_pos hl', if_pos (by omega), rdL_mid]
    simp only [laws_toRoll.f, Option.bind_some]
    rw [if_pos (by simp; omega), wrapS (by omega) (by simp at hl; omega), List.length_cons, List.replicate_succ, set_mid _ _ _ _ _ (by simp)]
    rfl
theorem toRollS_copy (l : List S66) (h : l.length ≤ 1048576) : Ev (fun k => laws_toRollS.f k l) (l.map toR) := by
  have := toRollS_l0 l [] (by simp; omega)
  refine Ev.congr (fun k => ?_) this
  rw [laws_toRollS.f, if_pos (by omega), if_pos (by omega)]
  simp

theorem eqRollS_l0 (suf : List S68) : ∀ pre : List S68, (pre ++ suf).length ≤ 9223372036854775806 → Ev (fun k => laws_eqRollS.l0 k (pre ++ suf) (pre ++ suf) (pre.length : Int)) true := by
  induction suf with
  | nil =>
    intro pre _
    refine ev_step ev_const (fun k => ?_)
    rw [laws_eqRollS.l0, if_neg (by simp)]
  | cons x suf ih =>
    intro pre hl
    have h := ih (pre ++ [x]) (by simp at hl ⊢; omega)
    rw [snoc_app, snoc_leni] at h
    have hl' : (pre.length : Int) < ((pre ++ x :: suf).length : Int) := by simp; omega
    refine ev_step h (fun k => ?_)
    rw [laws_eqRollS.l0, if_pos hl', if_pos (by omega), if_pos hl']
    simp only [laws_eqRoll.f, if_true, Option.bind_some]
    rw [wrapS (by omega) (by simp at hl; omega)]
theorem eqRollS_same (l : List S68) (h : l.length ≤ 9223372036854775806) : Ev (fun k => laws_eqRollS.f k l l) true := by
  have := eqRollS_l0 l [] (by simpa using h)
  refine Ev.congr (fun k => ?_) this
  simp [laws_eqRollS.f]

theorem szRoll_ok (x0 x1 : ByteArray) (x2 x3 n : Int) (hn : n ≤ 1048576) (h0 : 0 ≤ n) (hs : x0.size ≤ 140737488351232) (ht : x1.size ≤ 140737488351232) :
    laws_szRoll.f x0 x1 x2 x3 n = some (if n - x0.size < 0 then -1 else if n - x0.size - x1.size < 0 then -1 else n - x0.size - x1.size) := by
  have w1 : wrap64 (n - x0.size) = n - x0.size := wrapS (by omega) (by omega)
  have w2 : wrap64 (n - x0.size - x1.size) = n - x0.size - x1.size := wrapS (by omega) (by omega)
  unfold laws_szRoll.f
  simp only [w1, w2]
  by_cases h1 : n - (x0.size : Int) < 0
  · simp [h1]
  · by_cases h2 : n - (x0.size : Int) - x1.size < 0
    · simp [h1, h2]
    · simp [h1, h2]
theorem szRollS_l0 (suf : List S66) : ∀ (pre : List S66) (n : Int), (pre ++ suf).length ≤ 9223372036854775806 → 0 ≤ n → n ≤ 1048576 → (∀ x ∈ suf, x.f0.size ≤ 140737488351232 ∧ x.f1.size ≤ 140737488351232) →
    ∃ v, Ev (fun k => laws_szRollS.l0 k (pre ++ suf) n (pre.length : Int)) v ∧ (¬ v < 0 → ∀ x ∈ suf, x.f0.size ≤ 1048576 ∧ x.f1.size ≤ 1048576) := by
  induction suf with
  | nil =>
    intro pre n _ _ _ _
    refine ⟨n, ev_step (f := fun _ => some _) (Ev.now _) (fun k => ?_), fun _ x hx => absurd hx List.not_mem_nil⟩
    rw [laws_szRollS.l0, if_neg (by simp)]
  | cons x suf ih =>
    intro pre n hl h0 h1 hw
    have hl' : (pre.length : Int) < ((pre ++ x :: suf).length : Int) := by simp; omega
    have hwx := hw x List.mem_cons_self
    have hz := szRoll_ok x.f0 x.f1 x.f2 x.f3 n h1 h0 hwx.1 hwx.2
    have hwr : wrap64 ((pre.length : Int) + 1) = (pre.length : Int) + 1 := wrapS (by omega) (by simp at hl; omega)
    by_cases c : n - (x.f0.size : Int) < 0 ∨ n - (x.f0.size : Int) - x.f1.size < 0
    · refine ⟨-1, ev_step (f := fun _ => some _) (Ev.now _) (fun k => ?_), fun h => absurd (by decide) h⟩
      rw [laws_szRollS.l0, if_pos hl', if_pos (by omega), rdL_mid, hz]
      simp only [Option.bind_some]
      rw [if_pos (by split <;> (try split) <;> omega)]
    · have c1 : ¬ n - (x.f0.size : Int) < 0 := fun h => c (.inl h)
      have c2 : ¬ n - (x.f0.size : Int) - x.f1.size < 0 := fun h => c (.inr h)
      obtain ⟨v, hv, hb⟩ := ih (pre ++ [x]) (n - x.f0.size - x.f1.size) (by simp at hl ⊢; omega) (by omega) (by omega) (fun y hy => hw y (List.mem_cons_of_mem _ hy))
      rw [snoc_app, snoc_leni] at hv
      refine ⟨v, ev_step hv (fun k => ?_), fun h y hy => ?_⟩
      · rw [laws_szRollS.l0, if_pos hl', if_pos (by omega), rdL_mid, hz, if_neg c1, if_neg c2]
        simp only [Option.bind_some]
        rw [if_neg (by omega), hwr]
      · rcases List.mem_cons.1 hy with rfl | hy
        · exact ⟨by omega, by omega⟩
        · exact hb h y hy
theorem szRollS_ok (l : List S66) (n : Int) (h0 : 0 ≤ n) (h1 : n ≤ 1048576) (hl : l.length ≤ 140737488351232) (hw : ∀ x ∈ l, x.f0.size ≤ 140737488351232 ∧ x.f1.size ≤ 140737488351232) :
    ∃ v, Ev (fun k => laws_szRollS.f k l n) v ∧ (¬ v < 0 → l.length ≤ 1048576 ∧ ∀ x ∈ l, x.f0.size ≤ 1048576 ∧ x.f1.size ≤ 1048576) := by
  have hwr : wrap64 (n - (l.length : Int)) = n - (l.length : Int) := wrapS (by omega) (by omega)
  by_cases c : n - (l.length : Int) < 0
  · refine ⟨-1, Ev.congr (f := fun _ => some _) (fun k => ?_) (Ev.now _), fun h => absurd (by decide) h⟩
    rw [laws_szRollS.f, hwr, if_pos c]
  · obtain ⟨v, hv, hb⟩ := szRollS_l0 l [] (n - l.length) (by simp; omega) (by omega) (by omega) hw
    refine ⟨v, Ev.congr (fun k => ?_) hv, fun h => ⟨by omega, hb h⟩⟩
    rw [laws_szRollS.f, hwr, if_neg c]
    rfl

/-! words, titles, catalogues -/
def letters (s : ByteArray) : Nat → Nat → Bool
  | 0, _ => true
  | d + 1, i => decide (97 ≤ bt s (i : Int) ∧ bt s (i : Int) ≤ 122) && letters s d (i + 1)
def wordOk (s : ByteArray) : Bool := letters s s.size 0 && decide (1 ≤ s.size ∧ s.size ≤ 12)
theorem caWord_l0 (s : ByteArray) (hs : s.size ≤ 1048576) (d : Nat) : ∀ i : Nat, i + d = s.size → Ev (fun k => spec_caWord.l0 k s (i : Int)) (letters s d i && decide (1 ≤ s.size ∧ s.size ≤ 12)) := by
  induction d with
  | zero =>
    intro i hi
    refine ev_step (f := fun _ => some _) (Ev.now _) (fun k => ?_)
    rw [spec_caWord.l0, if_neg (by omega)]
    by_cases h1 : 1 ≤ s.size
    · by_cases h2 : s.size ≤ 12
      · simp [spec_l1In.f, letters, h1, h2, show (s.size : Int) ≥ 1 by omega, show (s.size : Int) ≤ 12 by omega]
      · simp [spec_l1In.f, letters, h1, h2, show (s.size : Int) ≥ 1 by omega, show ¬ (s.size : Int) ≤ 12 by omega]
    · simp [spec_l1In.f, letters, h1, show ¬ (s.size : Int) ≥ 1 by omega]
  | succ d ih =>
    intro i hi
    have h := ih (i + 1) (by omega)
    have hw : wrap64 ((i : Int) + 1) = ((i + 1 : Nat) : Int) := by rw [wrapS (by omega) (by omega)]; simp
    by_cases c1 : bt s (i : Int) < 97
    · refine ev_step (f := fun _ => some _) (Ev.now _) (fun k => ?_)
      rw [spec_caWord.l0, if_pos (by omega), if_pos (by omega), if_pos c1]
      simp [letters, show ¬ 97 ≤ bt s (i : Int) by omega]
    by_cases c2 : bt s (i : Int) > 122
    · refine ev_step (f := fun _ => some _) (Ev.now _) (fun k => ?_)
      rw [spec_caWord.l0, if_pos (by omega), if_pos (by omega), if_neg c1, if_pos c2]
      simp [letters, show ¬ bt s (i : Int) ≤ 122 by omega]
    refine ev_step (ev_eq h ?_) (fun k => ?_)
    · simp [letters, show 97 ≤ bt s (i : Int) by omega, show bt s (i : Int) ≤ 122 by omega]
    · rw [spec_caWord.l0, if_pos (by omega), if_pos (by omega), if_neg c1, if_neg c2, hw]
theorem caWord_ok (s : ByteArray) (hs : s.size ≤ 1048576) : Ev (fun k => spec_caWord.f k s) (wordOk s) :=
  Ev.congr (fun _ => rfl) (caWord_l0 s hs s.size 0 (by omega))
theorem isWord_l0 (s : ByteArray) (hs : s.size ≤ 1048576) (d : Nat) : ∀ i : Nat, i + d = s.size → Ev (fun k => impl_isWord.l0 k s (s.size : Int) (i : Int)) (letters s d i && decide (1 ≤ s.size ∧ s.size ≤ 12)) := by
  induction d with
  | zero =>
    intro i hi
    refine ev_step (f := fun _ => some _) (Ev.now _) (fun k => ?_)
    rw [impl_isWord.l0, if_neg (by omega)]
    by_cases h1 : 1 ≤ s.size
    · by_cases h2 : s.size ≤ 12
      · simp [letters, h1, h2, show (s.size : Int) ≥ 1 by omega, show (s.size : Int) ≤ 12 by omega]
      · simp [letters, h1, h2, show (s.size : Int) ≥ 1 by omega, show ¬ (s.size : Int) ≤ 12 by omega]
    · simp [letters, h1, show ¬ (s.size : Int) ≥ 1 by omega]
  | succ d ih =>
    intro i hi
    have h := ih (i + 1) (by omega)
    have hw : wrap64 ((i : Int) + 1) = ((i + 1 : Nat) : Int) := by rw [wrapS (by omega) (by omega)]; simp
    by_cases c1 : bt s (i : Int) < 97
    · refine ev_step (f := fun _ => some _) (Ev.now _) (fun k => ?_)
      rw [impl_isWord.l0, if_pos (by omega), if_pos (by omega), if_pos (by omega), if_pos c1]
      simp [letters, show ¬ 97 ≤ bt s (i : Int) by omega]
    by_cases c2 : bt s (i : Int) > 122
    · refine ev_step (f := fun _ => some _) (Ev.now _) (fun k => ?_)
      rw [impl_isWord.l0, if_pos (by omega), if_pos (by omega), if_pos (by omega), if_neg c1, if_pos c2]
      simp [letters, show ¬ bt s (i : Int) ≤ 122 by omega]
    refine ev_step (ev_eq h ?_) (fun k => ?_)
    · simp [letters, show 97 ≤ bt s (i : Int) by omega, show bt s (i : Int) ≤ 122 by omega]
    · rw [impl_isWord.l0, if_pos (by omega), if_pos (by omega), if_pos (by omega), if_neg c1, if_neg c2, hw]
theorem isWord_ok (s : ByteArray) (hs : s.size ≤ 1048576) : Ev (fun k => impl_isWord.f k s) (wordOk s) :=
  Ev.congr (fun _ => rfl) (isWord_l0 s hs s.size 0 (by omega))

theorem caFind_l0 (t : ByteArray) (suf : List S68) : ∀ pre : List S68, (pre ++ suf).length ≤ 9223372036854775806 →
    Ev (fun k => spec_caFind.l0 k t (pre ++ suf) ((pre ++ suf).length : Int) (pre.length : Int)) (impl_findRoll.idx t (pre.length : Int) suf) := by
  induction suf with
  | nil =>
    intro pre _
    refine ev_step (f := fun _ => some _) (Ev.now _) (fun k => ?_)
    rw [spec_caFind.l0, if_neg (by simp)]
    rfl
  | cons x suf ih =>
    intro pre hl
    have h := ih (pre ++ [x]) (by simp at hl ⊢; omega)
    rw [snoc_app, snoc_leni] at h
    have hl' : (pre.length : Int) < ((pre ++ x :: suf).length : Int) := by simp; omega
    have hw : wrap64 ((pre.length : Int) + 1) = (pre.length : Int) + 1 := wrapS (by omega) (by simp at hl; omega)
    by_cases c : x.f0.toList = t.toList
    · refine ev_step (f := fun _ => some _) (Ev.now _) (fun k => ?_)
      rw [spec_caFind.l0, if_pos hl', if_pos (by omega), if_pos hl', rdR_mid, if_pos c, impl_findRoll.idx, if_pos c]
    · refine ev_step (ev_eq h (by rw [impl_findRoll.idx, if_neg c])) (fun k => ?_)
      rw [spec_caFind.l0, if_pos hl', if_pos (by omega), if_pos hl', rdR_mid, if_neg c, hw]
theorem caFind_ok (l : List S68) (t : ByteArray) (h : l.length ≤ 9223372036854775806) : Ev (fun k => spec_caFind.f k l t) (impl_findRoll.idx t 0 l) :=
  Ev.congr (fun _ => rfl) (caFind_l0 t l [] (by simpa using h))

def titled (t : ByteArray) (y : S68) : Bool := decide (y.f0.toList = t.toList)
theorem idx_some (t : ByteArray) (l : List S68) : ∀ (i : Int) (suf : List S68), l.any (titled t) = true → i ≤ impl_findRoll.idx t i (l ++ suf) ∧ impl_findRoll.idx t i (l ++ suf) < i + l.length := by
  induction l with
  | nil => intro i suf h; simp at h
  | cons x l ih =>
    intro i suf h
    simp only [List.cons_append, impl_findRoll.idx, List.length_cons]
    by_cases c : x.f0.toList = t.toList
    · rw [if_pos c]; omega
    · rw [if_neg c]
      have := ih (i + 1) suf (by simpa [titled, c] using h)
      omega
theorem idx_none (t : ByteArray) (l : List S68) : ∀ (i : Int) (suf : List S68), l.any (titled t) = false → impl_findRoll.idx t i (l ++ suf) = impl_findRoll.idx t (i + l.length) suf := by
  induction l with
  | nil => intro i suf h; simp
  | cons x l ih =>
    intro i suf h
    have c : ¬ x.f0.toList = t.toList := fun c => by simp [titled, c] at h
    simp only [List.cons_append, impl_findRoll.idx, List.length_cons]
    rw [if_neg c, ih (i + 1) suf (by simpa [titled, c] using h)]
    congr 1
    omega
theorem idx_neg (t : ByteArray) (l : List S68) : impl_findRoll.idx t 0 l ≥ 0 ↔ l.any (titled t) = true := by
  cases h : l.any (titled t) with
  | true =>
    have := idx_some t l 0 [] h
    rw [List.append_nil] at this
    simp; omega
  | false =>
    have := idx_none t l 0 [] h
    rw [List.append_nil] at this
    rw [this]
    simp [impl_findRoll.idx]
theorem idx_self (l suf : List S68) (x : S68) : impl_findRoll.idx x.f0 0 (l ++ x :: suf) = (l.length : Int) ↔ l.any (titled x.f0) = false := by
  cases h : l.any (titled x.f0) with
  | true =>
    have := idx_some x.f0 l 0 (x :: suf) h
    simp; omega
  | false =>
    have := idx_none x.f0 l 0 (x :: suf) h
    rw [this]
    simp [impl_findRoll.idx]

def yearsOk (pre : List S68) (x : S68) : Bool := decide (x.f3 ≥ 0 → ¬ (rd_T68 pre x.f3).f2 > x.f2)
def rollOk (pre : List S68) (x : S68) : Bool :=
  wordOk x.f0 && (wordOk x.f1 && (!(pre.any (titled x.f0)) && (decide (1800 ≤ x.f2 ∧ x.f2 ≤ 2100) && (decide (-1 ≤ x.f3 ∧ x.f3 ≤ (pre.length : Int) - 1) && yearsOk pre x))))
def goodFrom : List S68 → List S68 → Bool
  | _, [] => true
  | pre, x :: suf => rollOk pre x && goodFrom (pre ++ [x]) suf
/-- A valid catalogue. -/
def good (l : List S68) : Bool := goodFrom [] l && decide (l.length ≤ 30)

theorem caGood_j1 (x : S68) (pre suf : List S68) (n : Int) (b r : Bool) (hl : (pre ++ x :: suf).length ≤ 9223372036854775806) (hb : b = true → r = false)
    (hs : b = false → -1 ≤ x.f3 ∧ x.f3 ≤ (pre.length : Int) - 1) (h1 : b = false → yearsOk pre x = false → r = false)
    (h2 : b = false → yearsOk pre x = true → Ev (fun k => spec_caGood.l0 k (pre ++ x :: suf) (pre ++ x :: suf) n ((pre.length : Int) + 1)) r) :
    Ev (fun k => spec_caGood.j1 k (pre ++ x :: suf) (pre ++ x :: suf) n (pre.length : Int) b x.f0 x.f1 x.f2 x.f3) r := by
  have hw : wrap64 ((pre.length : Int) + 1) = (pre.length : Int) + 1 := wrapS (by omega) (by simp at hl; omega)
  cases b with
  | true =>
    obtain rfl := hb rfl
    refine ev_step ev_const (fun k => ?_)
    rw [spec_caGood.j1, if_pos rfl]
  | false =>
    have hs := hs rfl
    by_cases c : x.f3 ≥ 0
    · have e := rdR_app pre (x :: suf) x.f3 c (by omega)
      by_cases d : (rd_T68 pre x.f3).f2 > x.f2
      · obtain rfl := h1 rfl (by simp [yearsOk, c, d])
        refine ev_step ev_const (fun k => ?_)
        rw [spec_caGood.j1, if_neg (by decide), if_pos c, if_pos c, if_pos (by simp; omega), e, if_pos d]
      · refine ev_step (h2 rfl (decide_eq_true (fun _ => d))) (fun k => ?_)
        rw [spec_caGood.j1, if_neg (by decide), if_pos c, if_pos c, if_pos (by simp; omega), e, if_neg d, hw]
    · refine ev_step (h2 rfl (decide_eq_true (fun h => absurd h c))) (fun k => ?_)
      rw [spec_caGood.j1, if_neg (by decide), if_neg c, hw]

theorem caGood_l0 (suf : List S68) : ∀ pre : List S68, (pre ++ suf).length ≤ 1048576 → (∀ x ∈ suf, x.f0.size ≤ 1048576 ∧ x.f1.size ≤ 1048576) →
    Ev (fun k => spec_caGood.l0 k (pre ++ suf) (pre ++ suf) ((pre ++ suf).length : Int) (pre.length : Int)) (goodFrom pre suf && decide ((pre ++ suf).length ≤ 30)) := by
  induction suf with
  | nil =>
    intro pre _ _
    refine ev_step (f := fun _ => some _) (Ev.now _) (fun k => ?_)
    rw [spec_caGood.l0, if_neg (by simp)]
    simp [goodFrom]
    omega
  | cons x suf ih =>
    intro pre hl hz
    have h := ih (pre ++ [x]) (by simp at hl ⊢; omega) (fun y hy => hz y (List.mem_cons_of_mem _ hy))
    rw [snoc_app, snoc_leni] at h
    have hl' : (pre.length : Int) < ((pre ++ x :: suf).length : Int) := by simp; omega
    have hw1 : wrap64 ((pre.length : Int) - 1) = (pre.length : Int) - 1 := wrapS (by omega) (by simp at hl; omega)
    have J : ∀ b, (b = !(wordOk x.f0 && (wordOk x.f1 && (!(pre.any (titled x.f0)) && (decide (1800 ≤ x.f2 ∧ x.f2 ≤ 2100) && decide (-1 ≤ x.f3 ∧ x.f3 ≤ (pre.length : Int) - 1)))))) →
        Ev (fun k => spec_caGood.j1 k (pre ++ x :: suf) (pre ++ x :: suf) ((pre ++ x :: suf).length : Int) (pre.length : Int) b x.f0 x.f1 x.f2 x.f3) (goodFrom pre (x :: suf) && decide ((pre ++ x :: suf).length ≤ 30)) := by
      intro b hb
      refine caGood_j1 x pre suf _ b _ (by omega) (fun e => ?_) (fun e => ?_) (fun e e2 => ?_) (fun e e2 => ?_)
      · rw [e] at hb
        have hb2 := hb.symm
        simp only [Bool.not_eq_true', Bool.and_eq_false_iff] at hb2
        have : rollOk pre x = false := by
          simp only [rollOk, Bool.and_eq_false_iff]
          rcases hb2 with h | h | h | h | h
          · exact .inl h
          · exact .inr (.inl h)
          · exact .inr (.inr (.inl h))
          · exact .inr (.inr (.inr (.inl h)))
          · exact .inr (.inr (.inr (.inr (.inl h))))
        simp [goodFrom, this]
      · rw [e] at hb
        have hb2 := hb.symm
        simp only [Bool.not_eq_false', Bool.and_eq_true, decide_eq_true_eq] at hb2
        exact hb2.2.2.2.2
      · simp [goodFrom, rollOk, e2]
      · rw [e] at hb
        have hb2 := hb.symm
        simp only [Bool.not_eq_false', Bool.and_eq_true] at hb2
        have : rollOk pre x = true := by
          simp only [rollOk, Bool.and_eq_true]
          exact ⟨hb2.1, hb2.2.1, hb2.2.2.1, hb2.2.2.2.1, hb2.2.2.2.2, e2⟩
        have e3 : goodFrom pre (x :: suf) = goodFrom (pre ++ [x]) suf := by simp [goodFrom, this]
        rw [e3]
        exact h
    have hzx := hz x List.mem_cons_self
    obtain ⟨K1, e1⟩ := caWord_ok x.f0 hzx.1
    obtain ⟨K2, e2⟩ := caWord_ok x.f1 hzx.2
    obtain ⟨K3, e3⟩ := caFind_ok (pre ++ x :: suf) x.f0 (by omega)
    dsimp only at e1 e2 e3
    have go : ∀ b, (b = !(wordOk x.f0 && (wordOk x.f1 && (!(pre.any (titled x.f0)) && (decide (1800 ≤ x.f2 ∧ x.f2 ≤ 2100) && decide (-1 ≤ x.f3 ∧ x.f3 ≤ (pre.length : Int) - 1)))))) →
        (∀ k, K1 ≤ k → K2 ≤ k → K3 ≤ k → spec_caGood.l0 (k + 1) (pre ++ x :: suf) (pre ++ x :: suf) ((pre ++ x :: suf).length : Int) (pre.length : Int) = spec_caGood.j1 k (pre ++ x :: suf) (pre ++ x :: suf) ((pre ++ x :: suf).length : Int) (pre.length : Int) b x.f0 x.f1 x.f2 x.f3) →
        Ev (fun k => spec_caGood.l0 k (pre ++ x :: suf) (pre ++ x :: suf) ((pre ++ x :: suf).length : Int) (pre.length : Int)) (goodFrom pre (x :: suf) && decide ((pre ++ x :: suf).length ≤ 30)) := by
      intro b hb hk
      obtain ⟨K, hK⟩ := J b hb
      refine ⟨K + K1 + K2 + K3 + 1, fun k hk2 => ?_⟩
      obtain ⟨m, rfl⟩ : ∃ m, k = m + 1 := ⟨k - 1, by omega⟩
      dsimp only
      rw [hk m (by omega) (by omega) (by omega)]
      exact hK m (by omega)
    have st : ∀ k, spec_caGood.l0 (k + 1) (pre ++ x :: suf) (pre ++ x :: suf) ((pre ++ x :: suf).length : Int) (pre.length : Int) = _ := fun k => by
      rw [spec_caGood.l0, if_pos hl', if_pos (by omega), if_pos hl', rdR_mid]
    cases w0 : wordOk x.f0 with
    | false =>
      refine go true (by simp [w0]) (fun k h1 h2 h3 => ?_)
      rw [st, e1 k h1, w0]; simp
    | true =>
      cases w1 : wordOk x.f1 with
      | false =>
        refine go true (by simp [w1]) (fun k h1 h2 h3 => ?_)
        rw [st, e1 k h1, w0]; simp only [Option.bind_some, if_true]; rw [e2 k h2, w1]; simp
      | true =>
        cases ti : pre.any (titled x.f0) with
        | true =>
          have ne : ¬ impl_findRoll.idx x.f0 0 (pre ++ x :: suf) = (pre.length : Int) := fun q => by
            have := (idx_self pre suf x).1 q; rw [ti] at this; cases this
          refine go true (by simp [ti]) (fun k h1 h2 h3 => ?_)
          rw [st, e1 k h1, w0]; simp only [Option.bind_some, if_true]; rw [e2 k h2, w1]; simp only [Option.bind_some, if_true]; rw [e3 k h3]; simp only [Option.bind_some]; rw [if_neg ne]
        | false =>
          have eq := (idx_self pre suf x).2 ti
          by_cases y1 : 1800 ≤ x.f2 ∧ x.f2 ≤ 2100
          · have l1 : spec_l1In.f x.f2 1800 2100 = some true := by simp [spec_l1In.f, y1.1, y1.2]
            by_cases y2 : -1 ≤ x.f3 ∧ x.f3 ≤ (pre.length : Int) - 1
            · have l2 : spec_l1In.f x.f3 (-1) ((pre.length : Int) - 1) = some true := by simp [spec_l1In.f, y2.1, y2.2]
              refine go false (by simp [w0, w1, ti, y1, y2]) (fun k h1 h2 h3 => ?_)
              rw [st, e1 k h1, w0]; simp only [Option.bind_some, if_true]; rw [e2 k h2, w1]; simp only [Option.bind_some, if_true]; rw [e3 k h3]; simp only [Option.bind_some]; rw [if_pos eq, l1]; simp only [Option.bind_some, if_true]; rw [hw1, l2]; simp
            · have l2 : spec_l1In.f x.f3 (-1) ((pre.length : Int) - 1) = some false := by
                unfold spec_l1In.f
                by_cases z : x.f3 ≥ -1
                · rw [if_pos z]; have : ¬ x.f3 ≤ (pre.length : Int) - 1 := fun q => y2 ⟨z, q⟩
                  simp [this]
                · rw [if_neg z]
              refine go true (by simp [y2]) (fun k h1 h2 h3 => ?_)
              rw [st, e1 k h1, w0]; simp only [Option.bind_some, if_true]; rw [e2 k h2, w1]; simp only [Option.bind_some, if_true]; rw [e3 k h3]; simp only [Option.bind_some]; rw [if_pos eq, l1]; simp only [Option.bind_some, if_true]; rw [hw1, l2]; simp
          · have l1 : spec_l1In.f x.f2 1800 2100 = some false := by
              unfold spec_l1In.f
              by_cases z : x.f2 ≥ 1800
              · rw [if_pos z]; have : ¬ x.f2 ≤ 2100 := fun q => y1 ⟨z, q⟩
                simp [this]
              · rw [if_neg z]
            refine go true (by simp [y1]) (fun k h1 h2 h3 => ?_)
            rw [st, e1 k h1, w0]; simp only [Option.bind_some, if_true]; rw [e2 k h2, w1]; simp only [Option.bind_some, if_true]; rw [e3 k h3]; simp only [Option.bind_some]; rw [if_pos eq, l1]; simp
theorem caGood_ok (l : List S68) (h : l.length ≤ 1048576) (hz : ∀ x ∈ l, x.f0.size ≤ 1048576 ∧ x.f1.size ≤ 1048576) : Ev (fun k => spec_caGood.f k l) (good l) :=
  Ev.congr (fun _ => rfl) (caGood_l0 l [] (by simpa using h) hz)

theorem isCat_j1 (x : S68) (pre suf : List S68) (n : Int) (b r : Bool) (hl : (pre ++ x :: suf).length ≤ 9223372036854775806) (hb : b = true → r = false)
    (hs : b = false → -1 ≤ x.f3 ∧ x.f3 ≤ (pre.length : Int) - 1) (h1 : b = false → yearsOk pre x = false → r = false) (h3 : b = false → pre.any (titled x.f0) = true → r = false)
    (h2 : b = false → yearsOk pre x = true → pre.any (titled x.f0) = false → Ev (fun k => impl_IsCatalogue.l0 k (pre ++ x :: suf) (pre ++ x :: suf) n ((pre.length : Int) + 1)) r) :
    Ev (fun k => impl_IsCatalogue.j1 k (pre ++ x :: suf) (pre.length : Int) (pre ++ x :: suf) n (pre.length : Int) b x.f0 x.f1 x.f2 x.f3) r := by
  have hw : wrap64 ((pre.length : Int) + 1) = (pre.length : Int) + 1 := wrapS (by omega) (by simp at hl; omega)
  have ht : (pre ++ x :: suf).take ((pre.length : Int)).toNat = pre := by simp
  cases b with
  | true =>
    obtain rfl := hb rfl
    refine ev_step ev_const (fun k => ?_)
    rw [impl_IsCatalogue.j1, if_pos rfl]
  | false =>
    have hs := hs rfl
    have hle : (pre.length : Int) ≤ ((pre ++ x :: suf).length : Int) := by simp; omega
    have hn := idx_neg x.f0 pre
    by_cases c : x.f3 ≥ 0
    · have e := rdR_app pre (x :: suf) x.f3 c (by omega)
      by_cases d : (rd_T68 pre x.f3).f2 > x.f2
      · obtain rfl := h1 rfl (by simp [yearsOk, c, d])
        refine ev_step ev_const (fun k => ?_)
        rw [impl_IsCatalogue.j1, if_neg (by decide), if_pos c, if_pos c, if_pos (by simp; omega), e, if_pos d]
      · have y : yearsOk pre x = true := decide_eq_true (fun _ => d)
        cases q : pre.any (titled x.f0) with
        | true =>
          obtain rfl := h3 rfl q
          refine ev_step ev_const (fun k => ?_)
          rw [impl_IsCatalogue.j1, if_neg (by decide), if_pos c, if_pos c, if_pos (by simp; omega), e, if_neg d, if_pos (by omega), if_pos hle, ht, impl_findRoll.f]
          simp only [Option.bind_some]
          rw [if_pos (hn.2 q)]
        | false =>
          refine ev_step (h2 rfl y q) (fun k => ?_)
          rw [impl_IsCatalogue.j1, if_neg (by decide), if_pos c, if_pos c, if_pos (by simp; omega), e, if_neg d, if_pos (by omega), if_pos hle, ht, impl_findRoll.f]
          simp only [Option.bind_some]
          rw [if_neg (fun z => by have := hn.1 z; rw [q] at this; cases this), hw]
    · have y : yearsOk pre x = true := decide_eq_true (fun h => absurd h c)
      cases q : pre.any (titled x.f0) with
      | true =>
        obtain rfl := h3 rfl q
        refine ev_step ev_const (fun k => ?_)
        rw [impl_IsCatalogue.j1, if_neg (by decide), if_neg c, if_pos (by omega), if_pos hle, ht, impl_findRoll.f]
        simp only [Option.bind_some]
        rw [if_pos (hn.2 q)]
      | false =>
        refine ev_step (h2 rfl y q) (fun k => ?_)
        rw [impl_IsCatalogue.j1, if_neg (by decide), if_neg c, if_pos (by omega), if_pos hle, ht, impl_findRoll.f]
        simp only [Option.bind_some]
        rw [if_neg (fun z => by have := hn.1 z; rw [q] at this; cases this), hw]

theorem isCat_l0 (suf : List S68) : ∀ pre : List S68, (pre ++ suf).length ≤ 1048576 → (∀ x ∈ suf, x.f0.size ≤ 1048576 ∧ x.f1.size ≤ 1048576) →
    Ev (fun k => impl_IsCatalogue.l0 k (pre ++ suf) (pre ++ suf) ((pre ++ suf).length : Int) (pre.length : Int)) (goodFrom pre suf && decide ((pre ++ suf).length ≤ 30)) := by
  induction suf with
  | nil =>
    intro pre _ _
    refine ev_step (f := fun _ => some _) (Ev.now _) (fun k => ?_)
    rw [impl_IsCatalogue.l0, if_neg (by simp)]
    simp [goodFrom]
    omega
  | cons x suf ih =>
    intro pre hl hz
    have h := ih (pre ++ [x]) (by simp at hl ⊢; omega) (fun y hy => hz y (List.mem_cons_of_mem _ hy))
    rw [snoc_app, snoc_leni] at h
    have hl' : (pre.length : Int) < ((pre ++ x :: suf).length : Int) := by simp; omega
    have J : ∀ b, (b = !(wordOk x.f0 && (wordOk x.f1 && (decide (1800 ≤ x.f2 ∧ x.f2 ≤ 2100) && decide (-1 ≤ x.f3 ∧ x.f3 ≤ (pre.length : Int) - 1))))) →
        Ev (fun k => impl_IsCatalogue.j1 k (pre ++ x :: suf) (pre.length : Int) (pre ++ x :: suf) ((pre ++ x :: suf).length : Int) (pre.length : Int) b x.f0 x.f1 x.f2 x.f3) (goodFrom pre (x :: suf) && decide ((pre ++ x :: suf).length ≤ 30)) := by
      intro b hb
      refine isCat_j1 x pre suf _ b _ (by omega) (fun e => ?_) (fun e => ?_) (fun e e2 => ?_) (fun e e2 => ?_) (fun e e2 e4 => ?_)
      · rw [e] at hb
        have hb2 := hb.symm
        simp only [Bool.not_eq_true', Bool.and_eq_false_iff] at hb2
        have : rollOk pre x = false := by
          simp only [rollOk, Bool.and_eq_false_iff]
          rcases hb2 with h | h | h | h
          · exact .inl h
          · exact .inr (.inl h)
          · exact .inr (.inr (.inr (.inl h)))
          · exact .inr (.inr (.inr (.inr (.inl h))))
        simp [goodFrom, this]
      · rw [e] at hb
        have hb2 := hb.symm
        simp only [Bool.not_eq_false', Bool.and_eq_true, decide_eq_true_eq] at hb2
        exact hb2.2.2.2
      · simp [goodFrom, rollOk, e2]
      · simp [goodFrom, rollOk, e2]
      · rw [e] at hb
        have hb2 := hb.symm
        simp only [Bool.not_eq_false', Bool.and_eq_true] at hb2
        have : rollOk pre x = true := by
          simp only [rollOk, Bool.and_eq_true]
          exact ⟨hb2.1, hb2.2.1, by rw [e4]; rfl, hb2.2.2.1, hb2.2.2.2, e2⟩
        have e3 : goodFrom pre (x :: suf) = goodFrom (pre ++ [x]) suf := by simp [goodFrom, this]
        rw [e3]
        exact h
    have hzx := hz x List.mem_cons_self
    obtain ⟨K1, e1⟩ := isWord_ok x.f0 hzx.1
    obtain ⟨K2, e2⟩ := isWord_ok x.f1 hzx.2
    dsimp only at e1 e2
    have go : ∀ b, (b = !(wordOk x.f0 && (wordOk x.f1 && (decide (1800 ≤ x.f2 ∧ x.f2 ≤ 2100) && decide (-1 ≤ x.f3 ∧ x.f3 ≤ (pre.length : Int) - 1))))) →
        (∀ k, K1 ≤ k → K2 ≤ k → impl_IsCatalogue.l0 (k + 1) (pre ++ x :: suf) (pre ++ x :: suf) ((pre ++ x :: suf).length : Int) (pre.length : Int) = impl_IsCatalogue.j1 k (pre ++ x :: suf) (pre.length : Int) (pre ++ x :: suf) ((pre ++ x :: suf).length : Int) (pre.length : Int) b x.f0 x.f1 x.f2 x.f3) →
        Ev (fun k => impl_IsCatalogue.l0 k (pre ++ x :: suf) (pre ++ x :: suf) ((pre ++ x :: suf).length : Int) (pre.length : Int)) (goodFrom pre (x :: suf) && decide ((pre ++ x :: suf).length ≤ 30)) := by
      intro b hb hk
      obtain ⟨K, hK⟩ := J b hb
      refine ⟨K + K1 + K2 + 1, fun k hk2 => ?_⟩
      obtain ⟨m, rfl⟩ : ∃ m, k = m + 1 := ⟨k - 1, by omega⟩
      dsimp only
      rw [hk m (by omega) (by omega)]
      exact hK m (by omega)
    have st : ∀ k, impl_IsCatalogue.l0 (k + 1) (pre ++ x :: suf) (pre ++ x :: suf) ((pre ++ x :: suf).length : Int) (pre.length : Int) = _ := fun k => by
      rw [impl_IsCatalogue.l0, if_pos hl', if_pos (by omega), if_pos hl', rdR_mid]
    cases w0 : wordOk x.f0 with
    | false =>
      refine go true (by simp [w0]) (fun k h1 h2 => ?_)
      rw [st, e1 k h1, w0]; simp
    | true =>
      cases w1 : wordOk x.f1 with
      | false =>
        refine go true (by simp [w1]) (fun k h1 h2 => ?_)
        rw [st, e1 k h1, w0]; simp only [Option.bind_some, if_true]; rw [e2 k h2, w1]; simp
      | true =>
        by_cases y1 : x.f2 < 1800
        · refine go true (by rw [show decide (1800 ≤ x.f2 ∧ x.f2 ≤ 2100) = false from decide_eq_false (fun z => by omega)]; simp) (fun k h1 h2 => ?_)
          rw [st, e1 k h1, w0]; simp only [Option.bind_some, if_true]; rw [e2 k h2, w1]; simp only [Option.bind_some, if_true]; rw [if_pos y1]
        by_cases y2 : x.f2 > 2100
        · refine go true (by rw [show decide (1800 ≤ x.f2 ∧ x.f2 ≤ 2100) = false from decide_eq_false (fun z => by omega)]; simp) (fun k h1 h2 => ?_)
          rw [st, e1 k h1, w0]; simp only [Option.bind_some, if_true]; rw [e2 k h2, w1]; simp only [Option.bind_some, if_true]; rw [if_neg y1, if_pos y2]
        by_cases y3 : x.f3 < -1
        · refine go true (by rw [show decide (-1 ≤ x.f3 ∧ x.f3 ≤ (pre.length : Int) - 1) = false from decide_eq_false (fun z => by omega)]; simp) (fun k h1 h2 => ?_)
          rw [st, e1 k h1, w0]; simp only [Option.bind_some, if_true]; rw [e2 k h2, w1]; simp only [Option.bind_some, if_true]; rw [if_neg y1, if_neg y2, if_pos y3]
        have d1 : decide (1800 ≤ x.f2 ∧ x.f2 ≤ 2100) = true := decide_eq_true (by omega)
        have d2 : decide (x.f3 ≥ (pre.length : Int)) = !(decide (-1 ≤ x.f3 ∧ x.f3 ≤ (pre.length : Int) - 1)) := by
          by_cases z : x.f3 ≥ (pre.length : Int)
          · rw [show decide (-1 ≤ x.f3 ∧ x.f3 ≤ (pre.length : Int) - 1) = false from decide_eq_false (fun q => by omega)]; simp [z]
          · rw [show decide (-1 ≤ x.f3 ∧ x.f3 ≤ (pre.length : Int) - 1) = true from decide_eq_true (by omega)]; simp [z]
        refine go (decide (x.f3 ≥ (pre.length : Int))) (by rw [d1, d2, w0, w1]; simp) (fun k h1 h2 => ?_)
        rw [st, e1 k h1, w0]; simp only [Option.bind_some, if_true]; rw [e2 k h2, w1]; simp only [Option.bind_some, if_true]; rw [if_neg y1, if_neg y2, if_neg y3]
theorem isCat_ok (l : List S68) (h : l.length ≤ 1048576) (hz : ∀ x ∈ l, x.f0.size ≤ 1048576 ∧ x.f1.size ≤ 1048576) : Ev (fun k => impl_IsCatalogue.f k l) (good l) :=
  Ev.congr (fun _ => rfl) (isCat_l0 l [] (by simpa using h) hz)

theorem toR_small (l : List S66) (h : ∀ x ∈ l, x.f0.size ≤ 1048576 ∧ x.f1.size ≤ 1048576) : ∀ y ∈ l.map toR, y.f0.size ≤ 1048576 ∧ y.f1.size ≤ 1048576 := by
  intro y hy
  obtain ⟨x, hx, rfl⟩ := List.mem_map.1 hy
  exact h x hx

/-! marks of rolls -/
theorem strOfNums_one (c : Int) : (strOfNums [c]).size = 1 := by
  simp [strOfNums, ByteArray.size]
theorem markText_l0 (d : Nat) : ∀ (n : Int) (s : ByteArray), 0 ≤ n → n ≤ d → (d : Int) + s.size ≤ 4000000000000000000 → ∃ t, Ev (fun k => laws_markText.l0 k n s) t := by
  induction d with
  | zero =>
    intro n s h0 h1 h2
    refine ⟨(⟨#[109]⟩ : ByteArray) ++ s, ev_step (f := fun _ => some ((⟨#[109]⟩ : ByteArray) ++ s)) (Ev.now _) (fun k => ?_)⟩
    rw [laws_markText.l0, if_neg (by omega), if_pos (by omega)]
  | succ d ih =>
    intro n s h0 h1 h2
    by_cases c : n > 0
    · have e1 : wrap64 (Int.tdiv n 10) = n / 10 := by rw [Int.tdiv_eq_ediv_of_nonneg h0, wrapS (by omega) (by omega)]
      have hz : (strOfNums [(wrap64 (48 + (Int.tmod n 10))) % 256] ++ s).size = 1 + s.size := by
        rw [ByteArray.size_append, strOfNums_one]
      obtain ⟨t, ht⟩ := ih (n / 10) (strOfNums [(wrap64 (48 + (Int.tmod n 10))) % 256] ++ s) (by omega) (by omega) (by rw [hz]; omega)
      refine ⟨t, ev_step ht (fun k => ?_)⟩
      rw [laws_markText.l0, if_pos c]
      simp only [Option.bind_some]
      rw [if_pos (by rw [strOfNums_one]; omega), e1]
    · refine ⟨(⟨#[109]⟩ : ByteArray) ++ s, ev_step (f := fun _ => some ((⟨#[109]⟩ : ByteArray) ++ s)) (Ev.now _) (fun k => ?_)⟩
      rw [laws_markText.l0, if_neg c, if_pos (by omega)]
theorem markText_ok (n : Int) (h : n ≤ 1000000000000000000) : ∃ t, Ev (fun k => laws_markText.f k n) t := by
  by_cases c : n ≤ 0
  · exact ⟨_, Ev.congr (f := fun _ => some _) (fun k => by rw [laws_markText.f, if_pos c]) (Ev.now _)⟩
  · obtain ⟨t, ht⟩ := markText_l0 n.toNat n ⟨#[]⟩ (by omega) (by omega) (by have : (⟨#[]⟩ : ByteArray).size = 0 := rfl; omega)
    exact ⟨t, Ev.congr (fun k => by rw [laws_markText.f, if_neg c]) ht⟩
theorem markRollS_l0 (d : Nat) : ∀ (l : List S68) (i : Nat) (a : Int), i + d = l.length → l.length ≤ 1048576 → 0 ≤ a → a ≤ 1000000000 + 4 * i →
    ∃ b l', Ev (fun k => laws_markRollS.l0 k l a (i : Int)) (b, l') ∧ 0 ≤ b := by
  induction d with
  | zero =>
    intro l i a hi hl h0 h1
    refine ⟨a, l, ev_step (f := fun _ => some _) (Ev.now _) (fun k => ?_), h0⟩
    rw [laws_markRollS.l0, if_neg (by omega)]
  | succ d ih =>
    intro l i a hi hl h0 h1
    obtain ⟨t1, K1, e1⟩ := markText_ok a (by omega)
    obtain ⟨t2, K2, e2⟩ := markText_ok (a + 1) (by omega)
    dsimp only at e1 e2
    have w1 : wrap64 (a + 1) = a + 1 := wrapS (by omega) (by omega)
    have w2 : wrap64 (a + 1 + 1) = a + 1 + 1 := wrapS (by omega) (by omega)
    have w3 : wrap64 (a + 1 + 1 + 1) = a + 1 + 1 + 1 := wrapS (by omega) (by omega)
    have w4 : wrap64 (a + 1 + 1 + 1 + 1) = a + 1 + 1 + 1 + 1 := wrapS (by omega) (by omega)
    have w5 : wrap64 ((i : Int) + 1) = ((i + 1 : Nat) : Int) := by rw [wrapS (by omega) (by omega)]; simp
    obtain ⟨y1, hy1⟩ : ∃ y, y = l.set ((i : Int)).toNat (⟨t1, (rd_T68 l i).f1, (rd_T68 l i).f2, (rd_T68 l i).f3⟩ : S68) := ⟨_, rfl⟩
    obtain ⟨y2, hy2⟩ : ∃ y, y = y1.set ((i : Int)).toNat (⟨(rd_T68 y1 i).f0, t2, (rd_T68 y1 i).f2, (rd_T68 y1 i).f3⟩ : S68) := ⟨_, rfl⟩
    obtain ⟨y3, hy3⟩ : ∃ y, y = y2.set ((i : Int)).toNat (⟨(rd_T68 y2 i).f0, (rd_T68 y2 i).f1, a + 1 + 1, (rd_T68 y2 i).f3⟩ : S68) := ⟨_, rfl⟩
    obtain ⟨y4, hy4⟩ : ∃ y, y = y3.set ((i : Int)).toNat (⟨(rd_T68 y3 i).f0, (rd_T68 y3 i).f1, (rd_T68 y3 i).f2, a + 1 + 1 + 1⟩ : S68) := ⟨_, rfl⟩
    have hl4 : y4.length = l.length := by rw [hy4, hy3, hy2, hy1]; simp
    obtain ⟨b, l', ⟨K3, e3⟩, hb⟩ := ih y4 (i + 1) (a + 1 + 1 + 1 + 1) (by omega) (by omega) (by omega) (by omega)
    dsimp only at e3
    refine ⟨b, l', ⟨K1 + K2 + K3 + 1, fun k hk => ?_⟩, hb⟩
    obtain ⟨m, rfl⟩ : ∃ m, k = m + 1 := ⟨k - 1, by omega⟩
    dsimp only
    rw [laws_markRollS.l0, if_pos (by omega), e1 m (by omega)]
    simp only [Option.bind_some]
    rw [if_pos (by omega), ← hy1, w1, e2 m (by omega)]
    simp only [Option.bind_some]
    rw [← hy2, w2, ← hy3, w3, ← hy4, w4, w5]
    exact e3 m (by omega)
theorem markRollS_some (l : List S68) (hl : l.length ≤ 1048576) : ∃ b l', Ev (fun k => laws_markRollS.f k l 1) (b, l') ∧ 0 ≤ b := by
  obtain ⟨b, l', h, hb⟩ := markRollS_l0 l.length l 0 1 (by omega) hl (by omega) (by omega)
  exact ⟨b, l', Ev.congr (fun _ => rfl) h, hb⟩

/-! marks of rolls, word for word -/
noncomputable def mtxt (n : Int) : ByteArray := if h : n ≤ 1000000000000000000 then Classical.choose (markText_ok n h) else ByteArray.empty
theorem mtxt_ok (n : Int) (h : n ≤ 1000000000000000000) : Ev (fun k => laws_markText.f k n) (mtxt n) := by
  rw [mtxt, dif_pos h]; exact Classical.choose_spec (markText_ok n h)
noncomputable def mrolls : Nat → Int → List S68
  | 0, _ => []
  | d + 1, a => (⟨mtxt a, mtxt (a + 1), a + 1 + 1, a + 1 + 1 + 1⟩ : S68) :: mrolls d (a + 1 + 1 + 1 + 1)
theorem mrolls_len (d : Nat) : ∀ a, (mrolls d a).length = d := by
  induction d with
  | zero => intro a; rfl
  | succ d ih => intro a; simp [mrolls, ih]
theorem markRollS_l0' (suf : List S68) : ∀ (pre : List S68) (a : Int), (pre ++ suf).length ≤ 9000000 → 0 ≤ a → a ≤ 1000000000 + 4 * pre.length →
    Ev (fun k => laws_markRollS.l0 k (pre ++ suf) a (pre.length : Int)) (a + 4 * suf.length, pre ++ mrolls suf.length a) := by
  induction suf with
  | nil =>
    intro pre a _ _ _
    refine ev_step (f := fun _ => some _) (Ev.now _) (fun k => ?_)
    rw [laws_markRollS.l0, if_neg (by simp)]; simp [mrolls]
  | cons x suf ih =>
    intro pre a hl h0 h1
    have hlp : pre.length ≤ 9000000 := by simp at hl; omega
    obtain ⟨K1, e1⟩ := mtxt_ok a (by omega)
    obtain ⟨K2, e2⟩ := mtxt_ok (a + 1) (by omega)
    dsimp only at e1 e2
    have w1 : wrap64 (a + 1) = a + 1 := wrapS (by omega) (by omega)
    have w2 : wrap64 (a + 1 + 1) = a + 1 + 1 := wrapS (by omega) (by omega)
    have w3 : wrap64 (a + 1 + 1 + 1) = a + 1 + 1 + 1 := wrapS (by omega) (by omega)
    have w4 : wrap64 (a + 1 + 1 + 1 + 1) = a + 1 + 1 + 1 + 1 := wrapS (by omega) (by omega)
    have w5 : wrap64 ((pre.length : Int) + 1) = (pre.length : Int) + 1 := wrapS (by omega) (by omega)
    have sR : ∀ y z : S68, (pre ++ y :: suf).set ((pre.length : Int)).toNat z = pre ++ z :: suf := fun y z => set_mid _ _ _ _ _ (by simp)
    have hl' : (pre.length : Int) < ((pre ++ x :: suf).length : Int) := by simp; omega
    obtain ⟨K3, e3⟩ := ih (pre ++ [(⟨mtxt a, mtxt (a + 1), a + 1 + 1, a + 1 + 1 + 1⟩ : S68)]) (a + 1 + 1 + 1 + 1) (by simp at hl ⊢; omega) (by omega) (by simp; omega)
    dsimp only at e3
    rw [snoc_app, snoc_app, snoc_leni] at e3
    refine ⟨K1 + K2 + K3 + 1, fun k hk => ?_⟩
    obtain ⟨m, rfl⟩ : ∃ m, k = m + 1 := ⟨k - 1, by omega⟩
    dsimp only
    rw [laws_markRollS.l0, if_pos hl', e1 m (by omega)]
    simp only [Option.bind_some]
    rw [if_pos (by omega)]
    simp only [rdR_mid, sR, w1, w2, w3, w4, w5, e2 m (by omega), Option.bind_some]
    rw [e3 m (by omega)]
    simp only [mrolls, List.length_cons]
    congr 2
    omega
theorem markRollS_all (l : List S68) (a : Int) (hl : l.length ≤ 9000000) (h0 : 0 ≤ a) (h1 : a ≤ 1000000000) : Ev (fun k => laws_markRollS.f k l a) (a + 4 * l.length, mrolls l.length a) :=
  Ev.congr (f := fun k => laws_markRollS.l0 k l a 0) (fun _ => rfl) (by simpa using markRollS_l0' l [] a (by simpa using hl) h0 (by simpa using h1))
theorem heldRollS_l0 (d : Nat) : ∀ (pre : List S68) (a : Int), pre.length + d ≤ 9000000 → 0 ≤ a → a ≤ 1000000000 + 4 * pre.length →
    Ev (fun k => laws_heldRollS.l0 k (pre ++ mrolls d a) a (pre.length : Int)) (a + 4 * d) := by
  induction d with
  | zero =>
    intro pre a _ _ _
    refine ev_step (f := fun _ => some _) (Ev.now _) (fun k => ?_)
    rw [laws_heldRollS.l0, if_neg (by simp [mrolls])]; simp
  | succ d ih =>
    intro pre a hl h0 h1
    obtain ⟨K1, e1⟩ := mtxt_ok a (by omega)
    obtain ⟨K2, e2⟩ := mtxt_ok (a + 1) (by omega)
    dsimp only at e1 e2
    have w1 : wrap64 (a + 1) = a + 1 := wrapS (by omega) (by omega)
    have w2 : wrap64 (a + 1 + 1) = a + 1 + 1 := wrapS (by omega) (by omega)
    have w3 : wrap64 (a + 1 + 1 + 1) = a + 1 + 1 + 1 := wrapS (by omega) (by omega)
    have w4 : wrap64 (a + 1 + 1 + 1 + 1) = a + 1 + 1 + 1 + 1 := wrapS (by omega) (by omega)
    have w5 : wrap64 ((pre.length : Int) + 1) = (pre.length : Int) + 1 := wrapS (by omega) (by omega)
    obtain ⟨K3, e3⟩ := ih (pre ++ [(⟨mtxt a, mtxt (a + 1), a + 1 + 1, a + 1 + 1 + 1⟩ : S68)]) (a + 1 + 1 + 1 + 1) (by simp; omega) (by omega) (by simp; omega)
    dsimp only at e3
    rw [snoc_app, snoc_leni] at e3
    have hl' : (pre.length : Int) < ((pre ++ mrolls (d + 1) a).length : Int) := by simp [mrolls_len]; omega
    refine ⟨K1 + K2 + K3 + 1, fun k hk => ?_⟩
    obtain ⟨m, rfl⟩ : ∃ m, k = m + 1 := ⟨k - 1, by omega⟩
    dsimp only
    rw [laws_heldRollS.l0, if_pos hl', if_pos (by omega), e1 m (by omega)]
    simp only [mrolls, Option.bind_some, rdR_mid, w1, w2, w3, w4, w5, e2 m (by omega), if_true]
    rw [e3 m (by omega)]
    congr 1
    omega
theorem heldRollS_all (d : Nat) (a : Int) (hl : d ≤ 9000000) (h0 : 0 ≤ a) (h1 : a ≤ 1000000000) : Ev (fun k => laws_heldRollS.f k (mrolls d a) a) (a + 4 * d) :=
  Ev.congr (f := fun k => laws_heldRollS.l0 k (mrolls d a) a 0) (fun _ => rfl) (by simpa using heldRollS_l0 d [] a (by simpa using hl) h0 (by simpa using h1))

/-! provenances -/
theorem goodFrom_src (suf : List S68) : ∀ pre : List S68, goodFrom pre suf = true → ∀ j : Nat, pre.length ≤ j → j < (pre ++ suf).length → -1 ≤ (rd_T68 (pre ++ suf) (j : Int)).f3 ∧ (rd_T68 (pre ++ suf) (j : Int)).f3 ≤ (j : Int) - 1 := by
  induction suf with
  | nil => intro pre _ j h1 h2; simp at h2; omega
  | cons x suf ih =>
    intro pre h j h1 h2
    simp only [goodFrom, Bool.and_eq_true] at h
    by_cases e : j = pre.length
    · subst e
      rw [rdR_mid]
      have hr := h.1
      simp only [rollOk, Bool.and_eq_true, decide_eq_true_eq] at hr
      exact hr.2.2.2.2.1
    · have := ih (pre ++ [x]) h.2 j (by simp; omega) (by simpa using h2)
      rwa [snoc_app] at this
theorem good_src {l : List S68} (h : good l = true) (j : Int) (h0 : 0 ≤ j) (h1 : j < l.length) : -1 ≤ (rd_T68 l j).f3 ∧ (rd_T68 l j).f3 ≤ j - 1 := by
  simp only [good, Bool.and_eq_true] at h
  have := goodFrom_src l [] h.1 j.toNat (Nat.zero_le _) (by simp; omega)
  rw [List.nil_append, show ((j.toNat : Nat) : Int) = j by omega] at this
  exact this
theorem good_len {l : List S68} (h : good l = true) : l.length ≤ 30 := by
  simp only [good, Bool.and_eq_true, decide_eq_true_eq] at h; exact h.2

def hasRoll (l : List S68) (i : Int) : Bool := good l && decide (0 ≤ i ∧ i < l.length)
theorem caHas_ok (l : List S68) (i : Int) (h : l.length ≤ 1048576) (hz : ∀ x ∈ l, x.f0.size ≤ 1048576 ∧ x.f1.size ≤ 1048576) : Ev (fun k => spec_caHas.f k l i) (hasRoll l i) := by
  refine Ev.bind (caGood_ok l h hz) (ev_of_eq (fun _ => ?_))
  cases g : good l with
  | false => simp [hasRoll, g]
  | true =>
    have hw : wrap64 ((l.length : Int) - 1) = (l.length : Int) - 1 := wrapS (by omega) (by omega)
    simp only [if_true, hw, spec_l1In.f, hasRoll, g, Bool.true_and]
    by_cases c : i ≥ 0
    · simp only [if_pos c, Option.bind_some]
      congr 1
      by_cases d : i < l.length
      · simp [d]; omega
      · simp [d]; omega
    · rw [if_neg c]; simp; omega
theorem isRoll_ok (l : List S68) (i : Int) (h : l.length ≤ 1048576) (hz : ∀ x ∈ l, x.f0.size ≤ 1048576 ∧ x.f1.size ≤ 1048576) : Ev (fun k => impl_isRoll.f k l i) (hasRoll l i) := by
  refine Ev.bind (isCat_ok l h hz) (ev_of_eq (fun _ => ?_))
  cases g : good l with
  | false => simp [hasRoll, g]
  | true =>
    simp only [if_true, hasRoll, g, Bool.true_and]
    by_cases c : i ≥ 0
    · simp [c]
    · rw [if_neg c]; simp; omega
theorem hasRoll_of {l : List S68} {i : Int} (h : hasRoll l i = true) : good l = true ∧ 0 ≤ i ∧ i < l.length := by
  simpa [hasRoll] using h

/-! one roll less -/
def dropX (l : List S68) (i : Int) (x : S68) : S68 := if x.f3 = i then ⟨x.f0, x.f1, x.f2, (rd_T68 l i).f3⟩ else if x.f3 > i then ⟨x.f0, x.f1, x.f2, x.f3 - 1⟩ else ⟨x.f0, x.f1, x.f2, x.f3⟩
def dropL (l : List S68) (i : Int) : Int → List S68 → List S68
  | _, [] => []
  | n, x :: s => if n = i then dropL l i (n + 1) s else dropX l i x :: dropL l i (n + 1) s
theorem dropL_len (l : List S68) (i : Int) (s : List S68) : ∀ n, (dropL l i n s).length ≤ s.length := by
  induction s with
  | nil => intro n; simp [dropL]
  | cons x s ih => intro n; have := ih (n + 1); simp only [dropL]; split <;> simp <;> omega
theorem specDrop_l0 (l : List S68) (hg : good l = true) (i : Int) (h0 : 0 ≤ i) (h1 : i < l.length) (suf : List S68) : ∀ (pre out : List S68), pre ++ suf = l → out.length ≤ pre.length →
    Ev (fun k => spec_DropRoll.l0 k l i out (pre.length : Int)) (out ++ dropL l i (pre.length : Int) suf) := by
  induction suf with
  | nil =>
    intro pre out hl _
    refine ev_step (f := fun _ => some _) (Ev.now _) (fun k => ?_)
    rw [spec_DropRoll.l0, if_neg (by rw [← hl]; simp)]; simp [dropL]
  | cons x suf ih =>
    intro pre out hl ho
    have hgl := good_len hg
    have hlp : pre.length + (suf.length + 1) = l.length := by rw [← hl]; simp
    have hl' : (pre.length : Int) < (l.length : Int) := by omega
    have hw : wrap64 ((pre.length : Int) + 1) = (pre.length : Int) + 1 := wrapS (by omega) (by omega)
    have hx : rd_T68 l (pre.length : Int) = x := by rw [← hl]; exact rdR_mid pre suf x
    have hs := good_src hg (pre.length : Int) (by omega) hl'
    have hi := good_src hg i h0 h1
    rw [hx] at hs
    have IH := fun out2 (h2 : out2.length ≤ pre.length + 1) => ih (pre ++ [x]) out2 (by rw [snoc_app]; exact hl) (by simpa using h2)
    simp only [snoc_leni] at IH
    by_cases c : (pre.length : Int) = i
    · refine ev_step (ev_eq (IH out (by omega)) (by simp only [dropL, if_pos c])) (fun k => ?_)
      rw [spec_DropRoll.l0, if_pos hl', if_pos (by omega), if_pos c, hw]
    · have H2 := IH (out ++ [dropX l i x]) (by simp; omega)
      have hX : (⟨x.f0, x.f1, x.f2, spec_DropRoll.src (rd_T68 l i).f3 i x⟩ : S68) = dropX l i x := by
        unfold dropX spec_DropRoll.src
        by_cases d : x.f3 = i
        · rw [if_pos d, if_pos d]
        · rw [if_neg d, if_neg d]
          by_cases e : x.f3 > i
          · rw [if_pos e, if_pos e, wrapS (by omega) (by omega)]
          · rw [if_neg e, if_neg e]
      refine ev_step (ev_eq H2 (by simp only [dropL, if_neg c, List.append_assoc, List.singleton_append])) (fun k => ?_)
      rw [spec_DropRoll.l0, if_pos hl', if_pos (by omega), if_neg c, if_pos (by omega), hx, hX, hw]
theorem implDrop_l0 (l : List S68) (hg : good l = true) (i : Int) (h0 : 0 ≤ i) (h1 : i < l.length) (suf : List S68) : ∀ (pre out : List S68), pre ++ suf = l → out.length ≤ pre.length →
    Ev (fun k => impl_DropRoll.l0 k l i out (pre.length : Int)) (out ++ dropL l i (pre.length : Int) suf) := by
  induction suf with
  | nil =>
    intro pre out hl _
    refine ev_step (f := fun _ => some _) (Ev.now _) (fun k => ?_)
    rw [impl_DropRoll.l0, if_neg (by rw [← hl]; simp)]; simp [dropL]
  | cons x suf ih =>
    intro pre out hl ho
    have hgl := good_len hg
    have hlp : pre.length + (suf.length + 1) = l.length := by rw [← hl]; simp
    have hl' : (pre.length : Int) < (l.length : Int) := by omega
    have hw : wrap64 ((pre.length : Int) + 1) = (pre.length : Int) + 1 := wrapS (by omega) (by omega)
    have hx : rd_T68 l (pre.length : Int) = x := by rw [← hl]; exact rdR_mid pre suf x
    have hs := good_src hg (pre.length : Int) (by omega) hl'
    have hi := good_src hg i h0 h1
    rw [hx] at hs
    have IH := fun out2 (h2 : out2.length ≤ pre.length + 1) => ih (pre ++ [x]) out2 (by rw [snoc_app]; exact hl) (by simpa using h2)
    simp only [snoc_leni] at IH
    by_cases c : (pre.length : Int) = i
    · refine ev_step (ev_eq (IH out (by omega)) (by simp only [dropL, if_pos c])) (fun k => ?_)
      rw [impl_DropRoll.l0, if_pos hl', if_pos (by omega), if_pos c, hw]
    · have H2 := IH (out ++ [dropX l i x]) (by simp; omega)
      have hX : (⟨x.f0, x.f1, x.f2, impl_DropRoll.src (rd_T68 l i).f3 i x⟩ : S68) = dropX l i x := by
        unfold dropX impl_DropRoll.src
        by_cases d : x.f3 = i
        · simp only [if_pos d, if_neg (show ¬ (rd_T68 l i).f3 > i by omega)]
        · simp only [if_neg d]
          by_cases e : x.f3 > i
          · rw [if_pos e, if_pos e, wrapS (by omega) (by omega)]
          · rw [if_neg e, if_neg e]
      refine ev_step (ev_eq H2 (by simp only [dropL, if_neg c, List.append_assoc, List.singleton_append])) (fun k => ?_)
      rw [impl_DropRoll.l0, if_pos hl', if_pos (by omega), if_neg c, if_pos (by omega), hx, hX, hw]
def dropR (l : List S68) (i : Int) : List S68 × Bool := if hasRoll l i = true then (dropL l i 0 l, true) else ([], false)
theorem dropR_len (l : List S68) (i : Int) (hl : l.length ≤ 1048576) : (dropR l i).1.length ≤ 1048576 := by
  have := dropL_len l i l 0
  unfold dropR; split
  · simp only; omega
  · simp
theorem specDropRoll_ok (l : List S68) (i : Int) (h : l.length ≤ 1048576) (hz : ∀ x ∈ l, x.f0.size ≤ 1048576 ∧ x.f1.size ≤ 1048576) : Ev (fun k => spec_DropRoll.f k l i) (dropR l i) := by
  refine Ev.bind (caHas_ok l i h hz) ?_
  cases g : hasRoll l i with
  | false => exact ev_of_eq (fun _ => by simp [dropR, g])
  | true =>
    obtain ⟨g1, g2, g3⟩ := hasRoll_of g
    simp only [if_true]
    simp only [g2, g3, if_true]
    exact Ev.bind (specDrop_l0 l g1 i g2 g3 l [] [] (by simp) (by simp)) (ev_of_eq (fun _ => by simp [dropR, g]))
theorem implDropRoll_ok (l : List S68) (i : Int) (h : l.length ≤ 1048576) (hz : ∀ x ∈ l, x.f0.size ≤ 1048576 ∧ x.f1.size ≤ 1048576) : Ev (fun k => impl_DropRoll.f k l i) (dropR l i) := by
  refine Ev.bind (isRoll_ok l i h hz) ?_
  cases g : hasRoll l i with
  | false => exact ev_of_eq (fun _ => by simp [dropR, g])
  | true =>
    obtain ⟨g1, g2, g3⟩ := hasRoll_of g
    simp only [if_true]
    simp only [g2, g3, if_true]
    exact Ev.bind (implDrop_l0 l g1 i g2 g3 l [] [] (by simp) (by simp)) (ev_of_eq (fun _ => by simp [dropR, g]))
theorem FnExactDropRoll (l : List S66) (i : Int) (hb : l.length * 48 ≤ 140737488351232) (hw : ∀ y ∈ l, (y.f0.size ≤ 140737488351232) ∧ (y.f1.size ≤ 140737488351232) ∧ ((Lit.int .i64 y.f2).wf = true) ∧ ((Lit.int .i64 y.f3).wf = true)) (hi : (Lit.int .i64 i).wf = true) : ∃ k, laws_FnExactDropRoll.f k l i = some true := by
  obtain ⟨v, ⟨K0, e0⟩, hv⟩ := szRollS_ok l 1048576 (by omega) (by omega) (by omega) (fun x hx => ⟨(hw x hx).1, (hw x hx).2.1⟩)
  dsimp only at e0
  by_cases c : v < 0
  · exact ⟨K0, by simp (disch := omega) only [laws_FnExactDropRoll.f, e0, Option.bind_some, c, if_true, if_false]⟩
  obtain ⟨hl, hs⟩ := hv c
  have hs2 := toR_small l hs
  have hl2 : (l.map toR).length ≤ 1048576 := by simpa using hl
  have hb0 : (dropR (l.map toR) i).1.length ≤ 1048576 := dropR_len _ _ hl2
  obtain ⟨K1, e1⟩ := toRollS_copy l hl
  obtain ⟨K2, e2⟩ := specDropRoll_ok (l.map toR) i hl2 hs2
  obtain ⟨K3, e3⟩ := implDropRoll_ok (l.map toR) i hl2 hs2
  obtain ⟨K4, e4⟩ := eqRollS_same (l.map toR) (by omega)
  obtain ⟨K5, e5⟩ := eqRollS_same (dropR (l.map toR) i).1 (by omega)
  obtain ⟨K6, e6⟩ := markRollS_all (l.map toR) 1 (by omega) (by omega) (by omega)
  obtain ⟨K7, e7⟩ := markRollS_all (dropR (l.map toR) i).1 1 (by omega) (by omega) (by omega)
  obtain ⟨K8, e8⟩ := heldRollS_all (dropR (l.map toR) i).1.length 1 (by omega) (by omega) (by omega)
  have m0 : ¬ (1 + 4 * ((dropR (l.map toR) i).1.length : Int)) < 0 := by omega
  have m1 : ¬ (1 + 4 * ((l.map toR).length : Int)) < 0 := by omega
  dsimp only at e1 e2 e3 e4 e5 e6 e7 e8
  refine ⟨K0 + K1 + K2 + K3 + K4 + K5 + K6 + K7 + K8 + 6, ?_⟩
  simp (disch := omega) only [laws_FnExactDropRoll.f, e0, e1, e2, e3, e4, e5, e6, e7, e8, c, m0, m1, if_false, if_true, Option.bind_some, bnot_ne, Bool.false_eq_true]
  simp (disch := omega) only [laws_FnExactDropRoll.j0, e0, e1, e2, e3, e4, e5, e6, e7, e8, c, m0, m1, if_false, if_true, Option.bind_some, bnot_ne, Bool.false_eq_true]
  simp (disch := omega) only [laws_FnExactDropRoll.j1, e0, e1, e2, e3, e4, e5, e6, e7, e8, c, m0, m1, if_false, if_true, Option.bind_some, bnot_ne, Bool.false_eq_true]
  simp (disch := omega) only [laws_FnExactDropRoll.j2, e0, e1, e2, e3, e4, e5, e6, e7, e8, c, m0, m1, if_false, if_true, Option.bind_some, bnot_ne, Bool.false_eq_true]

end Go.Proofs.Ytockbgeloiekdaa.LDropRoll
