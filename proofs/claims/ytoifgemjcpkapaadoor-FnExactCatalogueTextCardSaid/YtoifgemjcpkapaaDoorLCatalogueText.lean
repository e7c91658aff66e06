/- For every input the law FnExactCatalogueText answers true, after some number of rounds; the conditions are the input's own bounds. -/
import Derived.Test.YtoifgemjcpkapaaDoorQFnExactCatalogueTextx7
import Derived.Test.YtoifgemjcpkapaaDoorBase
import Derived.Lib.ItoaNum
import Derived.Lib.ItoaMem
namespace Go.Proofs.YtoifgemjcpkapaaDoor.LCatalogueText
open Go Go.RowKit Go.Proofs.YtoifgemjcpkapaaDoor.QFnExactCatalogueText Go.Proofs.YtoifgemjcpkapaaDoorW.PrintWords Go.Proofs.YtoifgemjcpkapaaDoorW.PrintLast Go.Proofs.YtoifgemjcpkapaaDoorW.PrintMore Go.Proofs.YtoifgemjcpkapaaDoor.Base
set_option linter.unusedVariables false
set_option linter.unusedSimpArgs false

/-! slices of rolls: copied, held against each other, measured -/
def toR (x : S60) : S63 := ⟨x.f0, x.f1, x.f2, x.f3⟩
theorem rdL_mid (pre suf : List S60) (x : S60) : rd_T60 (pre ++ x :: suf) (pre.length : Int) = x := getD_mid _ _ _ _ _ (by simp)
theorem rdR_mid (pre suf : List S63) (x : S63) : rd_T63 (pre ++ x :: suf) (pre.length : Int) = x := getD_mid _ _ _ _ _ (by simp)
theorem rdR_app (pre suf : List S63) (j : Int) (h0 : 0 ≤ j) (h : j < pre.length) : rd_T63 (pre ++ suf) j = rd_T63 pre j := by
  simp only [rd_T63, List.getD_eq_getElem?_getD]
  rw [List.getElem?_append_left (by omega)]

theorem toRollS_l0 (suf : List S60) : ∀ pre : List S60, (pre ++ suf).length ≤ 9223372036854775806 →
    Ev (fun k => laws_toRollS.l0 k (pre ++ suf) (pre.map toR ++ List.replicate suf.length z63) (pre.length : Int)) ((pre ++ suf).map toR) := by
  induction suf with
  | nil =>
    intro pre _
    refine ev_step ev_const (fun k => ?_)
    rw [laws_toRollS.l0, if_neg (by simp)]
    simp
  | cons x suf ih =>
    intro pre hl
    have h := ih (pre ++ [x]) (by simp at hl ⊢; omega)
    rw [snoc_app, snoc_leni, List.map_append, List.map_cons, List.map_nil, snoc_app] at h
    have hl' : (pre.length : Int) < ((pre ++ x :: suf).length : Int) := by simp; omega
    refine ev_step h (fun k => ?_)
    rw [laws_toRollS.l0, if_pos hl', if_pos (by omega), rdL_mid]
    simp only [laws_toRoll.f, Option.bind_some]
    rw [if_pos (by simp; omega), wrapS (by omega) (by simp at hl; omega), List.length_cons, List.replicate_succ, set_mid _ _ _ _ _ (by simp)]
    rfl
theorem toRollS_copy (l : List S60) (h : l.length ≤ 1048576) : Ev (fun k => laws_toRollS.f k l) (l.map toR) := by
  have := toRollS_l0 l [] (by simp; omega)
  refine Ev.congr (fun k => ?_) this
  rw [laws_toRollS.f, if_pos (by omega), if_pos (by omega)]
  simp

theorem eqRollS_l0 (suf : List S63) : ∀ pre : List S63, (pre ++ suf).length ≤ 9223372036854775806 → Ev (fun k => laws_eqRollS.l0 k (pre ++ suf) (pre ++ suf) (pre.length : Int)) true := by
  induction suf with
  | nil =>
    intro pre _
    refine ev_step ev_const (fun k => ?_)
    rw [laws_eqRollS.l0, if_neg (by simp)]
  | cons x suf ih =>
    intro pre hl
    have h := ih (pre ++ [x]) (by simp at hl ⊢; omega)
    rw [snoc_app, snoc_leni] at h
    have hl' : (pre.length : Int) < ((pre ++ x :: suf).length : Int) := by simp; omega
    refine ev_step h (fun k => ?_)
    rw [laws_eqRollS.l0, if_pos hl', if_pos (by omega), if_pos hl']
    simp only [laws_eqRoll.f, if_true, Option.bind_some]
    rw [wrapS (by omega) (by simp at hl; omega)]
theorem eqRollS_same (l : List S63) (h : l.length ≤ 9223372036854775806) : Ev (fun k => laws_eqRollS.f k l l) true := by
  have := eqRollS_l0 l [] (by simpa using h)
  refine Ev.congr (fun k => ?_) this
  simp [laws_eqRollS.f]

theorem szRoll_ok (x0 x1 : ByteArray) (x2 x3 n : Int) (hn : n ≤ 1048576) (h0 : 0 ≤ n) (hs : x0.size ≤ 140737488351232) (ht : x1.size ≤ 140737488351232) :
    laws_szRoll.f x0 x1 x2 x3 n = some (if n - x0.size < 0 then -1 else if n - x0.size - x1.size < 0 then -1 else n - x0.size - x1.size) := by
  have w1 : wrap64 (n - x0.size) = n - x0.size := wrapS (by omega) (by omega)
  have w2 : wrap64 (n - x0.size - x1.size) = n - x0.size - x1.size := wrapS (by omega) (by omega)
  unfold laws_szRoll.f
  simp only [w1, w2]
  by_cases h1 : n - (x0.size : Int) < 0
  · simp [h1]
  · by_cases h2 : n - (x0.size : Int) - x1.size < 0
    · simp [h1, h2]
    · simp [h1, h2]
theorem szRollS_l0 (suf : List S60) : ∀ (pre : List S60) (n : Int), (pre ++ suf).length ≤ 9223372036854775806 → 0 ≤ n → n ≤ 1048576 → (∀ x ∈ suf, x.f0.size ≤ 140737488351232 ∧ x.f1.size ≤ 140737488351232) →
    ∃ v, Ev (fun k => laws_szRollS.l0 k (pre ++ suf) n (pre.length : Int)) v ∧ (¬ v < 0 → ∀ x ∈ suf, x.f0.size ≤ 1048576 ∧ x.f1.size ≤ 1048576) := by
  induction suf with
  | nil =>
    intro pre n _ _ _ _
    refine ⟨n, ev_step (f := fun _ => some _) (Ev.now _) (fun k => ?_), fun _ x hx => absurd hx List.not_mem_nil⟩
    rw [laws_szRollS.l0, if_neg (by simp)]
  | cons x suf ih =>
    intro pre n hl h0 h1 hw
    have hl' : (pre.length : Int) < ((pre ++ x :: suf).length : Int) := by simp; omega
    have hwx := hw x List.mem_cons_self
    have hz := szRoll_ok x.f0 x.f1 x.f2 x.f3 n h1 h0 hwx.1 hwx.2
    have hwr : wrap64 ((pre.length : Int) + 1) = (pre.length : Int) + 1 := wrapS (by omega) (by simp at hl; omega)
    by_cases c : n - (x.f0.size : Int) < 0 ∨ n - (x.f0.size : Int) - x.f1.size < 0
    · refine ⟨-1, ev_step (f := fun _ => some _) (Ev.now _) (fun k => ?_), fun h => absurd (by decide) h⟩
      rw [laws_szRollS.l0, if_pos hl', if_pos (by omega), rdL_mid, hz]
      simp only [Option.bind_some]
      rw [if_pos (by split <;> (try split) <;> omega)]
    · have c1 : ¬ n - (x.f0.size : Int) < 0 := fun h => c (.inl h)
      have c2 : ¬ n - (x.f0.size : Int) - x.f1.size < 0 := fun h => c (.inr h)
      obtain ⟨v, hv, hb⟩ := ih (pre ++ [x]) (n - x.f0.size - x.f1.size) (by simp at hl ⊢; omega) (by omega) (by omega) (fun y hy => hw y (List.mem_cons_of_mem _ hy))
      rw [snoc_app, snoc_leni] at hv
      refine ⟨v, ev_step hv (fun k => ?_), fun h y hy => ?_⟩
      · rw [laws_szRollS.l0, if_pos hl', if_pos (by omega), rdL_mid, hz, if_neg c1, if_neg c2]
        simp only [Option.bind_some]
        rw [if_neg (by omega), hwr]
      · rcases List.mem_cons.1 hy with rfl | hy
        · exact ⟨by omega, by omega⟩
        · exact hb h y hy
theorem szRollS_ok (l : List S60) (n : Int) (h0 : 0 ≤ n) (h1 : n ≤ 1048576) (hl : l.length ≤ 140737488351232) (hw : ∀ x ∈ l, x.f0.size ≤ 140737488351232 ∧ x.f1.size ≤ 140737488351232) :
    ∃ v, Ev (fun k => laws_szRollS.f k l n) v ∧ (¬ v < 0 → l.length ≤ 1048576 ∧ ∀ x ∈ l, x.f0.size ≤ 1048576 ∧ x.f1.size ≤ 1048576) := by
  have hwr : wrap64 (n - (l.length : Int)) = n - (l.length : Int) := wrapS (by omega) (by omega)
  by_cases c : n - (l.length : Int) < 0
  · refine ⟨-1, Ev.congr (f := fun _ => some _) (fun k => ?_) (Ev.now _), fun h => absurd (by decide) h⟩
    rw [laws_szRollS.f, hwr, if_pos c]
  · obtain ⟨v, hv, hb⟩ := szRollS_l0 l [] (n - l.length) (by simp; omega) (by omega) (by omega) hw
    refine ⟨v, Ev.congr (fun k => ?_) hv, fun h => ⟨by omega, hb h⟩⟩
    rw [laws_szRollS.f, hwr, if_neg c]
    rfl

/-! words, titles, catalogues -/
def letters (s : ByteArray) : Nat → Nat → Bool
  | 0, _ => true
  | d + 1, i => decide (97 ≤ bt s (i : Int) ∧ bt s (i : Int) ≤ 122) && letters s d (i + 1)
def wordOk (s : ByteArray) : Bool := letters s s.size 0 && decide (1 ≤ s.size ∧ s.size ≤ 12)
theorem caWord_l0 (s : ByteArray) (hs : s.size ≤ 1048576) (d : Nat) : ∀ i : Nat, i + d = s.size → Ev (fun k => spec_caWord.l0 k s (i : Int)) (letters s d i && decide (1 ≤ s.size ∧ s.size ≤ 12)) := by
  induction d with
  | zero =>
    intro i hi
    refine ev_step (f := fun _ => some _) (Ev.now _) (fun k => ?_)
    rw [spec_caWord.l0, if_neg (by omega)]
    by_cases h1 : 1 ≤ s.size
    · by_cases h2 : s.size ≤ 12
      · simp [spec_l1In.f, letters, h1, h2, show (s.size : Int) ≥ 1 by omega, show (s.size : Int) ≤ 12 by omega]
      · simp [spec_l1In.f, letters, h1, h2, show (s.size : Int) ≥ 1 by omega, show ¬ (s.size : Int) ≤ 12 by omega]
    · simp [spec_l1In.f, letters, h1, show ¬ (s.size : Int) ≥ 1 by omega]
  | succ d ih =>
    intro i hi
    have h := ih (i + 1) (by omega)
    have hw : wrap64 ((i : Int) + 1) = ((i + 1 : Nat) : Int) := by rw [wrapS (by omega) (by omega)]; simp
    by_cases c1 : bt s (i : Int) < 97
    · refine ev_step (f := fun _ => some _) (Ev.now _) (fun k => ?_)
      rw [spec_caWord.l0, if_pos (by omega), if_pos (by omega), if_pos c1]
      simp [letters, show ¬ 97 ≤ bt s (i : Int) by omega]
    by_cases c2 : bt s (i : Int) > 122
    · refine ev_step (f := fun _ => some _) (Ev.now _) (fun k => ?_)
      rw [spec_caWord.l0, if_pos (by omega), if_pos (by omega), if_neg c1, if_pos c2]
      simp [letters, show ¬ bt s (i : Int) ≤ 122 by omega]
    refine ev_step (ev_eq h ?_) (fun k => ?_)
    · simp [letters, show 97 ≤ bt s (i : Int) by omega, show bt s (i : Int) ≤ 122 by omega]
    · rw [spec_caWord.l0, if_pos (by omega), if_pos (by omega), if_neg c1, if_neg c2, hw]
theorem caWord_ok (s : ByteArray) (hs : s.size ≤ 1048576) : Ev (fun k => spec_caWord.f k s) (wordOk s) :=
  Ev.congr (fun _ => rfl) (caWord_l0 s hs s.size 0 (by omega))
theorem isWord_l0 (s : ByteArray) (hs : s.size ≤ 1048576) (d : Nat) : ∀ i : Nat, i + d = s.size → Ev (fun k => impl_isWord.l0 k s (s.size : Int) (i : Int)) (letters s d i && decide (1 ≤ s.size ∧ s.size ≤ 12)) := by
  induction d with
  | zero =>
    intro i hi
    refine ev_step (f := fun _ => some _) (Ev.now _) (fun k => ?_)
    rw [impl_isWord.l0, if_neg (by omega)]
    by_cases h1 : 1 ≤ s.size
    · by_cases h2 : s.size ≤ 12
      · simp [letters, h1, h2, show (s.size : Int) ≥ 1 by omega, show (s.size : Int) ≤ 12 by omega]
      · simp [letters, h1, h2, show (s.size : Int) ≥ 1 by omega, show ¬ (s.size : Int) ≤ 12 by omega]
    · simp [letters, h1, show ¬ (s.size : Int) ≥ 1 by omega]
  | succ d ih =>
    intro i hi
    have h := ih (i + 1) (by omega)
    have hw : wrap64 ((i : Int) + 1) = ((i + 1 : Nat) : Int) := by rw [wrapS (by omega) (by omega)]; simp
    by_cases c1 : bt s (i : Int) < 97
    · refine ev_step (f := fun _ => some _) (Ev.now _) (fun k => ?_)
      rw [impl_isWord.l0, if_pos (by omega), if_pos (by omega), if_pos (by omega), if_pos c1]
      simp [letters, show ¬ 97 ≤ bt s (i : Int) by omega]
    by_cases c2 : bt s (i : Int) > 122
    · refine ev_step (f := fun _ => some _) (Ev.now _) (fun k => ?_)
      rw [impl_isWord.l0, if_pos (by omega), if_pos (by omega), if_pos (by omega), if_neg c1, if_pos c2]
      simp [letters, show ¬ bt s (i : Int) ≤ 122 by omega]
    refine ev_step (ev_eq h ?_) (fun k => ?_)
    · simp [letters, show 97 ≤ bt s (i : Int) by omega, show bt s (i : Int) ≤ 122 by omega]
    · rw [impl_isWord.l0, if_pos (by omega), if_pos (by omega), if_pos (by omega), if_neg c1, if_neg c2, hw]
theorem isWord_ok (s : ByteArray) (hs : s.size ≤ 1048576) : Ev (fun k => impl_isWord.f k s) (wordOk s) :=
  Ev.congr (fun _ => rfl) (isWord_l0 s hs s.size 0 (by omega))

theorem caFind_l0 (t : ByteArray) (suf : List S63) : ∀ pre : List S63, (pre ++ suf).length ≤ 9223372036854775806 →
    Ev (fun k => spec_caFind.l0 k t (pre ++ suf) ((pre ++ suf).length : Int) (pre.length : Int)) (impl_findRoll.idx t (pre.length : Int) suf) := by
  induction suf with
  | nil =>
    intro pre _
    refine ev_step (f := fun _ => some _) (Ev.now _) (fun k => ?_)
    rw [spec_caFind.l0, if_neg (by simp)]
    rfl
  | cons x suf ih =>
    intro pre hl
    have h := ih (pre ++ [x]) (by simp at hl ⊢; omega)
    rw [snoc_app, snoc_leni] at h
    have hl' : (pre.length : Int) < ((pre ++ x :: suf).length : Int) := by simp; omega
    have hw : wrap64 ((pre.length : Int) + 1) = (pre.length : Int) + 1 := wrapS (by omega) (by simp at hl; omega)
    by_cases c : x.f0.toList = t.toList
    · refine ev_step (f := fun _ => some _) (Ev.now _) (fun k => ?_)
      rw [spec_caFind.l0, if_pos hl', if_pos (by omega), if_pos hl', rdR_mid, if_pos c, impl_findRoll.idx, if_pos c]
    · refine ev_step (ev_eq h (by rw [impl_findRoll.idx, if_neg c])) (fun k => ?_)
      rw [spec_caFind.l0, if_pos hl', if_pos (by omega), if_pos hl', rdR_mid, if_neg c, hw]
theorem caFind_ok (l : List S63) (t : ByteArray) (h : l.length ≤ 9223372036854775806) : Ev (fun k => spec_caFind.f k l t) (impl_findRoll.idx t 0 l) :=
  Ev.congr (fun _ => rfl) (caFind_l0 t l [] (by simpa using h))

def titled (t : ByteArray) (y : S63) : Bool := decide (y.f0.toList = t.toList)
theorem idx_some (t : ByteArray) (l : List S63) : ∀ (i : Int) (suf : List S63), l.any (titled t) = true → i ≤ impl_findRoll.idx t i (l ++ suf) ∧ impl_findRoll.idx t i (l ++ suf) < i + l.length := by
  induction l with
  | nil => intro i suf h; simp at h
  | cons x l ih =>
    intro i suf h
    simp only [List.cons_append, impl_findRoll.idx, List.length_cons]
    by_cases c : x.f0.toList = t.toList
    · rw [if_pos c]; omega
    · rw [if_neg c]
      have := ih (i + 1) suf (by simpa [titled, c] using h)
      omega
theorem idx_none (t : ByteArray) (l : List S63) : ∀ (i : Int) (suf : List S63), l.any (titled t) = false → impl_findRoll.idx t i (l ++ suf) = impl_findRoll.idx t (i + l.length) suf := by
  induction l with
  | nil => intro i suf h; simp
  | cons x l ih =>
    intro i suf h
    have c : ¬ x.f0.toList = t.toList := fun c => by simp [titled, c] at h
    simp only [List.cons_append, impl_findRoll.idx, List.length_cons]
    rw [if_neg c, ih (i + 1) suf (by simpa [titled, c] using h)]
    congr 1
    omega
theorem idx_neg (t : ByteArray) (l : List S63) : impl_findRoll.idx t 0 l ≥ 0 ↔ l.any (titled t) = true := by
  cases h : l.any (titled t) with
  | true =>
    have := idx_some t l 0 [] h
    rw [List.append_nil] at this
    simp; omega
  | false =>
    have := idx_none t l 0 [] h
    rw [List.append_nil] at this
    rw [this]
    simp [impl_findRoll.idx]
theorem idx_self (l suf : List S63) (x : S63) : impl_findRoll.idx x.f0 0 (l ++ x :: suf) = (l.length : Int) ↔ l.any (titled x.f0) = false := by
  cases h : l.any (titled x.f0) with
  | true =>
    have := idx_some x.f0 l 0 (x :: suf) h
    simp; omega
  | false =>
    have := idx_none x.f0 l 0 (x :: suf) h
    rw [this]
    simp [impl_findRoll.idx]

def yearsOk (pre : List S63) (x : S63) : Bool := decide (x.f3 ≥ 0 → ¬ (rd_T63 pre x.f3).f2 > x.f2)
def rollOk (pre : List S63) (x : S63) : Bool :=
  wordOk x.f0 && (wordOk x.f1 && (!(pre.any (titled x.f0)) && (decide (1800 ≤ x.f2 ∧ x.f2 ≤ 2100) && (decide (-1 ≤ x.f3 ∧ x.f3 ≤ (pre.length : Int) - 1) && yearsOk pre x))))
def goodFrom : List S63 → List S63 → Bool
  | _, [] => true
  | pre, x :: suf => rollOk pre x && goodFrom (pre ++ [x]) suf
/-- A valid catalogue. -/
def good (l : List S63) : Bool := goodFrom [] l && decide (l.length ≤ 30)

theorem caGood_j1 (x : S63) (pre suf : List S63) (n : Int) (b r : Bool) (hl : (pre ++ x :: suf).length ≤ 9223372036854775806) (hb : b = true → r = false)
    (hs : b = false → -1 ≤ x.f3 ∧ x.f3 ≤ (pre.length : Int) - 1) (h1 : b = false → yearsOk pre x = false → r = false)
    (h2 : b = false → yearsOk pre x = true → Ev (fun k => spec_caGood.l0 k (pre ++ x :: suf) (pre ++ x :: suf) n ((pre.length : Int) + 1)) r) :
    Ev (fun k => spec_caGood.j1 k (pre ++ x :: suf) (pre ++ x :: suf) n (pre.length : Int) b x.f0 x.f1 x.f2 x.f3) r := by
  have hw : wrap64 ((pre.length : Int) + 1) = (pre.length : Int) + 1 := wrapS (by omega) (by simp at hl; omega)
  cases b with
  | true =>
    obtain rfl := hb rfl
    refine ev_step ev_const (fun k => ?_)
    rw [spec_caGood.j1, if_pos rfl]
  | false =>
    have hs := hs rfl
    by_cases c : x.f3 ≥ 0
    · have e := rdR_app pre (x :: suf) x.f3 c (by omega)
      by_cases d : (rd_T63 pre x.f3).f2 > x.f2
      · obtain rfl := h1 rfl (by simp [yearsOk, c, d])
        refine ev_step ev_const (fun k => ?_)
        rw [spec_caGood.j1, if_neg (by decide), if_pos c, if_pos c, if_pos (by simp; omega), e, if_pos d]
      · refine ev_step (h2 rfl (decide_eq_true (fun _ => d))) (fun k => ?_)
        rw [spec_caGood.j1, if_neg (by decide), if_pos c, if_pos c, if_pos (by simp; omega), e, if_neg d, hw]
    · refine ev_step (h2 rfl (decide_eq_true (fun h => absurd h c))) (fun k => ?_)
      rw [spec_caGood.j1, if_neg (by decide), if_neg c, hw]

theorem caGood_l0 (suf : List S63) : ∀ pre : List S63, (pre ++ suf).length ≤ 1048576 → (∀ x ∈ suf, x.f0.size ≤ 1048576 ∧ x.f1.size ≤ 1048576) →
    Ev (fun k => spec_caGood.l0 k (pre ++ suf) (pre ++ suf) ((pre ++ suf).length : Int) (pre.length : Int)) (goodFrom pre suf && decide ((pre ++ suf).length ≤ 30)) := by
  induction suf with
  | nil =>
    intro pre _ _
    refine ev_step (f := fun _ => some _) (Ev.now _) (fun k => ?_)
    rw [spec_caGood.l0, if_neg (by simp)]
    simp [goodFrom]
    omega
  | cons x suf ih =>
    intro pre hl hz
    have h := ih (pre ++ [x]) (by simp at hl ⊢; omega) (fun y hy => hz y (List.mem_cons_of_mem _ hy))
    rw [snoc_app, snoc_leni] at h
    have hl' : (pre.length : Int) < ((pre ++ x :: suf).length : Int) := by simp; omega
    have hw1 : wrap64 ((pre.length : Int) - 1) = (pre.length : Int) - 1 := wrapS (by omega) (by simp at hl; omega)
    have J : ∀ b, (b = !(wordOk x.f0 && (wordOk x.f1 && (!(pre.any (titled x.f0)) && (decide (1800 ≤ x.f2 ∧ x.f2 ≤ 2100) && decide (-1 ≤ x.f3 ∧ x.f3 ≤ (pre.length : Int) - 1)))))) →
        Ev (fun k => spec_caGood.j1 k (pre ++ x :: suf) (pre ++ x :: suf) ((pre ++ x :: suf).length : Int) (pre.length : Int) b x.f0 x.f1 x.f2 x.f3) (goodFrom pre (x :: suf) && decide ((pre ++ x :: suf).length ≤ 30)) := by
      intro b hb
      refine caGood_j1 x pre suf _ b _ (by omega) (fun e => ?_) (fun e => ?_) (fun e e2 => ?_) (fun e e2 => ?_)
      · rw [e] at hb
        have hb2 := hb.symm
        simp only [Bool.not_eq_true', Bool.and_eq_false_iff] at hb2
        have : rollOk pre x = false := by
          simp only [rollOk, Bool.and_eq_false_iff]
          rcases hb2 with h | h | h | h | h
          · exact .inl h
          · exact .inr (.inl h)
          · exact .inr (.inr (.inl h))
          · exact .inr (.inr (.inr (.inl h)))
          · exact .inr (.inr (.inr (.inr (.inl h))))
        simp [goodFrom, this]
      · rw [e] at hb
        have hb2 := hb.symm
        simp only [Bool.not_eq_false', Bool.and_eq_true, decide_eq_true_eq] at hb2
        exact hb2.2.2.2.2
      · simp [goodFrom, rollOk, e2]
      · rw [e] at hb
        have hb2 := hb.symm
        simp only [Bool.not_eq_false', Bool.and_eq_true] at hb2
        have : rollOk pre x = true := by
          simp only [rollOk, Bool.and_eq_true]
          exact ⟨hb2.1, hb2.2.1, hb2.2.2.1, hb2.2.2.2.1, hb2.2.2.2.2, e2⟩
        have e3 : goodFrom pre (x :: suf) = goodFrom (pre ++ [x]) suf := by simp [goodFrom, this]
        rw [e3]
        exact h
    have hzx := hz x List.mem_cons_self
    obtain ⟨K1, e1⟩ := caWord_ok x.f0 hzx.1
    obtain ⟨K2, e2⟩ := caWord_ok x.f1 hzx.2
    obtain ⟨K3, e3⟩ := caFind_ok (pre ++ x :: suf) x.f0 (by omega)
    dsimp only at e1 e2 e3
    have go : ∀ b, (b = !(wordOk x.f0 && (wordOk x.f1 && (!(pre.any (titled x.f0)) && (decide (1800 ≤ x.f2 ∧ x.f2 ≤ 2100) && decide (-1 ≤ x.f3 ∧ x.f3 ≤ (pre.length : Int) - 1)))))) →
        (∀ k, K1 ≤ k → K2 ≤ k → K3 ≤ k → spec_caGood.l0 (k + 1) (pre ++ x :: suf) (pre ++ x :: suf) ((pre ++ x :: suf).length : Int) (pre.length : Int) = spec_caGood.j1 k (pre ++ x :: suf) (pre ++ x :: suf) ((pre ++ x :: suf).length : Int) (pre.length : Int) b x.f0 x.f1 x.f2 x.f3) →
        Ev (fun k => spec_caGood.l0 k (pre ++ x :: suf) (pre ++ x :: suf) ((pre ++ x :: suf).length : Int) (pre.length : Int)) (goodFrom pre (x :: suf) && decide ((pre ++ x :: suf).length ≤ 30)) := by
      intro b hb hk
      obtain ⟨K, hK⟩ := J b hb
      refine ⟨K + K1 + K2 + K3 + 1, fun k hk2 => ?_⟩
      obtain ⟨m, rfl⟩ : ∃ m, k = m + 1 := ⟨k - 1, by omega⟩
      dsimp only
      rw [hk m (by omega) (by omega) (by omega)]
      exact hK m (by omega)
    have st : ∀ k, spec_caGood.l0 (k + 1) (pre ++ x :: suf) (pre ++ x :: suf) ((pre ++ x :: suf).length : Int) (pre.length : Int) = _ := fun k => by
      rw [spec_caGood.l0, if_pos hl', if_pos (by omega), if_pos hl', rdR_mid]
    cases w0 : wordOk x.f0 with
    | false =>
      refine go true (by simp [w0]) (fun k h1 h2 h3 => ?_)
      rw [st, e1 k h1, w0]; simp
    | true =>
      cases w1 : wordOk x.f1 with
      | false =>
        refine go true (by simp [w1]) (fun k h1 h2 h3 => ?_)
        rw [st, e1 k h1, w0]; simp only [Option.bind_some, if_true]; rw [e2 k h2, w1]; simp
      | true =>
        cases ti : pre.any (titled x.f0) with
        | true =>
          have ne : ¬ impl_findRoll.idx x.f0 0 (pre ++ x :: suf) = (pre.length : Int) := fun q => by
            have := (idx_self pre suf x).1 q; rw [ti] at this; cases this
          refine go true (by simp [ti]) (fun k h1 h2 h3 => ?_)
          rw [st, e1 k h1, w0]; simp only [Option.bind_some, if_true]; rw [e2 k h2, w1]; simp only [Option.bind_some, if_true]; rw [e3 k h3]; simp only [Option.bind_some]; rw [if_neg ne]
        | false =>
          have eq := (idx_self pre suf x).2 ti
          by_cases y1 : 1800 ≤ x.f2 ∧ x.f2 ≤ 2100
          · have l1 : spec_l1In.f x.f2 1800 2100 = some true := by simp [spec_l1In.f, y1.1, y1.2]
            by_cases y2 : -1 ≤ x.f3 ∧ x.f3 ≤ (pre.length : Int) - 1
            · have l2 : spec_l1In.f x.f3 (-1) ((pre.length : Int) - 1) = some true := by simp [spec_l1In.f, y2.1, y2.2]
              refine go false (by simp [w0, w1, ti, y1, y2]) (fun k h1 h2 h3 => ?_)
              rw [st, e1 k h1, w0]; simp only [Option.bind_some, if_true]; rw [e2 k h2, w1]; simp only [Option.bind_some, if_true]; rw [e3 k h3]; simp only [Option.bind_some]; rw [if_pos eq, l1]; simp only [Option.bind_some, if_true]; rw [hw1, l2]; simp
            · have l2 : spec_l1In.f x.f3 (-1) ((pre.length : Int) - 1) = some false := by
                unfold spec_l1In.f
                by_cases z : x.f3 ≥ -1
                · rw [if_pos z]; have : ¬ x.f3 ≤ (pre.length : Int) - 1 := fun q => y2 ⟨z, q⟩
                  simp [this]
                · rw [if_neg z]
              refine go true (by simp [y2]) (fun k h1 h2 h3 => ?_)
              rw [st, e1 k h1, w0]; simp only [Option.bind_some, if_true]; rw [e2 k h2, w1]; simp only [Option.bind_some, if_true]; rw [e3 k h3]; simp only [Option.bind_some]; rw [if_pos eq, l1]; simp only [Option.bind_some, if_true]; rw [hw1, l2]; simp
          · have l1 : spec_l1In.f x.f2 1800 2100 = some false := by
              unfold spec_l1In.f
              by_cases z : x.f2 ≥ 1800
              · rw [if_pos z]; have : ¬ x.f2 ≤ 2100 := fun q => y1 ⟨z, q⟩
                simp [this]
              · rw [if_neg z]
            refine go true (by simp [y1]) (fun k h1 h2 h3 => ?_)
            rw [st, e1 k h1, w0]; simp only [Option.bind_some, if_true]; rw [e2 k h2, w1]; simp only [Option.bind_some, if_true]; rw [e3 k h3]; simp only [Option.bind_some]; rw [if_pos eq, l1]; simp
theorem caGood_ok (l : List S63) (h : l.length ≤ 1048576) (hz : ∀ x ∈ l, x.f0.size ≤ 1048576 ∧ x.f1.size ≤ 1048576) : Ev (fun k => spec_caGood.f k l) (good l) :=
  Ev.congr (fun _ => rfl) (caGood_l0 l [] (by simpa using h) hz)

theorem isCat_j1 (x : S63) (pre suf : List S63) (n : Int) (b r : Bool) (hl : (pre ++ x :: suf).length ≤ 9223372036854775806) (hb : b = true → r = false)
    (hs : b = false → -1 ≤ x.f3 ∧ x.f3 ≤ (pre.length : Int) - 1) (h1 : b = false → yearsOk pre x = false → r = false) (h3 : b = false → pre.any (titled x.f0) = true → r = false)
    (h2 : b = false → yearsOk pre x = true → pre.any (titled x.f0) = false → Ev (fun k => impl_IsCatalogue.l0 k (pre ++ x :: suf) (pre ++ x :: suf) n ((pre.length : Int) + 1)) r) :
    Ev (fun k => impl_IsCatalogue.j1 k (pre ++ x :: suf) (pre.length : Int) (pre ++ x :: suf) n (pre.length : Int) b x.f0 x.f1 x.f2 x.f3) r := by
  have hw : wrap64 ((pre.length : Int) + 1) = (pre.length : Int) + 1 := wrapS (by omega) (by simp at hl; omega)
  have ht : (pre ++ x :: suf).take ((pre.length : Int)).toNat = pre := by simp
  cases b with
  | true =>
    obtain rfl := hb rfl
    refine ev_step ev_const (fun k => ?_)
    rw [impl_IsCatalogue.j1, if_pos rfl]
  | false =>
    have hs := hs rfl
    have hle : (pre.length : Int) ≤ ((pre ++ x :: suf).length : Int) := by simp; omega
    have hn := idx_neg x.f0 pre
    by_cases c : x.f3 ≥ 0
    · have e := rdR_app pre (x :: suf) x.f3 c (by omega)
      by_cases d : (rd_T63 pre x.f3).f2 > x.f2
      · obtain rfl := h1 rfl (by simp [yearsOk, c, d])
        refine ev_step ev_const (fun k => ?_)
        rw [impl_IsCatalogue.j1, if_neg (by decide), if_pos c, if_pos c, if_pos (by simp; omega), e, if_pos d]
      · have y : yearsOk pre x = true := decide_eq_true (fun _ => d)
        cases q : pre.any (titled x.f0) with
        | true =>
          obtain rfl := h3 rfl q
          refine ev_step ev_const (fun k => ?_)
          rw [impl_IsCatalogue.j1, if_neg (by decide), if_pos c, if_pos c, if_pos (by simp; omega), e, if_neg d, if_pos (by omega), if_pos hle, ht, impl_findRoll.f]
          simp only [Option.bind_some]
          rw [if_pos (hn.2 q)]
        | false =>
          refine ev_step (h2 rfl y q) (fun k => ?_)
          rw [impl_IsCatalogue.j1, if_neg (by decide), if_pos c, if_pos c, if_pos (by simp; omega), e, if_neg d, if_pos (by omega), if_pos hle, ht, impl_findRoll.f]
          simp only [Option.bind_some]
          rw [if_neg (fun z => by have := hn.1 z; rw [q] at this; cases this), hw]
    · have y : yearsOk pre x = true := decide_eq_true (fun h => absurd h c)
      cases q : pre.any (titled x.f0) with
      | true =>
        obtain rfl := h3 rfl q
        refine ev_step ev_const (fun k => ?_)
        rw [impl_IsCatalogue.j1, if_neg (by decide), if_neg c, if_pos (by omega), if_pos hle, ht, impl_findRoll.f]
        simp only [Option.bind_some]
        rw [if_pos (hn.2 q)]
      | false =>
        refine ev_step (h2 rfl y q) (fun k => ?_)
        rw [impl_IsCatalogue.j1, if_neg (by decide), if_neg c, if_pos (by omega), if_pos hle, ht, impl_findRoll.f]
        simp only [Option.bind_some]
        rw [if_neg (fun z => by have := hn.1 z; rw [q] at this; cases this), hw]

theorem isCat_l0 (suf : List S63) : ∀ pre : List S63, (pre ++ suf).length ≤ 1048576 → (∀ x ∈ suf, x.f0.size ≤ 1048576 ∧ x.f1.size ≤ 1048576) →
    Ev (fun k => impl_IsCatalogue.l0 k (pre ++ suf) (pre ++ suf) ((pre ++ suf).length : Int) (pre.length : Int)) (goodFrom pre suf && decide ((pre ++ suf).length ≤ 30)) := by
  induction suf with
  | nil =>
    intro pre _ _
    refine ev_step (f := fun _ => some _) (Ev.now _) (fun k => ?_)
    rw [impl_IsCatalogue.l0, if_neg (by simp)]
    simp [goodFrom]
    omega
  | cons x suf ih =>
    intro pre hl hz
    have h := ih (pre ++ [x]) (by simp at hl ⊢; omega) (fun y hy => hz y (List.mem_cons_of_mem _ hy))
    rw [snoc_app, snoc_leni] at h
    have hl' : (pre.length : Int) < ((pre ++ x :: suf).length : Int) := by simp; omega
    have J : ∀ b, (b = !(wordOk x.f0 && (wordOk x.f1 && (decide (1800 ≤ x.f2 ∧ x.f2 ≤ 2100) && decide (-1 ≤ x.f3 ∧ x.f3 ≤ (pre.length : Int) - 1))))) →
        Ev (fun k => impl_IsCatalogue.j1 k (pre ++ x :: suf) (pre.length : Int) (pre ++ x :: suf) ((pre ++ x :: suf).length : Int) (pre.length : Int) b x.f0 x.f1 x.f2 x.f3) (goodFrom pre (x :: suf) && decide ((pre ++ x :: suf).length ≤ 30)) := by
      intro b hb
      refine isCat_j1 x pre suf _ b _ (by omega) (fun e => ?_) (fun e => ?_) (fun e e2 => ?_) (fun e e2 => ?_) (fun e e2 e4 => ?_)
      · rw [e] at hb
        have hb2 := hb.symm
        simp only [Bool.not_eq_true', Bool.and_eq_false_iff] at hb2
        have : rollOk pre x = false := by
          simp only [rollOk, Bool.and_eq_false_iff]
          rcases hb2 with h | h | h | h
          · exact .inl h
          · exact .inr (.inl h)
          · exact .inr (.inr (.inr (.inl h)))
          · exact .inr (.inr (.inr (.inr (.inl h))))
        simp [goodFrom, this]
      · rw [e] at hb
        have hb2 := hb.symm
        simp only [Bool.not_eq_false', Bool.and_eq_true, decide_eq_true_eq] at hb2
        exact hb2.2.2.2
      · simp [goodFrom, rollOk, e2]
      · simp [goodFrom, rollOk, e2]
      · rw [e] at hb
        have hb2 := hb.symm
        simp only [Bool.not_eq_false', Bool.and_eq_true] at hb2
        have : rollOk pre x = true := by
          simp only [rollOk, Bool.and_eq_true]
          exact ⟨hb2.1, hb2.2.1, by rw [e4]; rfl, hb2.2.2.1, hb2.2.2.2, e2⟩
        have e3 : goodFrom pre (x :: suf) = goodFrom (pre ++ [x]) suf := by simp [goodFrom, this]
        rw [e3]
        exact h
    have hzx := hz x List.mem_cons_self
    obtain ⟨K1, e1⟩ := isWord_ok x.f0 hzx.1
    obtain ⟨K2, e2⟩ := isWord_ok x.f1 hzx.2
    dsimp only at e1 e2
    have go : ∀ b, (b = !(wordOk x.f0 && (wordOk x.f1 && (decide (1800 ≤ x.f2 ∧ x.f2 ≤ 2100) && decide (-1 ≤ x.f3 ∧ x.f3 ≤ (pre.length : Int) - 1))))) →
        (∀ k, K1 ≤ k → K2 ≤ k → impl_IsCatalogue.l0 (k + 1) (pre ++ x :: suf) (pre ++ x :: suf) ((pre ++ x :: suf).length : Int) (pre.length : Int) = impl_IsCatalogue.j1 k (pre ++ x :: suf) (pre.length : Int) (pre ++ x :: suf) ((pre ++ x :: suf).length : Int) (pre.length : Int) b x.f0 x.f1 x.f2 x.f3) →
        Ev (fun k => impl_IsCatalogue.l0 k (pre ++ x :: suf) (pre ++ x :: suf) ((pre ++ x :: suf).length : Int) (pre.length : Int)) (goodFrom pre (x :: suf) && decide ((pre ++ x :: suf).length ≤ 30)) := by
      intro b hb hk
      obtain ⟨K, hK⟩ := J b hb
      refine ⟨K + K1 + K2 + 1, fun k hk2 => ?_⟩
      obtain ⟨m, rfl⟩ : ∃ m, k = m + 1 := ⟨k - 1, by omega⟩
      dsimp only
      rw [hk m (by omega) (by omega)]
      exact hK m (by omega)
    have st : ∀ k, impl_IsCatalogue.l0 (k + 1) (pre ++ x :: suf) (pre ++ x :: suf) ((pre ++ x :: suf).length : Int) (pre.length : Int) = _ := fun k => by
      rw [impl_IsCatalogue.l0, if_pos hl', if_pos (by omega), if_pos hl', rdR_mid]
    cases w0 : wordOk x.f0 with
    | false =>
      refine go true (by simp [w0]) (fun k h1 h2 => ?_)
      rw [st, e1 k h1, w0]; simp
    | true =>
      cases w1 : wordOk x.f1 with
      | false =>
        refine go true (by simp [w1]) (fun k h1 h2 => ?_)
        rw [st, e1 k h1, w0]; simp only [Option.bind_some, if_true]; rw [e2 k h2, w1]; simp
      | true =>
        by_cases y1 : x.f2 < 1800
        · refine go true (by rw [show decide (1800 ≤ x.f2 ∧ x.f2 ≤ 2100) = false from decide_eq_false (fun z => by omega)]; simp) (fun k h1 h2 => ?_)
          rw [st, e1 k h1, w0]; simp only [Option.bind_some, if_true]; rw [e2 k h2, w1]; simp only [Option.bind_some, if_true]; rw [if_pos y1]
        by_cases y2 : x.f2 > 2100
        · refine go true (by rw [show decide (1800 ≤ x.f2 ∧ x.f2 ≤ 2100) = false from decide_eq_false (fun z => by omega)]; simp) (fun k h1 h2 => ?_)
          rw [st, e1 k h1, w0]; simp only [Option.bind_some, if_true]; rw [e2 k h2, w1]; simp only [Option.bind_some, if_true]; rw [if_neg y1, if_pos y2]
        by_cases y3 : x.f3 < -1
        · refine go true (by rw [show decide (-1 ≤ x.f3 ∧ x.f3 ≤ (pre.length : Int) - 1) = false from decide_eq_false (fun z => by omega)]; simp) (fun k h1 h2 => ?_)
          rw [st, e1 k h1, w0]; simp only [Option.bind_some, if_true]; rw [e2 k h2, w1]; simp only [Option.bind_some, if_true]; rw [if_neg y1, if_neg y2, if_pos y3]
        have d1 : decide (1800 ≤ x.f2 ∧ x.f2 ≤ 2100) = true := decide_eq_true (by omega)
        have d2 : decide (x.f3 ≥ (pre.length : Int)) = !(decide (-1 ≤ x.f3 ∧ x.f3 ≤ (pre.length : Int) - 1)) := by
          by_cases z : x.f3 ≥ (pre.length : Int)
          · rw [show decide (-1 ≤ x.f3 ∧ x.f3 ≤ (pre.length : Int) - 1) = false from decide_eq_false (fun q => by omega)]; simp [z]
          · rw [show decide (-1 ≤ x.f3 ∧ x.f3 ≤ (pre.length : Int) - 1) = true from decide_eq_true (by omega)]; simp [z]
        refine go (decide (x.f3 ≥ (pre.length : Int))) (by rw [d1, d2, w0, w1]; simp) (fun k h1 h2 => ?_)
        rw [st, e1 k h1, w0]; simp only [Option.bind_some, if_true]; rw [e2 k h2, w1]; simp only [Option.bind_some, if_true]; rw [if_neg y1, if_neg y2, if_neg y3]
theorem isCat_ok (l : List S63) (h : l.length ≤ 1048576) (hz : ∀ x ∈ l, x.f0.size ≤ 1048576 ∧ x.f1.size ≤ 1048576) : Ev (fun k => impl_IsCatalogue.f k l) (good l) :=
  Ev.congr (fun _ => rfl) (isCat_l0 l [] (by simpa using h) hz)

theorem toR_small (l : List S60) (h : ∀ x ∈ l, x.f0.size ≤ 1048576 ∧ x.f1.size ≤ 1048576) : ∀ y ∈ l.map toR, y.f0.size ≤ 1048576 ∧ y.f1.size ≤ 1048576 := by
  intro y hy
  obtain ⟨x, hx, rfl⟩ := List.mem_map.1 hy
  exact h x hx

/-! the decimal numeral, as the model writes it -/
theorem bytes_append (a b : List UInt8) : (⟨a.toArray⟩ : ByteArray) ++ ⟨b.toArray⟩ = ⟨(a ++ b).toArray⟩ := by
  apply ByteArray.ext
  rw [ByteArray.data_append]
  simp
theorem bytes_size (a : List UInt8) : (⟨a.toArray⟩ : ByteArray).size = a.length := by simp [ByteArray.size]
theorem dec_len (k n : Nat) (hn : n < 10 ^ (k + 1)) : (Lib.decDigits n).length ≤ k + 1 := by
  induction k generalizing n with
  | zero =>
    simp at hn
    rw [Lib.decDigits_one hn]
    simp
  | succ k ih =>
    have hn' : n < 10 * 10 ^ (k + 1) := by rw [Nat.pow_succ] at hn; omega
    by_cases h : n < 10
    · rw [Lib.decDigits_one h]; simp
    · have := ih (n / 10) (by omega)
      rw [Lib.decDigits, dif_neg h, List.length_append]
      simp only [List.length_cons, List.length_nil]
      omega
theorem num_ev (u : Nat) (hu : u < 9223372036854775807) : Ev (fun k => spec_l1Num.f k (u : Int)) (⟨(Lib.decDigits u).toArray⟩ : ByteArray) := by
  induction u using Nat.strongRecOn with
  | _ u ih =>
    by_cases h : u < 10
    · refine Ev.step (f := fun _ => some (⟨(Lib.decDigits u).toArray⟩ : ByteArray)) (fun k => ?_) (Ev.now _)
      simp only [spec_l1Num.f]
      rw [if_pos (by omega), Lib.decDigits_one h, wrapS (by omega) (by omega), Int.emod_eq_of_lt (by omega) (by omega)]
      congr 2
    · have hd : wrap64 (Int.tdiv (u : Int) 10) = ((u / 10 : Nat) : Int) := by
        rw [Int.tdiv_eq_ediv_of_nonneg (by omega), wrapS (by omega) (by omega)]
        omega
      have hm : (wrap64 (48 + Int.tmod (u : Int) 10)) % 256 = ((48 + u % 10 : Nat) : Int) := by
        rw [Int.tmod_eq_emod_of_nonneg (by omega), wrapS (by omega) (by omega)]
        omega
      have hl : (Lib.decDigits (u / 10)).length ≤ 19 := dec_len 18 (u / 10) (by omega)
      have hc : (strOfNums [((48 + u % 10 : Nat) : Int)]) = (⟨[UInt8.ofNat (48 + u % 10)].toArray⟩ : ByteArray) := rfl
      refine Ev.step (f := fun k => (spec_l1Num.f k ((u / 10 : Nat) : Int)).bind fun t => if t.size + (strOfNums [((48 + u % 10 : Nat) : Int)]).size ≤ 9223372036854775807 then some (t ++ strOfNums [((48 + u % 10 : Nat) : Int)]) else none) (fun k => ?_) ?_
      · simp only [spec_l1Num.f]
        rw [if_neg (by omega), hd, hm]
        rfl
      · refine Ev.bind (ih (u / 10) (by omega) (by omega)) ?_
        refine Ev.congr (f := fun _ => some (⟨(Lib.decDigits u).toArray⟩ : ByteArray)) (fun k => ?_) (Ev.now _)
        rw [hc, if_pos (by simp [ByteArray.size]; omega), bytes_append, Lib.decDigits.eq_1 u, dif_neg h]
theorem num_int (a : Int) (h0 : 0 ≤ a) (h1 : a < 9223372036854775807) : Ev (fun k => spec_l1Num.f k a) (⟨(Lib.itoa a).toArray⟩ : ByteArray) := by
  obtain ⟨u, rfl⟩ : ∃ u : Nat, a = u := ⟨a.toNat, by omega⟩
  rw [Lib.itoa_nonneg]
  exact num_ev u (by omega)
theorem itoa_len (a : Int) (h0 : 0 ≤ a) (h1 : a < 9223372036854775807) : (Lib.itoa a).length ≤ 19 := by
  obtain ⟨u, rfl⟩ : ∃ u : Nat, a = u := ⟨a.toNat, by omega⟩
  rw [Lib.itoa_nonneg]
  exact dec_len 18 u (by omega)

/-! the text of a catalogue -/
def rollB (x : S63) : Bool := decide (x.f0.size ≤ 12 ∧ x.f1.size ≤ 12 ∧ 1800 ≤ x.f2 ∧ x.f2 ≤ 2100 ∧ -1 ≤ x.f3 ∧ x.f3 ≤ 1048576)
theorem goodFrom_all (suf : List S63) : ∀ pre : List S63, pre.length + suf.length ≤ 1048576 → goodFrom pre suf = true → suf.all rollB = true := by
  induction suf with
  | nil => intro pre _ _; rfl
  | cons x suf ih =>
    intro pre hl h
    simp only [goodFrom, Bool.and_eq_true] at h
    have h2 := ih (pre ++ [x]) (by simp at hl ⊢; omega) h.2
    have h1 := h.1
    simp only [rollOk, Bool.and_eq_true, wordOk, decide_eq_true_eq] at h1
    obtain ⟨⟨_, a1, a2⟩, ⟨_, b1, b2⟩, _, c1, d1, _⟩ := h1
    rw [List.all_cons, h2, Bool.and_true]
    exact decide_eq_true (by simp at hl; omega)
theorem good_all (l : List S63) (h : l.length ≤ 1048576) (g : good l = true) : l.all rollB = true := by
  unfold good at g
  exact goodFrom_all l [] (by simpa using h) (Bool.and_eq_true_iff.1 g).1
theorem num_eq (n : Int) : impl_CatalogueText.num n = (⟨(Lib.itoa n).toArray⟩ : ByteArray) := by
  rw [impl_CatalogueText.num, DoorLib.wordsOf, List.map_cons, List.map_nil, Lib.join_one]
theorem num_small (n : Int) (h0 : 0 ≤ n) (h1 : n < 9223372036854775807) : (impl_CatalogueText.num n).size ≤ 19 := by
  rw [num_eq, bytes_size]
  exact itoa_len n h0 h1
theorem num_spec (n : Int) (h0 : 0 ≤ n) (h1 : n < 9223372036854775807) : Ev (fun k => spec_l1Num.f k n) (impl_CatalogueText.num n) := by
  rw [num_eq]
  exact num_int n h0 h1
theorem src_small (n : Int) (h0 : -1 ≤ n) (h1 : n < 9223372036854775807) : (impl_CatalogueText.src n).size ≤ 19 := by
  unfold impl_CatalogueText.src
  split
  · exact num_small n ‹_› h1
  · show 1 ≤ 19; omega
theorem specCat_l0 (suf : List S63) (hs : suf.all rollB = true) : ∀ (pre : List S63) (acc : ByteArray), (pre ++ suf).length ≤ 1048576 → acc.size ≤ 400 * pre.length →
    Ev (fun k => spec_caText.l0 k acc (pre ++ suf) ((pre ++ suf).length : Int) (pre.length : Int)) (⟨(acc.data.toList ++ suf.flatMap impl_CatalogueText.line).toArray⟩ : ByteArray) := by
  induction suf with
  | nil =>
    intro pre acc hl ha
    refine ev_step (f := fun _ => some _) (Ev.now _) (fun k => ?_)
    rw [spec_caText.l0, if_neg (by simp), List.flatMap_nil, List.append_nil]
  | cons x suf ih =>
    intro pre acc hl ha
    simp only [List.all_cons, Bool.and_eq_true] at hs
    have hx := of_decide_eq_true hs.1
    have hp0 : pre.length + 1 ≤ 1048576 := by simp at hl; omega
    have hl' : (pre.length : Int) < ((pre ++ x :: suf).length : Int) := by simp; omega
    have hw : wrap64 ((pre.length : Int) + 1) = (pre.length : Int) + 1 := wrapS (by omega) (by omega)
    have hnn : (0 : Int) ≤ (pre.length : Int) := by omega
    have e2 := num_spec x.f2 (by omega) (by omega)
    have n2 := num_small x.f2 (by omega) (by omega)
    have ih2 := ih hs.2 (pre ++ [x])
    rw [snoc_app, snoc_leni] at ih2
    have E32 : (⟨#[32]⟩ : ByteArray).size = 1 := rfl
    have E10 : (⟨#[10]⟩ : ByteArray).size = 1 := rfl
    have E45 : (⟨#[45, 10]⟩ : ByteArray).size = 2 := rfl
    have hlen1 : (pre ++ [x]).length = pre.length + 1 := by simp
    obtain ⟨K2, e2⟩ := e2
    dsimp only at e2
    by_cases c : x.f3 < 0
    · have hsrc : impl_CatalogueText.src x.f3 = (⟨#[45]⟩ : ByteArray) := by unfold impl_CatalogueText.src; rw [if_neg (by omega)]
      have hline : ∀ T : ByteArray, impl_CatalogueText.num x.f2 = T → ((acc ++ (((((x.f0 ++ (⟨#[32]⟩ : ByteArray)) ++ x.f1) ++ (⟨#[32]⟩ : ByteArray)) ++ T) ++ (⟨#[32]⟩ : ByteArray))) ++ (⟨#[45, 10]⟩ : ByteArray)).data.toList = acc.data.toList ++ impl_CatalogueText.line x := by
        intro T hT
        rw [impl_CatalogueText.line, impl_CatalogueText.lineB, hsrc, hT]
        simp only [ByteArray.data_append, Array.toList_append, List.append_assoc]
        rfl
      generalize impl_CatalogueText.num x.f2 = T at e2 n2 hline
      have h := ih2 ((acc ++ (((((x.f0 ++ (⟨#[32]⟩ : ByteArray)) ++ x.f1) ++ (⟨#[32]⟩ : ByteArray)) ++ T) ++ (⟨#[32]⟩ : ByteArray))) ++ (⟨#[45, 10]⟩ : ByteArray)) (by simp at hl ⊢; omega) (by rw [hlen1]; simp only [ByteArray.size_append, E32, E45]; omega)
      rw [hline T rfl, List.append_assoc, ← List.flatMap_cons] at h
      obtain ⟨K3, e3⟩ := h
      dsimp only at e3
      refine ⟨K2 + K3 + 1, fun k hk => ?_⟩
      obtain ⟨m, rfl⟩ : ∃ m, k = m + 1 := ⟨k - 1, by omega⟩
      dsimp only
      rw [spec_caText.l0, if_pos hl', if_pos hnn, if_pos hl', rdR_mid, if_pos (by omega), if_pos (by simp only [ByteArray.size_append, E32]; omega), if_pos (by simp only [ByteArray.size_append, E32]; omega), e2 m (by omega), Option.bind_some,
        if_pos (by simp only [ByteArray.size_append, E32]; omega), if_pos (by simp only [ByteArray.size_append, E32]; omega), if_pos (by simp only [ByteArray.size_append, E32]; omega), if_pos c, if_pos (by simp only [ByteArray.size_append, E32]; omega), hw, e3 m (by omega)]
    · have hsrc : impl_CatalogueText.src x.f3 = impl_CatalogueText.num x.f3 := by unfold impl_CatalogueText.src; rw [if_pos (by omega)]
      have e4 := num_spec x.f3 (by omega) (by omega)
      have n4 := num_small x.f3 (by omega) (by omega)
      have hline : ∀ T U : ByteArray, impl_CatalogueText.num x.f2 = T → impl_CatalogueText.num x.f3 = U → ((acc ++ (((((x.f0 ++ (⟨#[32]⟩ : ByteArray)) ++ x.f1) ++ (⟨#[32]⟩ : ByteArray)) ++ T) ++ (⟨#[32]⟩ : ByteArray))) ++ (U ++ (⟨#[10]⟩ : ByteArray))).data.toList = acc.data.toList ++ impl_CatalogueText.line x := by
        intro T U hT hU
        rw [impl_CatalogueText.line, impl_CatalogueText.lineB, hsrc, hT, hU]
        simp only [ByteArray.data_append, Array.toList_append, List.append_assoc]
      have hl2 := hline _ _ rfl rfl
      clear hline
      generalize impl_CatalogueText.num x.f2 = T at e2 n2 hl2
      generalize impl_CatalogueText.num x.f3 = U at e4 n4 hl2
      have h := ih2 ((acc ++ (((((x.f0 ++ (⟨#[32]⟩ : ByteArray)) ++ x.f1) ++ (⟨#[32]⟩ : ByteArray)) ++ T) ++ (⟨#[32]⟩ : ByteArray))) ++ (U ++ (⟨#[10]⟩ : ByteArray))) (by simp at hl ⊢; omega) (by rw [hlen1]; simp only [ByteArray.size_append, E32, E10]; omega)
      rw [hl2, List.append_assoc, ← List.flatMap_cons] at h
      obtain ⟨K3, e3⟩ := h
      obtain ⟨K4, e4⟩ := e4
      dsimp only at e3 e4
      refine ⟨K2 + K3 + K4 + 1, fun k hk => ?_⟩
      obtain ⟨m, rfl⟩ : ∃ m, k = m + 1 := ⟨k - 1, by omega⟩
      dsimp only
      rw [spec_caText.l0, if_pos hl', if_pos hnn, if_pos hl', rdR_mid, if_pos (by omega), if_pos (by simp only [ByteArray.size_append, E32]; omega), if_pos (by simp only [ByteArray.size_append, E32]; omega), e2 m (by omega), Option.bind_some,
        if_pos (by simp only [ByteArray.size_append, E32]; omega), if_pos (by simp only [ByteArray.size_append, E32]; omega), if_pos (by simp only [ByteArray.size_append, E32]; omega), if_neg c, e4 m (by omega), Option.bind_some, if_pos (by omega), if_pos (by simp only [ByteArray.size_append, E32, E10]; omega), hw, e3 m (by omega)]
def textR (l : List S63) : ByteArray × Bool := if good l = true then (⟨(l.flatMap impl_CatalogueText.line).toArray⟩, true) else (⟨#[]⟩, false)
theorem specText_ok (l : List S63) (h : l.length ≤ 1048576) (hz : ∀ x ∈ l, x.f0.size ≤ 1048576 ∧ x.f1.size ≤ 1048576) : Ev (fun k => spec_CatalogueText.f k l) (textR l) := by
  refine Ev.bind (caGood_ok l h hz) ?_
  cases g : good l with
  | false => exact ev_of_eq (fun _ => by simp only [textR, g, Bool.false_eq_true, if_false])
  | true =>
    simp only [if_true]
    have h2 := specCat_l0 l (good_all l h g) [] (⟨#[]⟩ : ByteArray) (by simpa using h) (by show 0 ≤ _; omega)
    simp only [List.nil_append, List.length_nil, Int.natCast_zero] at h2
    exact Ev.bind (Ev.congr (fun _ => rfl) h2) (ev_of_eq (fun _ => by simp only [textR, g, if_true]))
theorem implText_ok (l : List S63) (h : l.length ≤ 1048576) (hz : ∀ x ∈ l, x.f0.size ≤ 1048576 ∧ x.f1.size ≤ 1048576) : Ev (fun k => impl_CatalogueText.f k l) (textR l) := by
  refine Ev.bind (isCat_ok l h hz) ?_
  cases g : good l with
  | false => exact ev_of_eq (fun _ => by simp only [textR, g, Bool.false_eq_true, if_false])
  | true =>
    have ha := good_all l h g
    have hok : l.all impl_CatalogueText.ok = true := by
      rw [List.all_eq_true]
      intro x hx
      have h3 := of_decide_eq_true (List.all_eq_true.1 ha x hx)
      simp only [impl_CatalogueText.ok, Bool.and_eq_true, decide_eq_true_eq]
      omega
    refine ev_of_eq (fun _ => ?_)
    simp only [textR, g, if_true]
    rw [if_pos hok, if_pos (by unfold good at g; have := of_decide_eq_true (Bool.and_eq_true_iff.1 g).2; omega)]
theorem FnExactCatalogueText (l : List S60) (hb : l.length * 48 ≤ 140737488351232) (hw : ∀ y ∈ l, (y.f0.size ≤ 140737488351232) ∧ (y.f1.size ≤ 140737488351232) ∧ ((Lit.int .i64 y.f2).wf = true) ∧ ((Lit.int .i64 y.f3).wf = true)) : ∃ k, laws_FnExactCatalogueText.f k l = some true := by
  obtain ⟨v, ⟨K0, e0⟩, hv⟩ := szRollS_ok l 1048576 (by omega) (by omega) (by omega) (fun x hx => ⟨(hw x hx).1, (hw x hx).2.1⟩)
  dsimp only at e0
  by_cases c : v < 0
  · exact ⟨K0, by simp (disch := omega) only [laws_FnExactCatalogueText.f, e0, Option.bind_some, c, if_true]⟩
  obtain ⟨hl, hs⟩ := hv c
  have hs2 := toR_small l hs
  obtain ⟨K1, e1⟩ := toRollS_copy l hl
  obtain ⟨K2, e2⟩ := specText_ok (l.map toR) (by simpa using hl) hs2
  obtain ⟨K3, e3⟩ := implText_ok (l.map toR) (by simpa using hl) hs2
  obtain ⟨K4, e4⟩ := eqRollS_same (l.map toR) (by simp; omega)
  dsimp only at e1 e2 e3 e4
  refine ⟨K0 + K1 + K2 + K3 + K4 + 3, ?_⟩
  simp (disch := omega) only [laws_FnExactCatalogueText.f, e0, c, if_false, e1, e2, e3, Option.bind_some, if_true, bnot_ne, Bool.false_eq_true]
  simp (disch := omega) only [laws_FnExactCatalogueText.j0, e1, e4, Option.bind_some, if_true, if_false, Bool.false_eq_true]

end Go.Proofs.YtoifgemjcpkapaaDoor.LCatalogueText
