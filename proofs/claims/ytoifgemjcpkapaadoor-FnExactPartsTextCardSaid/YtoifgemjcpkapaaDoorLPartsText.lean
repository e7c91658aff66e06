/- Plain lemmas on what the printed functions of this law compute; each with the conditions that it names. -/
import Derived.Test.YtoifgemjcpkapaaDoorQFnExactPartsTextx4
import Derived.Test.YtoifgemjcpkapaaDoorBase
import Derived.Lib.ItoaNum
import Derived.Lib.ItoaMem
namespace Go.Proofs.YtoifgemjcpkapaaDoor.LPartsText
open Go Go.RowKit Go.Proofs.YtoifgemjcpkapaaDoor.QFnExactPartsText Go.Proofs.YtoifgemjcpkapaaDoorW.PrintWords Go.Proofs.YtoifgemjcpkapaaDoorW.PrintLast Go.Proofs.YtoifgemjcpkapaaDoorW.PrintMore Go.Proofs.YtoifgemjcpkapaaDoor.Base
set_option linter.unusedVariables false
set_option linter.unusedSimpArgs false

/-! slices of parts: copied, held against each other, measured; good parts -/
def toP (x : S46) : S43 := ⟨x.f0, x.f1, x.f2⟩
theorem rdLP_mid (pre suf : List S46) (x : S46) : rd_T46 (pre ++ x :: suf) (pre.length : Int) = x := getD_mid _ _ _ _ _ (by simp)
theorem rdP_mid (pre suf : List S43) (x : S43) : rd_T43 (pre ++ x :: suf) (pre.length : Int) = x := getD_mid _ _ _ _ _ (by simp)
theorem szPartS_ok (l : List S46) (n : Int) (h0 : 0 ≤ n) (h1 : n ≤ 1048576) (h : l.length ≤ 140737488351232) : laws_szPartS.f l n = some (if n - (l.length : Int) < 0 then -1 else n - (l.length : Int)) := by
  have w1 : wrap64 (n - (l.length : Int)) = n - (l.length : Int) := wrapS (by omega) (by omega)
  rw [laws_szPartS.f, w1]
  split <;> rfl
theorem toPartS_l0 (suf : List S46) : ∀ pre : List S46, (pre ++ suf).length ≤ 9223372036854775806 →
    Ev (fun k => laws_toPartS.l0 k (pre ++ suf) (pre.map toP ++ List.replicate suf.length z43) (pre.length : Int)) ((pre ++ suf).map toP) := by
  induction suf with
  | nil =>
    intro pre _
    refine ev_step ev_const (fun k => ?_)
    rw [laws_toPartS.l0, if_neg (by simp)]
    simp
  | cons x suf ih =>
    intro pre hl
    have h := ih (pre ++ [x]) (by simp at hl ⊢; omega)
    rw [snoc_app, snoc_leni, List.map_append, List.map_cons, List.map_nil, snoc_app] at h
    have hl' : (pre.length : Int) < ((pre ++ x :: suf).length : Int) := by simp; omega
    refine ev_step h (fun k => ?_)
    rw [laws_toPartS.l0, if_pos hl', if_pos (by omega), rdLP_mid]
    simp only [laws_toPart.f, Option.bind_some]
    rw [if_pos (by simp; omega), wrapS (by omega) (by simp at hl; omega), List.length_cons, List.replicate_succ, set_mid _ _ _ _ _ (by simp)]
    rfl
theorem toPartS_copy (l : List S46) (h : l.length ≤ 1048576) : Ev (fun k => laws_toPartS.f k l) (l.map toP) := by
  have := toPartS_l0 l [] (by simp; omega)
  refine Ev.congr (fun k => ?_) this
  rw [laws_toPartS.f, if_pos (by omega), if_pos (by omega)]
  simp
theorem eqPartS_l0 (suf : List S43) : ∀ pre : List S43, (pre ++ suf).length ≤ 9223372036854775806 → Ev (fun k => laws_eqPartS.l0 k (pre ++ suf) (pre ++ suf) (pre.length : Int)) true := by
  induction suf with
  | nil =>
    intro pre _
    refine ev_step ev_const (fun k => ?_)
    rw [laws_eqPartS.l0, if_neg (by simp)]
  | cons x suf ih =>
    intro pre hl
    have h := ih (pre ++ [x]) (by simp at hl ⊢; omega)
    rw [snoc_app, snoc_leni] at h
    have hl' : (pre.length : Int) < ((pre ++ x :: suf).length : Int) := by simp; omega
    refine ev_step h (fun k => ?_)
    rw [laws_eqPartS.l0, if_pos hl', if_pos (by omega), if_pos hl']
    simp only [laws_eqPart.f, if_true, Option.bind_some]
    rw [wrapS (by omega) (by simp at hl; omega)]
theorem eqPartS_same (l : List S43) (h : l.length ≤ 9223372036854775806) : Ev (fun k => laws_eqPartS.f k l l) true := by
  have := eqPartS_l0 l [] (by simpa using h)
  refine Ev.congr (fun k => ?_) this
  simp [laws_eqPartS.f]
def partOk (x : S43) : Bool := decide (0 ≤ x.f0 ∧ x.f0 ≤ 3 ∧ 0 ≤ x.f1 ∧ x.f1 < x.f2 ∧ x.f2 ≤ 2000)
def lenOf : List S43 → Int → Int
  | [], m => m
  | x :: l, m => lenOf l (wrap64 (m + wrap64 (x.f2 - x.f1)))
theorem l1In_ok (a b c : Int) : spec_l1In.f a b c = some (decide (b ≤ a ∧ a ≤ c)) := by
  unfold spec_l1In.f
  by_cases h : a ≥ b
  · rw [if_pos h]; congr 1; exact decide_eq_decide.2 ⟨fun q => ⟨h, q⟩, fun q => q.2⟩
  · rw [if_neg h]; congr 1; exact (decide_eq_false (fun q => h q.1)).symm
theorem edPart_ok (a b c : Int) : spec_edPart.f a b c = some (partOk ⟨a, b, c⟩) := by
  unfold spec_edPart.f spec_shStep.f
  simp only [l1In_ok, Option.bind_some]
  by_cases h1 : 0 ≤ a ∧ a ≤ 3
  · rw [if_pos (decide_eq_true h1)]
    by_cases h2 : 0 ≤ b ∧ b ≤ 1999
    · rw [if_pos (decide_eq_true h2), wrapS (by omega) (by omega)]
      congr 1
      exact decide_eq_decide.2 (by simp only; omega)
    · rw [if_neg (by simpa using h2)]
      congr 1
      exact (decide_eq_false (by simp only; omega)).symm
  · rw [if_neg (by simpa using h1)]
    congr 1
    exact (decide_eq_false (by simp only; omega)).symm
theorem edLength_l0 (suf : List S43) : ∀ (pre : List S43) (m : Int), (pre ++ suf).length ≤ 1048576 →
    Ev (fun k => spec_edLength.l0 k m (pre ++ suf) ((pre ++ suf).length : Int) (pre.length : Int)) (lenOf suf m) := by
  induction suf with
  | nil =>
    intro pre m _
    refine ev_step (f := fun _ => some _) (Ev.now _) (fun k => ?_)
    rw [spec_edLength.l0, if_neg (by simp)]; rfl
  | cons x suf ih =>
    intro pre m hl
    have hlp : pre.length ≤ 1048576 := by simp at hl; omega
    have h := ih (pre ++ [x]) (wrap64 (m + wrap64 (x.f2 - x.f1))) (by simp at hl ⊢; omega)
    rw [snoc_app, snoc_leni] at h
    have hl' : (pre.length : Int) < ((pre ++ x :: suf).length : Int) := by simp; omega
    have hw : wrap64 ((pre.length : Int) + 1) = (pre.length : Int) + 1 := wrapS (by omega) (by omega)
    refine ev_step (ev_eq h rfl) (fun k => ?_)
    rw [spec_edLength.l0, if_pos hl', if_pos (by omega), if_pos hl', rdP_mid, hw]
theorem edLength_ok (l : List S43) (h : l.length ≤ 1048576) : Ev (fun k => spec_edLength.f k l) (lenOf l 0) :=
  Ev.congr (f := fun k => spec_edLength.l0 k 0 l (l.length : Int) 0) (fun _ => rfl) (edLength_l0 l [] 0 (by simpa using h))
theorem editionLength_l0 (suf : List S43) : ∀ (pre : List S43) (m : Int), (pre ++ suf).length ≤ 1048576 →
    Ev (fun k => impl_editionLength.l0 k m (pre ++ suf) ((pre ++ suf).length : Int) (pre.length : Int)) (lenOf suf m) := by
  induction suf with
  | nil =>
    intro pre m _
    refine ev_step (f := fun _ => some _) (Ev.now _) (fun k => ?_)
    rw [impl_editionLength.l0, if_neg (by simp)]; rfl
  | cons x suf ih =>
    intro pre m hl
    have hlp : pre.length ≤ 1048576 := by simp at hl; omega
    have h := ih (pre ++ [x]) (wrap64 (m + wrap64 (x.f2 - x.f1))) (by simp at hl ⊢; omega)
    rw [snoc_app, snoc_leni] at h
    have hl' : (pre.length : Int) < ((pre ++ x :: suf).length : Int) := by simp; omega
    have hw : wrap64 ((pre.length : Int) + 1) = (pre.length : Int) + 1 := wrapS (by omega) (by omega)
    refine ev_step (ev_eq h rfl) (fun k => ?_)
    rw [impl_editionLength.l0, if_pos hl', if_pos (by omega), if_pos hl', rdP_mid, hw]
theorem editionLength_ok (l : List S43) (h : l.length ≤ 1048576) : Ev (fun k => impl_editionLength.f k l) (lenOf l 0) :=
  Ev.congr (f := fun k => impl_editionLength.l0 k 0 l (l.length : Int) 0) (fun _ => rfl) (editionLength_l0 l [] 0 (by simpa using h))
def partsGood (l : List S43) : Bool := l.all partOk && (decide (l.length ≤ 12) && decide (lenOf l 0 ≤ 2000))
theorem edGood_l0 (l : List S43) (hll : l.length ≤ 1048576) (suf : List S43) : ∀ pre : List S43, (pre ++ suf).length ≤ 1048576 →
    Ev (fun k => spec_edGood.l0 k l (pre ++ suf) ((pre ++ suf).length : Int) (pre.length : Int)) (suf.all partOk && (decide (l.length ≤ 12) && decide (lenOf l 0 ≤ 2000))) := by
  induction suf with
  | nil =>
    intro pre _
    obtain ⟨K, e⟩ := edLength_ok l hll
    dsimp only at e
    refine ⟨K + 1, fun k hk => ?_⟩
    obtain ⟨m, rfl⟩ : ∃ m, k = m + 1 := ⟨k - 1, by omega⟩
    dsimp only
    rw [spec_edGood.l0, if_neg (by simp), e m (by omega)]
    by_cases c : l.length ≤ 12
    · rw [if_pos (by omega)]; simp [c]
    · rw [if_neg (by omega)]; simp [c]
  | cons x suf ih =>
    intro pre hl
    have hlp : pre.length ≤ 1048576 := by simp at hl; omega
    have h := ih (pre ++ [x]) (by simp at hl ⊢; omega)
    rw [snoc_app, snoc_leni] at h
    have hl' : (pre.length : Int) < ((pre ++ x :: suf).length : Int) := by simp; omega
    have hw : wrap64 ((pre.length : Int) + 1) = (pre.length : Int) + 1 := wrapS (by omega) (by omega)
    cases c : partOk x with
    | true =>
      refine ev_step (ev_eq h (by simp [c])) (fun k => ?_)
      rw [spec_edGood.l0, if_pos hl', if_pos (by omega), if_pos hl', rdP_mid, edPart_ok]
      simp only [Option.bind_some]
      rw [if_pos c, hw]
    | false =>
      refine ev_step (f := fun _ => some _) (Ev.now _) (fun k => ?_)
      rw [spec_edGood.l0, if_pos hl', if_pos (by omega), if_pos hl', rdP_mid, edPart_ok]
      simp only [Option.bind_some]
      rw [if_neg (by rw [show partOk ⟨x.f0, x.f1, x.f2⟩ = partOk x from rfl, c]; decide)]
      simp [c]
theorem edGood_ok (l : List S43) (h : l.length ≤ 1048576) : Ev (fun k => spec_edGood.f k l) (partsGood l) :=
  Ev.congr (f := fun k => spec_edGood.l0 k l l (l.length : Int) 0) (fun _ => rfl) (edGood_l0 l h l [] (by simpa using h))
def under (n : Int) (x : S43) : Bool := decide (x.f0 < n)
def areParts (l : List S43) (n : Int) : Bool := partsGood l && (decide (1 ≤ n ∧ n ≤ 4) && l.all (under n))
theorem implAreParts_l0 (l : List S43) (hll : l.length ≤ 1048576) (n : Int) (hn : n ≤ 4) (suf : List S43) : ∀ pre : List S43, (pre ++ suf).length ≤ 1048576 →
    Ev (fun k => impl_AreParts.l0 k l n (pre ++ suf) ((pre ++ suf).length : Int) (pre.length : Int)) (suf.all (fun x => partOk x && under n x) && decide (lenOf l 0 ≤ 2000)) := by
  induction suf with
  | nil =>
    intro pre _
    obtain ⟨K, e⟩ := editionLength_ok l hll
    dsimp only at e
    refine ⟨K + 1, fun k hk => ?_⟩
    obtain ⟨m, rfl⟩ : ∃ m, k = m + 1 := ⟨k - 1, by omega⟩
    dsimp only
    rw [impl_AreParts.l0, if_neg (by simp), e m (by omega)]
    simp
  | cons x suf ih =>
    intro pre hl
    have hlp : pre.length ≤ 1048576 := by simp at hl; omega
    have h := ih (pre ++ [x]) (by simp at hl ⊢; omega)
    rw [snoc_app, snoc_leni] at h
    have hl' : (pre.length : Int) < ((pre ++ x :: suf).length : Int) := by simp; omega
    have hw : wrap64 ((pre.length : Int) + 1) = (pre.length : Int) + 1 := wrapS (by omega) (by omega)
    by_cases c : 0 ≤ x.f0 ∧ x.f0 < n ∧ 0 ≤ x.f1 ∧ x.f1 < x.f2 ∧ x.f2 ≤ 2000
    · have c1 : partOk x = true := decide_eq_true (by omega)
      have c2 : under n x = true := decide_eq_true (by omega)
      refine ev_step (ev_eq h (by simp [c1, c2])) (fun k => ?_)
      rw [impl_AreParts.l0, if_pos hl', if_pos (by omega), if_pos hl', rdP_mid, if_neg (by omega), if_neg (by omega), if_neg (by omega), if_neg (by omega), if_neg (by omega), hw]
    · have c1 : (partOk x && under n x) = false := by
        simp only [partOk, under, Bool.and_eq_false_iff, decide_eq_false_iff_not]
        omega
      refine ev_step (f := fun _ => some _) (Ev.now _) (fun k => ?_)
      rw [impl_AreParts.l0, if_pos hl', if_pos (by omega), if_pos hl', rdP_mid]
      rw [List.all_cons, c1, Bool.false_and, Bool.false_and]
      repeat (first | rfl | (split; rfl))
      omega
theorem implAreParts_ok (l : List S43) (n : Int) (h : l.length ≤ 1048576) : Ev (fun k => impl_AreParts.f k l n) (areParts l n) := by
  have stop : ∀ b : Bool, b = true → areParts l n = false → Ev (fun k => impl_AreParts.j0 k l n b) (areParts l n) := fun b hb ha => by
    rw [ha, hb]
    refine ev_step (f := fun _ => some _) (Ev.now _) (fun k => ?_)
    rw [impl_AreParts.j0, if_pos rfl]
  by_cases c1 : n < 1
  · refine Ev.congr (fun k => by rw [impl_AreParts.f, if_pos c1]) (stop true rfl ?_)
    simp [areParts, show ¬ (1 ≤ n ∧ n ≤ 4) by omega]
  · by_cases c2 : n > 4
    · refine Ev.congr (fun k => by rw [impl_AreParts.f, if_neg c1, if_pos c2]) (stop true rfl ?_)
      simp [areParts, show ¬ (1 ≤ n ∧ n ≤ 4) by omega]
    · by_cases c3 : (l.length : Int) > 12
      · refine Ev.congr (fun k => by rw [impl_AreParts.f, if_neg c1, if_neg c2]) (stop _ (decide_eq_true c3) ?_)
        simp [areParts, partsGood, show ¬ l.length ≤ 12 by omega]
      · have h0 := implAreParts_l0 l h n (by omega) l [] (by simpa using h)
        refine Ev.congr (f := fun k => impl_AreParts.j0 k l n (decide ((l.length : Int) > 12))) (fun k => by rw [impl_AreParts.f, if_neg c1, if_neg c2]) ?_
        refine ev_step (ev_eq h0 ?_) (fun k => ?_)
        · simp only [areParts, partsGood, show l.length ≤ 12 by omega, show 1 ≤ n ∧ n ≤ 4 by omega, decide_true, Bool.true_and, and_self]
          rw [Bool.eq_iff_iff]
          simp only [Bool.and_eq_true, List.all_eq_true]
          constructor
          · rintro ⟨h1, h2⟩
            exact ⟨⟨fun x hx => (h1 x hx).1, h2⟩, fun x hx => (h1 x hx).2⟩
          · rintro ⟨⟨h1, h2⟩, h3⟩
            exact ⟨fun x hx => ⟨h1 x hx, h3 x hx⟩, h2⟩
        · rw [impl_AreParts.j0, if_neg (by simpa using c3)]; rfl

/-! the decimal numeral, as the model writes it -/
theorem bytes_append (a b : List UInt8) : (⟨a.toArray⟩ : ByteArray) ++ ⟨b.toArray⟩ = ⟨(a ++ b).toArray⟩ := by
  apply ByteArray.ext
  rw [ByteArray.data_append]
  simp
theorem bytes_size (a : List UInt8) : (⟨a.toArray⟩ : ByteArray).size = a.length := by simp [ByteArray.size]
theorem dec_len (k n : Nat) (hn : n < 10 ^ (k + 1)) : (Lib.decDigits n).length ≤ k + 1 := by
  induction k generalizing n with
  | zero =>
    simp at hn
    rw [Lib.decDigits_one hn]
    simp
  | succ k ih =>
    have hn' : n < 10 * 10 ^ (k + 1) := by rw [Nat.pow_succ] at hn; omega
    by_cases h : n < 10
    · rw [Lib.decDigits_one h]; simp
    · have := ih (n / 10) (by omega)
      rw [Lib.decDigits, dif_neg h, List.length_append]
      simp only [List.length_cons, List.length_nil]
      omega
theorem num_ev (u : Nat) (hu : u < 9223372036854775807) : Ev (fun k => spec_l1Num.f k (u : Int)) (⟨(Lib.decDigits u).toArray⟩ : ByteArray) := by
  induction u using Nat.strongRecOn with
  | _ u ih =>
    by_cases h : u < 10
    · refine Ev.step (f := fun _ => some (⟨(Lib.decDigits u).toArray⟩ : ByteArray)) (fun k => ?_) (Ev.now _)
      simp only [spec_l1Num.f]
      rw [if_pos (by omega), Lib.decDigits_one h, wrapS (by omega) (by omega), Int.emod_eq_of_lt (by omega) (by omega)]
      congr 2
    · have hd : wrap64 (Int.tdiv (u : Int) 10) = ((u / 10 : Nat) : Int) := by
        rw [Int.tdiv_eq_ediv_of_nonneg (by omega), wrapS (by omega) (by omega)]
        omega
      have hm : (wrap64 (48 + Int.tmod (u : Int) 10)) % 256 = ((48 + u % 10 : Nat) : Int) := by
        rw [Int.tmod_eq_emod_of_nonneg (by omega), wrapS (by omega) (by omega)]
        omega
      have hl : (Lib.decDigits (u / 10)).length ≤ 19 := dec_len 18 (u / 10) (by omega)
      have hc : (strOfNums [((48 + u % 10 : Nat) : Int)]) = (⟨[UInt8.ofNat (48 + u % 10)].toArray⟩ : ByteArray) := rfl
      refine Ev.step (f := fun k => (spec_l1Num.f k ((u / 10 : Nat) : Int)).bind fun t => if t.size + (strOfNums [((48 + u % 10 : Nat) : Int)]).size ≤ 9223372036854775807 then some (t ++ strOfNums [((48 + u % 10 : Nat) : Int)]) else none) (fun k => ?_) ?_
      · simp only [spec_l1Num.f]
        rw [if_neg (by omega), hd, hm]
        rfl
      · refine Ev.bind (ih (u / 10) (by omega) (by omega)) ?_
        refine Ev.congr (f := fun _ => some (⟨(Lib.decDigits u).toArray⟩ : ByteArray)) (fun k => ?_) (Ev.now _)
        rw [hc, if_pos (by simp [ByteArray.size]; omega), bytes_append, Lib.decDigits.eq_1 u, dif_neg h]
theorem num_int (a : Int) (h0 : 0 ≤ a) (h1 : a < 9223372036854775807) : Ev (fun k => spec_l1Num.f k a) (⟨(Lib.itoa a).toArray⟩ : ByteArray) := by
  obtain ⟨u, rfl⟩ : ∃ u : Nat, a = u := ⟨a.toNat, by omega⟩
  rw [Lib.itoa_nonneg]
  exact num_ev u (by omega)
theorem itoa_len (a : Int) (h0 : 0 ≤ a) (h1 : a < 9223372036854775807) : (Lib.itoa a).length ≤ 19 := by
  obtain ⟨u, rfl⟩ : ∃ u : Nat, a = u := ⟨a.toNat, by omega⟩
  rw [Lib.itoa_nonneg]
  exact dec_len 18 u (by omega)

/-! the text of an edition's parts -/
theorem areParts4 (l : List S43) : areParts l 4 = partsGood l := by
  unfold areParts
  cases g : partsGood l with
  | false => rfl
  | true =>
    have h : l.all (under 4) = true := by
      rw [List.all_eq_true]
      intro x hx
      have h1 : l.all partOk = true := by
        unfold partsGood at g
        exact (Bool.and_eq_true_iff.1 g).1
      have h2 := List.all_eq_true.1 h1 x hx
      unfold partOk at h2
      have h3 := of_decide_eq_true h2
      exact decide_eq_true (by omega)
    rw [h]; rfl
theorem line_eq (x : S43) : impl_PartsText.line x = Lib.itoa x.f0 ++ [32] ++ Lib.itoa x.f1 ++ [32] ++ Lib.itoa x.f2 ++ [10] := by
  simp [impl_PartsText.line, DoorLib.wordsOf, Lib.join_cons, Lib.joinTail]
theorem specText_l0 (suf : List S43) (hs : suf.all partOk = true) : ∀ (pre : List S43) (acc : List UInt8), (pre ++ suf).length ≤ 1048576 → acc.length ≤ 100 * pre.length →
    Ev (fun k => spec_PartsText.l0 k (⟨acc.toArray⟩ : ByteArray) (pre ++ suf) ((pre ++ suf).length : Int) (pre.length : Int)) ((⟨(acc ++ suf.flatMap impl_PartsText.line).toArray⟩ : ByteArray), true) := by
  induction suf with
  | nil =>
    intro pre acc hl ha
    refine ev_step (f := fun _ => some _) (Ev.now _) (fun k => ?_)
    rw [spec_PartsText.l0, if_neg (by simp), List.flatMap_nil, List.append_nil]
  | cons x suf ih =>
    intro pre acc hl ha
    simp only [List.all_cons, Bool.and_eq_true] at hs
    have hx := hs.1
    unfold partOk at hx
    have hx := of_decide_eq_true hx
    have hp0 : pre.length + 1 ≤ 1048576 := by simp at hl; omega
    have hl' : (pre.length : Int) < ((pre ++ x :: suf).length : Int) := by simp; omega
    have hw : wrap64 ((pre.length : Int) + 1) = (pre.length : Int) + 1 := wrapS (by omega) (by omega)
    have hnn : (0 : Int) ≤ (pre.length : Int) := by omega
    have r0 : 0 ≤ x.f0 ∧ x.f0 < 9223372036854775807 := by omega
    have r1 : 0 ≤ x.f1 ∧ x.f1 < 9223372036854775807 := by omega
    have r2 : 0 ≤ x.f2 ∧ x.f2 < 9223372036854775807 := by omega
    have n0 := itoa_len x.f0 r0.1 r0.2
    have n1 := itoa_len x.f1 r1.1 r1.2
    have n2 := itoa_len x.f2 r2.1 r2.2
    have e0 := num_int x.f0 r0.1 r0.2
    have e1 := num_int x.f1 r1.1 r1.2
    have e2 := num_int x.f2 r2.1 r2.2
    have hle := line_eq x
    have ih2 := ih hs.2 (pre ++ [x]) (acc ++ impl_PartsText.line x)
    rw [snoc_app, snoc_leni] at ih2
    rw [List.flatMap_cons, ← List.append_assoc]
    generalize impl_PartsText.line x = Lx at hle ih2 ⊢
    generalize Lib.itoa x.f0 = A0 at hle n0 e0
    generalize Lib.itoa x.f1 = A1 at hle n1 e1
    generalize Lib.itoa x.f2 = A2 at hle n2 e2
    have hll : Lx.length ≤ 60 := by
      rw [hle]
      simp only [List.length_append, List.length_cons, List.length_nil]
      omega
    subst hle
    have h := ih2 (by simp at hl ⊢; omega) (by have h1 := snoc_len pre x; have h2 : (acc ++ (A0 ++ [32] ++ A1 ++ [32] ++ A2 ++ [10])).length = acc.length + (A0 ++ [32] ++ A1 ++ [32] ++ A2 ++ [10]).length := List.length_append; omega)
    clear ih ih2
    obtain ⟨K0, e0⟩ := e0
    obtain ⟨K1, e1⟩ := e1
    obtain ⟨K2, e2⟩ := e2
    obtain ⟨K3, e3⟩ := h
    dsimp only at e0 e1 e2 e3
    refine ⟨K0 + K1 + K2 + K3 + 1, fun k hk => ?_⟩
    obtain ⟨m, rfl⟩ : ∃ m, k = m + 1 := ⟨k - 1, by omega⟩
    dsimp only
    have e0 := e0 m (by omega)
    have e1 := e1 m (by omega)
    have e2 := e2 m (by omega)
    have e3' := e3 m (by omega)
    rw [spec_PartsText.l0, if_pos hl', if_pos hnn, if_pos hl', rdP_mid, e0, Option.bind_some, e1, e2]
    simp only [Option.bind_some, show (⟨#[32]⟩ : ByteArray) = ⟨[(32 : UInt8)].toArray⟩ from rfl, show (⟨#[10]⟩ : ByteArray) = ⟨[(10 : UInt8)].toArray⟩ from rfl, bytes_append, bytes_size]
    have l1 : A0.length + 1 ≤ 9223372036854775807 := by omega
    have l2 : (A0 ++ [32]).length + A1.length ≤ 9223372036854775807 := by rw [List.length_append]; simp only [List.length_cons, List.length_nil]; omega
    have l3 : (A0 ++ [32] ++ A1).length + 1 ≤ 9223372036854775807 := by rw [List.length_append, List.length_append]; simp only [List.length_cons, List.length_nil]; omega
    have l4 : (A0 ++ [32] ++ A1 ++ [32]).length + A2.length ≤ 9223372036854775807 := by rw [List.length_append, List.length_append, List.length_append]; simp only [List.length_cons, List.length_nil]; omega
    have l5 : (A0 ++ [32] ++ A1 ++ [32] ++ A2).length + 1 ≤ 9223372036854775807 := by rw [List.length_append, List.length_append, List.length_append, List.length_append]; simp only [List.length_cons, List.length_nil]; omega
    have l6 : acc.length + (A0 ++ [32] ++ A1 ++ [32] ++ A2 ++ [10]).length ≤ 9223372036854775807 := by omega
    rw [if_pos l1, if_pos l2, if_pos l3, if_pos l4, if_pos l5, if_pos l6, hw, e3']
def textR (l : List S43) : ByteArray × Bool := if partsGood l = true then (⟨(l.flatMap impl_PartsText.line).toArray⟩, true) else (⟨#[]⟩, false)
theorem good_all (l : List S43) (g : partsGood l = true) : l.all partOk = true := by
  unfold partsGood at g
  exact (Bool.and_eq_true_iff.1 g).1
theorem specText_ok (l : List S43) (h : l.length ≤ 1048576) : Ev (fun k => spec_PartsText.f k l) (textR l) := by
  refine Ev.bind (edGood_ok l h) ?_
  cases g : partsGood l with
  | false => exact ev_of_eq (fun _ => by simp only [textR, g, Bool.false_eq_true, if_false])
  | true =>
    simp only [if_true]
    have h2 := specText_l0 l (good_all l g) [] [] (by simpa using h) (by simp)
    simp only [List.nil_append, List.length_nil, Int.natCast_zero] at h2
    exact ev_eq h2 (by simp only [textR, g, if_true])
theorem implText_ok (l : List S43) (h : l.length ≤ 1048576) : Ev (fun k => impl_PartsText.f k l) (textR l) := by
  have he : Ev (fun k => impl_isEdition.f k l) (partsGood l) := by
    refine Ev.congr (fun k => ?_) (ev_eq (implAreParts_ok l 4 h) (areParts4 l))
    rw [impl_isEdition.f]
    cases impl_AreParts.f k l 4 <;> rfl
  refine Ev.bind he ?_
  cases g : partsGood l with
  | false => exact ev_of_eq (fun _ => by simp only [textR, g, Bool.false_eq_true, if_false])
  | true =>
    have ha := good_all l g
    have hok : l.all impl_PartsText.ok = true := by
      rw [List.all_eq_true]
      intro x hx
      have h2 := List.all_eq_true.1 ha x hx
      unfold partOk at h2
      have h3 := of_decide_eq_true h2
      simp only [impl_PartsText.ok, Bool.and_eq_true, decide_eq_true_eq]
      omega
    have hlen : l.length ≤ 12 := by
      unfold partsGood at g
      exact of_decide_eq_true (Bool.and_eq_true_iff.1 (Bool.and_eq_true_iff.1 g).2).1
    refine ev_of_eq (fun _ => ?_)
    simp only [textR, g, if_true]
    rw [if_pos hok, if_pos (by omega)]
theorem FnExactPartsText (l : List S46) (hb : l.length * 24 ≤ 140737488351232) (_hg : ∀ y ∈ l, ((Lit.int .i64 y.f0).wf = true) ∧ ((Lit.int .i64 y.f1).wf = true) ∧ ((Lit.int .i64 y.f2).wf = true)) : ∃ k, laws_FnExactPartsText.f k l = some true := by
  have hz := szPartS_ok l 1048576 (by omega) (by omega) (by omega)
  by_cases hlen : 1048576 - (l.length : Int) < 0
  · rw [if_pos hlen] at hz
    refine ⟨0, ?_⟩
    rw [laws_FnExactPartsText.f, hz, Option.bind_some, if_pos (by omega)]
  · rw [if_neg hlen] at hz
    obtain ⟨K0, e0⟩ := toPartS_copy l (by omega)
    obtain ⟨K1, e1⟩ := specText_ok (l.map toP) (by simp; omega)
    obtain ⟨K2, e2⟩ := implText_ok (l.map toP) (by simp; omega)
    obtain ⟨K3, e3⟩ := eqPartS_same (l.map toP) (by simp; omega)
    dsimp only at e0 e1 e2 e3
    refine ⟨K0 + K1 + K2 + K3 + 1, ?_⟩
    have hj : laws_FnExactPartsText.j0 (K0 + K1 + K2 + K3 + 1) l (l.map toP) false = some true := by
      rw [laws_FnExactPartsText.j0, if_neg (by decide), e0 _ (by omega), Option.bind_some, e3 _ (by omega), Option.bind_some, if_pos rfl]
    rw [laws_FnExactPartsText.f, hz, Option.bind_some, if_neg (by omega), e0 _ (by omega), Option.bind_some, e1 _ (by omega), Option.bind_some, Option.bind_some, e2 _ (by omega), Option.bind_some, if_pos rfl, bnot_ne, hj]

end Go.Proofs.YtoifgemjcpkapaaDoor.LPartsText
