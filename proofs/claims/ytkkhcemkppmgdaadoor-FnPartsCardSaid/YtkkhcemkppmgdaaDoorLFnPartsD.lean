/- Plain lemmas on what the printed functions of this law compute; each with the conditions that it names. -/
import Derived.Test.YtkkhcemkppmgdaaDoorQFnPartsx1
import Derived.Test.YtkkhcemkppmgdaaDoorQFnPartsx2
import Derived.Test.YtkkhcemkppmgdaaDoorQFnPartsx3
import Derived.Test.YtkkhcemkppmgdaaDoorQFnPartsx4
import Derived.Test.YtkkhcemkppmgdaaDoorQFnPartsx5
import Derived.Test.YtkkhcemkppmgdaaDoorQFnPartsx6
import Derived.Test.YtkkhcemkppmgdaaDoorQFnPartsx13
import Derived.Test.YtkkhcemkppmgdaaDoorQFnPartsx14
import Derived.Test.YtkkhcemkppmgdaaDoorQFnPartsx15
import Derived.Test.YtkkhcemkppmgdaaDoorQFnPartsx16
import Derived.Test.YtkkhcemkppmgdaaDoorBaseP
import Derived.Lib.ItoaNum
import Derived.Lib.ItoaMem
import Derived.Laws.Bits64b
namespace Go.Proofs.YtkkhcemkppmgdaaDoor.LFnPartsD
open Go Go.RowKit Go.Proofs.YtkkhcemkppmgdaaDoor.QFnParts Go.Proofs.YtkkhcemkppmgdaaDoorW.PrintWords Go.Proofs.YtkkhcemkppmgdaaDoorW.PrintLast Go.Proofs.YtkkhcemkppmgdaaDoorW.PrintMore Go.Proofs.YtkkhcemkppmgdaaDoor.Base
set_option linter.unusedVariables false
set_option linter.unusedSimpArgs false

/-! the decimal numeral, as the model writes it -/
theorem bytes_append (a b : List UInt8) : (⟨a.toArray⟩ : ByteArray) ++ ⟨b.toArray⟩ = ⟨(a ++ b).toArray⟩ := by
  apply ByteArray.ext
  rw [ByteArray.data_append]
  simp
theorem bytes_size (a : List UInt8) : (⟨a.toArray⟩ : ByteArray).size = a.length := by simp [ByteArray.size]
theorem dec_len (k n : Nat) (hn : n < 10 ^ (k + 1)) : (Lib.decDigits n).length ≤ k + 1 := by
  induction k generalizing n with
  | zero =>
    simp at hn
    rw [Lib.decDigits_one hn]
    simp
  | succ k ih =>
    have hn' : n < 10 * 10 ^ (k + 1) := by rw [Nat.pow_succ] at hn; omega
    by_cases h : n < 10
    · rw [Lib.decDigits_one h]; simp
    · have := ih (n / 10) (by omega)
      rw [Lib.decDigits, dif_neg h, List.length_append]
      simp only [List.length_cons, List.length_nil]
      omega
theorem num_ev (u : Nat) (hu : u < 9223372036854775807) : Ev (fun k => spec_l1Num.f k (u : Int)) (⟨(Lib.decDigits u).toArray⟩ : ByteArray) := by
  induction u using Nat.strongRecOn with
  | _ u ih =>
    by_cases h : u < 10
    · refine Ev.step (f := fun _ => some (⟨(Lib.decDigits u).toArray⟩ : ByteArray)) (fun k => ?_) (Ev.now _)
      simp only [spec_l1Num.f]
      rw [if_pos (by omega), Lib.decDigits_one h, wrapS (by omega) (by omega), Int.emod_eq_of_lt (by omega) (by omega)]
      congr 2
    · have hd : wrap64 (Int.tdiv (u : Int) 10) = ((u / 10 : Nat) : Int) := by
        rw [Int.tdiv_eq_ediv_of_nonneg (by omega), wrapS (by omega) (by omega)]
        omega
      have hm : (wrap64 (48 + Int.tmod (u : Int) 10)) % 256 = ((48 + u % 10 : Nat) : Int) := by
        rw [Int.tmod_eq_emod_of_nonneg (by omega), wrapS (by omega) (by omega)]
        omega
      have hl : (Lib.decDigits (u / 10)).length ≤ 19 := dec_len 18 (u / 10) (by omega)
      have hc : (strOfNums [((48 + u % 10 : Nat) : Int)]) = (⟨[UInt8.ofNat (48 + u % 10)].toArray⟩ : ByteArray) := rfl
      refine Ev.step (f := fun k => (spec_l1Num.f k ((u / 10 : Nat) : Int)).bind fun t => if t.size + (strOfNums [((48 + u % 10 : Nat) : Int)]).size ≤ 9223372036854775807 then some (t ++ strOfNums [((48 + u % 10 : Nat) : Int)]) else none) (fun k => ?_) ?_
      · simp only [spec_l1Num.f]
        rw [if_neg (by omega), hd, hm]
        rfl
      · refine Ev.bind (ih (u / 10) (by omega) (by omega)) ?_
        refine Ev.congr (f := fun _ => some (⟨(Lib.decDigits u).toArray⟩ : ByteArray)) (fun k => ?_) (Ev.now _)
        rw [hc, if_pos (by simp [ByteArray.size]; omega), bytes_append, Lib.decDigits.eq_1 u, dif_neg h]
theorem num_int (a : Int) (h0 : 0 ≤ a) (h1 : a < 9223372036854775807) : Ev (fun k => spec_l1Num.f k a) (⟨(Lib.itoa a).toArray⟩ : ByteArray) := by
  obtain ⟨u, rfl⟩ : ∃ u : Nat, a = u := ⟨a.toNat, by omega⟩
  rw [Lib.itoa_nonneg]
  exact num_ev u (by omega)
theorem itoa_len (a : Int) (h0 : 0 ≤ a) (h1 : a < 9223372036854775807) : (Lib.itoa a).length ≤ 19 := by
  obtain ⟨u, rfl⟩ : ∃ u : Nat, a = u := ⟨a.toNat, by omega⟩
  rw [Lib.itoa_nonneg]
  exact dec_len 18 u (by omega)

/-! a cursor's draws: what they give lies in bounds, and the cursor goes on by few places -/
def bytesOk (l : List Int) : Prop := ∀ x ∈ l, 0 ≤ x ∧ x ≤ 255
def lcg (s b : Int) : Int := (s * 6364136223846793005 + b + 1442695040888963407) % 18446744073709551616
theorem and255 (x : Int) (h0 : 0 ≤ x) (h1 : x < 18446744073709551616) : Go.bits .and .u64 x 255 = x % 256 := by
  obtain ⟨n, rfl⟩ : ∃ n : Nat, x = n := ⟨x.toNat, by omega⟩
  have h := bits_and_u64_nat n 255 (by omega) (by omega)
  have h2 := Nat.and_two_pow_sub_one_eq_mod n 8
  rw [show (2 : Nat) ^ 8 - 1 = 255 from rfl, show (2 : Nat) ^ 8 = 256 from rfl] at h2
  rw [h2] at h
  exact h.trans (by omega)
theorem lcg_eq (s b : Int) : IntKind.u64.wrap ((IntKind.u64.wrap ((IntKind.u64.wrap (s * 6364136223846793005)) + (IntKind.u64.wrap b))) + 1442695040888963407) = lcg s b := by
  simp only [IntKind.wrap_u64, lcg]; omega
theorem lcg_eq0 (s : Int) : IntKind.u64.wrap ((IntKind.u64.wrap (IntKind.u64.wrap (s * 6364136223846793005))) + 1442695040888963407) = lcg s 0 := by
  simp only [IntKind.wrap_u64, lcg]; omega
theorem lcg_lt (s b : Int) : 0 ≤ lcg s b ∧ lcg s b < 18446744073709551616 := by unfold lcg; omega
theorem rd_byte {l : List Int} (hb : bytesOk l) (p : Int) (h0 : 0 ≤ p) (h1 : p < l.length) : 0 ≤ rd l p ∧ rd l p ≤ 255 := by
  obtain ⟨n, rfl⟩ : ∃ n : Nat, p = n := ⟨p.toNat, by omega⟩
  rw [rd_nat l n (by omega)]
  exact hb _ (List.getElem_mem _)
theorem next_in {l : List Int} (hb : bytesOk l) (p s : Int) (h0 : 0 ≤ p) (h1 : p < l.length) (h2 : p ≤ 4000000000000000000) : spec_l1Cur_next.f l p s = some (rd l p, p + 1, lcg s (rd l p)) := by
  have hr := rd_byte hb p h0 h1
  have hw : wrap64 (p + 1) = p + 1 := wrapS (by omega) (by omega)
  have hw2 : wrap64 (rd l p) = rd l p := wrapS (by omega) (by omega)
  rw [spec_l1Cur_next.f, if_pos h1, if_pos h0, hw, if_pos (by omega), hw2, lcg_eq]
theorem next_out {l : List Int} (p s : Int) (h1 : ¬ p < l.length) (h0 : 0 ≤ p) (h2 : p ≤ 4000000000000000000) : spec_l1Cur_next.f l p s = some ((lcg s 0 / 1099511627776) % 256, p + 1, lcg s 0) := by
  have hw : wrap64 (p + 1) = p + 1 := wrapS (by omega) (by omega)
  have hl := lcg_lt s 0
  rw [spec_l1Cur_next.f, if_neg h1, hw, if_neg (by omega), lcg_eq0, and255 _ (by omega) (by omega), wrapS (by omega) (by omega)]
theorem next_ok {l : List Int} (hb : bytesOk l) (p s : Int) (h0 : 0 ≤ p) (h2 : p ≤ 4000000000000000000) : ∃ b s', spec_l1Cur_next.f l p s = some (b, p + 1, s') ∧ 0 ≤ b ∧ b ≤ 255 := by
  by_cases h : p < l.length
  · exact ⟨_, _, next_in hb p s h0 h h2, rd_byte hb p h0 h⟩
  · exact ⟨_, _, next_out p s h h0 h2, by omega, by omega⟩
theorem pick_ok {l : List Int} (hb : bytesOk l) (p s n : Int) (h0 : 0 ≤ p) (h2 : p ≤ 3000000000000000000) : ∃ r p' s', spec_l1Cur_pick.f l p s n = some (r, p', s') ∧ 0 ≤ r ∧ (1 ≤ n → r < n) ∧ p ≤ p' ∧ p' ≤ p + 2 ∧ (2 ≤ n → p + 1 ≤ p') := by
  by_cases c : n ≤ 1
  · exact ⟨0, p, s, by rw [spec_l1Cur_pick.f, if_pos c], by omega, by omega, by omega, by omega, by omega⟩
  · obtain ⟨b, s1, e1, b0, b1⟩ := next_ok hb p s h0 (by omega)
    by_cases d : n > 200
    · obtain ⟨b2, s2, e2, c0, c1⟩ := next_ok hb (p + 1) s1 (by omega) (by omega)
      refine ⟨Int.tmod (b * 256 + b2) n, p + 1 + 1, s2, ?_, ?_, ?_, by omega, by omega, by omega⟩
      · rw [spec_l1Cur_pick.f, if_neg c, e1]
        simp only [Option.bind_some]
        rw [if_pos d, e2]
        simp only [Option.bind_some]
        rw [if_neg (by omega), wrapS (x := b * 256) (by omega) (by omega), wrapS (by omega) (by omega)]
      · exact Int.tmod_nonneg _ (by omega)
      · intro _; exact Int.tmod_lt_of_pos _ (by omega)
    · refine ⟨Int.tmod b n, p + 1, s1, ?_, ?_, ?_, by omega, by omega, by omega⟩
      · rw [spec_l1Cur_pick.f, if_neg c, e1]
        simp only [Option.bind_some]
        rw [if_neg d, if_neg (by omega)]
      · exact Int.tmod_nonneg _ (by omega)
      · intro _; exact Int.tmod_lt_of_pos _ (by omega)
theorem rd_mem {xs : List Int} (r : Int) (h0 : 0 ≤ r) (h1 : r < xs.length) : rd xs r ∈ xs := by
  obtain ⟨n, rfl⟩ : ∃ n : Nat, r = n := ⟨r.toNat, by omega⟩
  rw [rd_nat xs n (by omega)]
  exact List.getElem_mem _
theorem among_ok {l : List Int} (hb : bytesOk l) (p s : Int) (xs : List Int) (hx : 1 ≤ xs.length) (h0 : 0 ≤ p) (h2 : p ≤ 3000000000000000000) : ∃ r p' s', spec_l1Cur_among.f l p s xs = some (r, p', s') ∧ r ∈ xs ∧ p ≤ p' ∧ p' ≤ p + 2 := by
  obtain ⟨r, p', s', e, r0, r1, q0, q1⟩ := pick_ok hb p s (xs.length : Int) h0 h2
  have r1 := r1 (by omega)
  refine ⟨rd xs r, p', s', ?_, rd_mem r r0 r1, q0, q1.1⟩
  rw [spec_l1Cur_among.f, e]
  simp only [Option.bind_some]
  rw [if_pos r0, if_pos r1]
theorem one_ok {l : List Int} (hb : bytesOk l) (p s n : Int) (h0 : 0 ≤ p) (h2 : p ≤ 3000000000000000000) : ∃ r p' s', spec_l1Cur_one.f l p s n = some (r, p', s') ∧ p ≤ p' ∧ p' ≤ p + 2 := by
  obtain ⟨r, p', s', e, _, _, q0, q1⟩ := pick_ok hb p s n h0 h2
  exact ⟨r == 0, p', s', by rw [spec_l1Cur_one.f, e]; rfl, q0, q1.1⟩

/-! parts of editions -/
theorem rdP_mid (pre suf : List S93) (x : S93) : rd_T93 (pre ++ x :: suf) (pre.length : Int) = x := getD_mid _ _ _ _ _ (by simp)
def partOk (x : S93) : Bool := decide (0 ≤ x.f0 ∧ x.f0 ≤ 3 ∧ 0 ≤ x.f1 ∧ x.f1 < x.f2 ∧ x.f2 ≤ 2000)
def lenOf : List S93 → Int → Int
  | [], m => m
  | x :: l, m => lenOf l (wrap64 (m + wrap64 (x.f2 - x.f1)))
theorem l1In_ok (a b c : Int) : spec_l1In.f a b c = some (decide (b ≤ a ∧ a ≤ c)) := by
  unfold spec_l1In.f
  by_cases h : a ≥ b
  · rw [if_pos h]; congr 1; exact decide_eq_decide.2 ⟨fun q => ⟨h, q⟩, fun q => q.2⟩
  · rw [if_neg h]; congr 1; exact (decide_eq_false (fun q => h q.1)).symm
theorem edPart_ok (a b c : Int) : spec_edPart.f a b c = some (partOk ⟨a, b, c⟩) := by
  unfold spec_edPart.f spec_shStep.f
  simp only [l1In_ok, Option.bind_some]
  by_cases h1 : 0 ≤ a ∧ a ≤ 3
  · rw [if_pos (decide_eq_true h1)]
    by_cases h2 : 0 ≤ b ∧ b ≤ 1999
    · rw [if_pos (decide_eq_true h2), wrapS (by omega) (by omega)]
      congr 1
      exact decide_eq_decide.2 (by simp only; omega)
    · rw [if_neg (by simpa using h2)]
      congr 1
      exact (decide_eq_false (by simp only; omega)).symm
  · rw [if_neg (by simpa using h1)]
    congr 1
    exact (decide_eq_false (by simp only; omega)).symm
theorem edLength_l0 (suf : List S93) : ∀ (pre : List S93) (m : Int), (pre ++ suf).length ≤ 1048576 →
    Ev (fun k => spec_edLength.l0 k m (pre ++ suf) ((pre ++ suf).length : Int) (pre.length : Int)) (lenOf suf m) := by
  induction suf with
  | nil =>
    intro pre m _
    refine ev_step (f := fun _ => some _) (Ev.now _) (fun k => ?_)
    rw [spec_edLength.l0, if_neg (by simp)]; rfl
  | cons x suf ih =>
    intro pre m hl
    have hlp : pre.length ≤ 1048576 := by simp at hl; omega
    have h := ih (pre ++ [x]) (wrap64 (m + wrap64 (x.f2 - x.f1))) (by simp at hl ⊢; omega)
    rw [snoc_app, snoc_leni] at h
    have hl' : (pre.length : Int) < ((pre ++ x :: suf).length : Int) := by simp; omega
    have hw : wrap64 ((pre.length : Int) + 1) = (pre.length : Int) + 1 := wrapS (by omega) (by omega)
    refine ev_step (ev_eq h rfl) (fun k => ?_)
    rw [spec_edLength.l0, if_pos hl', if_pos (by omega), if_pos hl', rdP_mid, hw]
theorem edLength_ok (l : List S93) (h : l.length ≤ 1048576) : Ev (fun k => spec_edLength.f k l) (lenOf l 0) :=
  Ev.congr (f := fun k => spec_edLength.l0 k 0 l (l.length : Int) 0) (fun _ => rfl) (edLength_l0 l [] 0 (by simpa using h))
theorem editionLength_l0 (suf : List S93) : ∀ (pre : List S93) (m : Int), (pre ++ suf).length ≤ 1048576 →
    Ev (fun k => impl_editionLength.l0 k m (pre ++ suf) ((pre ++ suf).length : Int) (pre.length : Int)) (lenOf suf m) := by
  induction suf with
  | nil =>
    intro pre m _
    refine ev_step (f := fun _ => some _) (Ev.now _) (fun k => ?_)
    rw [impl_editionLength.l0, if_neg (by simp)]; rfl
  | cons x suf ih =>
    intro pre m hl
    have hlp : pre.length ≤ 1048576 := by simp at hl; omega
    have h := ih (pre ++ [x]) (wrap64 (m + wrap64 (x.f2 - x.f1))) (by simp at hl ⊢; omega)
    rw [snoc_app, snoc_leni] at h
    have hl' : (pre.length : Int) < ((pre ++ x :: suf).length : Int) := by simp; omega
    have hw : wrap64 ((pre.length : Int) + 1) = (pre.length : Int) + 1 := wrapS (by omega) (by omega)
    refine ev_step (ev_eq h rfl) (fun k => ?_)
    rw [impl_editionLength.l0, if_pos hl', if_pos (by omega), if_pos hl', rdP_mid, hw]
theorem editionLength_ok (l : List S93) (h : l.length ≤ 1048576) : Ev (fun k => impl_editionLength.f k l) (lenOf l 0) :=
  Ev.congr (f := fun k => impl_editionLength.l0 k 0 l (l.length : Int) 0) (fun _ => rfl) (editionLength_l0 l [] 0 (by simpa using h))
def partsGood (l : List S93) : Bool := l.all partOk && (decide (l.length ≤ 12) && decide (lenOf l 0 ≤ 2000))
theorem edGood_l0 (l : List S93) (hll : l.length ≤ 1048576) (suf : List S93) : ∀ pre : List S93, (pre ++ suf).length ≤ 1048576 →
    Ev (fun k => spec_edGood.l0 k l (pre ++ suf) ((pre ++ suf).length : Int) (pre.length : Int)) (suf.all partOk && (decide (l.length ≤ 12) && decide (lenOf l 0 ≤ 2000))) := by
  induction suf with
  | nil =>
    intro pre _
    obtain ⟨K, e⟩ := edLength_ok l hll
    dsimp only at e
    refine ⟨K + 1, fun k hk => ?_⟩
    obtain ⟨m, rfl⟩ : ∃ m, k = m + 1 := ⟨k - 1, by omega⟩
    dsimp only
    rw [spec_edGood.l0, if_neg (by simp), e m (by omega)]
    by_cases c : l.length ≤ 12
    · rw [if_pos (by omega)]; simp [c]
    · rw [if_neg (by omega)]; simp [c]
  | cons x suf ih =>
    intro pre hl
    have hlp : pre.length ≤ 1048576 := by simp at hl; omega
    have h := ih (pre ++ [x]) (by simp at hl ⊢; omega)
    rw [snoc_app, snoc_leni] at h
    have hl' : (pre.length : Int) < ((pre ++ x :: suf).length : Int) := by simp; omega
    have hw : wrap64 ((pre.length : Int) + 1) = (pre.length : Int) + 1 := wrapS (by omega) (by omega)
    cases c : partOk x with
    | true =>
      refine ev_step (ev_eq h (by simp [c])) (fun k => ?_)
      rw [spec_edGood.l0, if_pos hl', if_pos (by omega), if_pos hl', rdP_mid, edPart_ok]
      simp only [Option.bind_some]
      rw [if_pos c, hw]
    | false =>
      refine ev_step (f := fun _ => some _) (Ev.now _) (fun k => ?_)
      rw [spec_edGood.l0, if_pos hl', if_pos (by omega), if_pos hl', rdP_mid, edPart_ok]
      simp only [Option.bind_some]
      rw [if_neg (by rw [show partOk ⟨x.f0, x.f1, x.f2⟩ = partOk x from rfl, c]; decide)]
      simp [c]
theorem edGood_ok (l : List S93) (h : l.length ≤ 1048576) : Ev (fun k => spec_edGood.f k l) (partsGood l) :=
  Ev.congr (f := fun k => spec_edGood.l0 k l l (l.length : Int) 0) (fun _ => rfl) (edGood_l0 l h l [] (by simpa using h))
def under (n : Int) (x : S93) : Bool := decide (x.f0 < n)
def areParts (l : List S93) (n : Int) : Bool := partsGood l && (decide (1 ≤ n ∧ n ≤ 4) && l.all (under n))
theorem specAreParts_l0 (n : Int) (suf : List S93) : ∀ pre : List S93, (pre ++ suf).length ≤ 1048576 →
    Ev (fun k => spec_AreParts.l0 k n (pre ++ suf) ((pre ++ suf).length : Int) (pre.length : Int)) (suf.all (under n)) := by
  induction suf with
  | nil =>
    intro pre _
    refine ev_step (f := fun _ => some _) (Ev.now _) (fun k => ?_)
    rw [spec_AreParts.l0, if_neg (by simp)]; simp
  | cons x suf ih =>
    intro pre hl
    have hlp : pre.length ≤ 1048576 := by simp at hl; omega
    have h := ih (pre ++ [x]) (by simp at hl ⊢; omega)
    rw [snoc_app, snoc_leni] at h
    have hl' : (pre.length : Int) < ((pre ++ x :: suf).length : Int) := by simp; omega
    have hw : wrap64 ((pre.length : Int) + 1) = (pre.length : Int) + 1 := wrapS (by omega) (by omega)
    by_cases c : x.f0 ≥ n
    · refine ev_step (f := fun _ => some _) (Ev.now _) (fun k => ?_)
      rw [spec_AreParts.l0, if_pos hl', if_pos (by omega), if_pos hl', rdP_mid, if_pos c]
      simp [under, show ¬ x.f0 < n by omega]
    · refine ev_step (ev_eq h (by simp [under, show x.f0 < n by omega])) (fun k => ?_)
      rw [spec_AreParts.l0, if_pos hl', if_pos (by omega), if_pos hl', rdP_mid, if_neg c, hw]
theorem specAreParts_ok (l : List S93) (n : Int) (h : l.length ≤ 1048576) : Ev (fun k => spec_AreParts.f k l n) (areParts l n) := by
  refine Ev.bind (edGood_ok l h) ?_
  simp only [l1In_ok, Option.bind_some]
  cases g : partsGood l with
  | false =>
    simp only [Bool.false_eq_true, if_false]
    refine ev_step (f := fun _ => some _) (Ev.now _) (fun k => ?_)
    rw [spec_AreParts.j0, if_pos rfl]; simp [areParts, g]
  | true =>
    simp only [if_true]
    by_cases c : 1 ≤ n ∧ n ≤ 4
    · have h0 := specAreParts_l0 n l [] (by simpa using h)
      refine ev_step (ev_eq h0 (by simp [areParts, g, c])) (fun k => ?_)
      rw [spec_AreParts.j0, if_neg (by rw [decide_eq_true c]; decide)]; rfl
    · refine ev_step (f := fun _ => some _) (Ev.now _) (fun k => ?_)
      rw [spec_AreParts.j0, if_pos (by rw [decide_eq_false c]; rfl)]; simp [areParts, c]
theorem implAreParts_l0 (l : List S93) (hll : l.length ≤ 1048576) (n : Int) (hn : n ≤ 4) (suf : List S93) : ∀ pre : List S93, (pre ++ suf).length ≤ 1048576 →
    Ev (fun k => impl_AreParts.l0 k l n (pre ++ suf) ((pre ++ suf).length : Int) (pre.length : Int)) (suf.all (fun x => partOk x && under n x) && decide (lenOf l 0 ≤ 2000)) := by
  induction suf with
  | nil =>
    intro pre _
    obtain ⟨K, e⟩ := editionLength_ok l hll
    dsimp only at e
    refine ⟨K + 1, fun k hk => ?_⟩
    obtain ⟨m, rfl⟩ : ∃ m, k = m + 1 := ⟨k - 1, by omega⟩
    dsimp only
    rw [impl_AreParts.l0, if_neg (by simp), e m (by omega)]
    simp
  | cons x suf ih =>
    intro pre hl
    have hlp : pre.length ≤ 1048576 := by simp at hl; omega
    have h := ih (pre ++ [x]) (by simp at hl ⊢; omega)
    rw [snoc_app, snoc_leni] at h
    have hl' : (pre.length : Int) < ((pre ++ x :: suf).length : Int) := by simp; omega
    have hw : wrap64 ((pre.length : Int) + 1) = (pre.length : Int) + 1 := wrapS (by omega) (by omega)
    by_cases c : 0 ≤ x.f0 ∧ x.f0 < n ∧ 0 ≤ x.f1 ∧ x.f1 < x.f2 ∧ x.f2 ≤ 2000
    · have c1 : partOk x = true := decide_eq_true (by omega)
      have c2 : under n x = true := decide_eq_true (by omega)
      refine ev_step (ev_eq h (by simp [c1, c2])) (fun k => ?_)
      rw [impl_AreParts.l0, if_pos hl', if_pos (by omega), if_pos hl', rdP_mid, if_neg (by omega), if_neg (by omega), if_neg (by omega), if_neg (by omega), if_neg (by omega), hw]
    · have c1 : (partOk x && under n x) = false := by
        simp only [partOk, under, Bool.and_eq_false_iff, decide_eq_false_iff_not]
        omega
      refine ev_step (f := fun _ => some _) (Ev.now _) (fun k => ?_)
      rw [impl_AreParts.l0, if_pos hl', if_pos (by omega), if_pos hl', rdP_mid]
      rw [List.all_cons, c1, Bool.false_and, Bool.false_and]
      repeat (first | rfl | (split; rfl))
      omega
theorem implAreParts_ok (l : List S93) (n : Int) (h : l.length ≤ 1048576) : Ev (fun k => impl_AreParts.f k l n) (areParts l n) := by
  have stop : ∀ b : Bool, b = true → areParts l n = false → Ev (fun k => impl_AreParts.j0 k l n b) (areParts l n) := fun b hb ha => by
    rw [ha, hb]
    refine ev_step (f := fun _ => some _) (Ev.now _) (fun k => ?_)
    rw [impl_AreParts.j0, if_pos rfl]
  by_cases c1 : n < 1
  · refine Ev.congr (fun k => by rw [impl_AreParts.f, if_pos c1]) (stop true rfl ?_)
    simp [areParts, show ¬ (1 ≤ n ∧ n ≤ 4) by omega]
  · by_cases c2 : n > 4
    · refine Ev.congr (fun k => by rw [impl_AreParts.f, if_neg c1, if_pos c2]) (stop true rfl ?_)
      simp [areParts, show ¬ (1 ≤ n ∧ n ≤ 4) by omega]
    · by_cases c3 : (l.length : Int) > 12
      · refine Ev.congr (fun k => by rw [impl_AreParts.f, if_neg c1, if_neg c2]) (stop _ (decide_eq_true c3) ?_)
        simp [areParts, partsGood, show ¬ l.length ≤ 12 by omega]
      · have h0 := implAreParts_l0 l h n (by omega) l [] (by simpa using h)
        refine Ev.congr (f := fun k => impl_AreParts.j0 k l n (decide ((l.length : Int) > 12))) (fun k => by rw [impl_AreParts.f, if_neg c1, if_neg c2]) ?_
        refine ev_step (ev_eq h0 ?_) (fun k => ?_)
        · simp only [areParts, partsGood, show l.length ≤ 12 by omega, show 1 ≤ n ∧ n ≤ 4 by omega, decide_true, Bool.true_and, and_self]
          rw [Bool.eq_iff_iff]
          simp only [Bool.and_eq_true, List.all_eq_true]
          constructor
          · rintro ⟨h1, h2⟩
            exact ⟨⟨fun x hx => (h1 x hx).1, h2⟩, fun x hx => (h1 x hx).2⟩
          · rintro ⟨⟨h1, h2⟩, h3⟩
            exact ⟨fun x hx => ⟨h1 x hx, h3 x hx⟩, h2⟩
        · rw [impl_AreParts.j0, if_neg (by simpa using c3)]; rfl

/-! sets of numbers: in order, each once -/
def putS : List Int → Int → List Int
  | [], n => [n]
  | x :: l, n => if x < n then x :: putS l n else if x = n then x :: l else n :: x :: l
theorem mem_putS (n y : Int) (l : List Int) : y ∈ putS l n ↔ y = n ∨ y ∈ l := by
  induction l with
  | nil => simp [putS]
  | cons x l ih =>
    rw [putS]
    by_cases c : x < n
    · rw [if_pos c, List.mem_cons, ih, List.mem_cons]; constructor
      · rintro (h | h | h) <;> simp [h]
      · rintro (h | h | h) <;> simp [h]
    · rw [if_neg c]
      by_cases e : x = n
      · rw [if_pos e, List.mem_cons]; subst e; simp
      · rw [if_neg e, List.mem_cons]
theorem putS_len (n : Int) (l : List Int) : (putS l n).length ≤ l.length + 1 := by
  induction l with
  | nil => simp [putS]
  | cons x l ih =>
    rw [putS]
    by_cases c : x < n
    · rw [if_pos c, List.length_cons, List.length_cons]; omega
    · rw [if_neg c]
      by_cases e : x = n
      · rw [if_pos e]; omega
      · rw [if_neg e]; simp
theorem sorted_putS (n : Int) (l : List Int) (h : l.Pairwise (· < ·)) : (putS l n).Pairwise (· < ·) := by
  induction l with
  | nil => simp [putS]
  | cons x l ih =>
    obtain ⟨hx, hl⟩ := List.pairwise_cons.1 h
    rw [putS]
    by_cases c : x < n
    · rw [if_pos c]
      refine List.pairwise_cons.2 ⟨fun y hy => ?_, ih hl⟩
      rcases (mem_putS n y l).1 hy with rfl | hy
      · exact c
      · exact hx y hy
    · rw [if_neg c]
      by_cases e : x = n
      · rw [if_pos e]; exact h
      · rw [if_neg e]
        refine List.pairwise_cons.2 ⟨fun y hy => ?_, h⟩
        rcases List.mem_cons.1 hy with rfl | hy
        · omega
        · have := hx y hy; omega
theorem sorted_ext : ∀ (l m : List Int), l.Pairwise (· < ·) → m.Pairwise (· < ·) → (∀ x, x ∈ l ↔ x ∈ m) → l = m
  | [], [], _, _, _ => rfl
  | [], y :: m, _, _, h => absurd ((h y).2 List.mem_cons_self) (by simp)
  | x :: l, [], _, _, h => absurd ((h x).1 List.mem_cons_self) (by simp)
  | x :: l, y :: m, hl, hm, h => by
    obtain ⟨hx, hl1⟩ := List.pairwise_cons.1 hl
    obtain ⟨hy, hm1⟩ := List.pairwise_cons.1 hm
    have e : x = y := by
      rcases List.mem_cons.1 ((h x).1 List.mem_cons_self) with e | h1
      · exact e
      · rcases List.mem_cons.1 ((h y).2 List.mem_cons_self) with e | h2
        · exact e.symm
        · have := hy x h1; have := hx y h2; omega
    subst e
    rw [sorted_ext l m hl1 hm1 (fun z => ?_)]
    constructor
    · intro hz
      rcases List.mem_cons.1 ((h z).1 (List.mem_cons_of_mem _ hz)) with e | h1
      · have := hx z hz; omega
      · exact h1
    · intro hz
      rcases List.mem_cons.1 ((h z).2 (List.mem_cons_of_mem _ hz)) with e | h1
      · have := hy z hz; omega
      · exact h1
theorem comp_inv (d : Array Int) (hs : ∀ i j, i < j → j < d.size → d[i]! ≤ d[j]!) (m : Nat) : m ≤ d.size → (Go.Lib.compactUpTo d m).Pairwise (· < ·) ∧ ∀ x, x ∈ Go.Lib.compactUpTo d m ↔ ∃ j, j < m ∧ d[j]! = x := by
  induction m with
  | zero => intro _; exact ⟨by simp [Go.Lib.compactUpTo], fun x => by simp [Go.Lib.compactUpTo]⟩
  | succ m ih =>
    intro hm
    obtain ⟨h1, h2⟩ := ih (by omega)
    rw [Go.Lib.compactUpTo_succ]
    by_cases c : m = 0 ∨ d[m]! ≠ d[m - 1]!
    · have hk : Go.Lib.keeps d m = true := by
        rcases c with c | c
        · exact Go.Lib.keeps_lt_one d m (by omega)
        · exact Go.Lib.keeps_pos c
      rw [hk, if_pos rfl]
      constructor
      · refine List.pairwise_append.2 ⟨h1, List.pairwise_singleton _ _, fun a ha b hb => ?_⟩
        rw [List.mem_singleton.1 hb]
        obtain ⟨j, hj, rfl⟩ := (h2 a).1 ha
        have h3 := hs (m - 1) m (by omega) (by omega)
        have h4 : d[j]! ≤ d[m - 1]! := by
          rcases Nat.lt_or_ge j (m - 1) with g | g
          · exact hs j (m - 1) g (by omega)
          · rw [show j = m - 1 by omega]; exact Int.le_refl _
        rcases c with c | c
        · omega
        · omega
      · intro x
        rw [List.mem_append, h2, List.mem_singleton]
        constructor
        · rintro (⟨j, hj, e⟩ | e)
          · exact ⟨j, by omega, e⟩
          · exact ⟨m, by omega, e.symm⟩
        · rintro ⟨j, hj, e⟩
          rcases Nat.lt_or_ge j m with g | g
          · exact .inl ⟨j, g, e⟩
          · rw [show j = m by omega] at e; exact .inr e.symm
    · have hm0 : 0 < m := by omega
      have he : d[m]! = d[m - 1]! := by
        rcases Classical.em (d[m]! = d[m - 1]!) with e | e
        · exact e
        · exact absurd (.inr e) c
      rw [Go.Lib.keeps_neg hm0 he, if_neg (by decide), List.append_nil]
      refine ⟨h1, fun x => ?_⟩
      rw [h2]
      constructor
      · rintro ⟨j, hj, e⟩; exact ⟨j, by omega, e⟩
      · rintro ⟨j, hj, e⟩
        rcases Nat.lt_or_ge j m with g | g
        · exact ⟨j, g, e⟩
        · rw [show j = m by omega, he] at e; exact ⟨m - 1, by omega, e⟩
def setOf (l : List Int) : List Int := Go.Lib.compact (l.mergeSort fun x y => decide (x ≤ y))
theorem setOf_sorted (l : List Int) : (setOf l).Pairwise (· < ·) ∧ ∀ x, x ∈ setOf l ↔ x ∈ l := by
  have hp : (l.mergeSort fun x y => decide (x ≤ y)).Pairwise (fun x y => decide (x ≤ y) = true) := List.pairwise_mergeSort (fun a b c h1 h2 => by simp at *; omega) (fun a b => by simp; omega) l
  have hmem : ∀ x, x ∈ (l.mergeSort fun x y => decide (x ≤ y)) ↔ x ∈ l := fun x => List.mem_mergeSort
  unfold setOf Go.Lib.compact
  generalize (l.mergeSort fun x y => decide (x ≤ y)) = s at hp hmem
  have hs : ∀ i j, i < j → j < s.toArray.size → s.toArray[i]! ≤ s.toArray[j]! := fun i j hij hj => by
    have h := List.pairwise_iff_getElem.1 hp i j (by simp at hj; omega) (by simpa using hj) hij
    simp only [decide_eq_true_eq] at h
    rw [getElem!_pos _ i (by omega), getElem!_pos _ j hj]
    simpa using h
  obtain ⟨h1, h2⟩ := comp_inv s.toArray hs s.length (by simp)
  refine ⟨h1, fun x => (h2 x).trans ((Iff.intro ?_ ?_).trans (hmem x))⟩
  · rintro ⟨j, hj, e⟩
    rw [getElem!_pos _ j (by simpa using hj)] at e
    rw [← e]; simp
  · intro hx
    obtain ⟨j, hj, e⟩ := List.getElem_of_mem hx
    exact ⟨j, hj, by rw [getElem!_pos _ j (by simpa using hj)]; simpa using e⟩
theorem setOf_len (l : List Int) : (setOf l).length ≤ l.length := by
  unfold setOf Go.Lib.compact Go.Lib.compactUpTo
  rw [List.length_map]
  refine Nat.le_trans (List.length_filter_le _ _) ?_
  simp
def putsS : List Int → List Int → List Int
  | o, [] => o
  | o, x :: l => putsS (putS o x) l
theorem putsS_sorted (l : List Int) : ∀ o : List Int, o.Pairwise (· < ·) → (putsS o l).Pairwise (· < ·) ∧ ∀ x, x ∈ putsS o l ↔ x ∈ o ∨ x ∈ l := by
  induction l with
  | nil => intro o h; exact ⟨h, fun x => by simp [putsS]⟩
  | cons y l ih =>
    intro o h
    obtain ⟨h1, h2⟩ := ih (putS o y) (sorted_putS y o h)
    refine ⟨h1, fun x => ?_⟩
    rw [putsS, h2, mem_putS, List.mem_cons]
    constructor
    · rintro ((h | h) | h) <;> simp [h]
    · rintro (h | h | h) <;> simp [h]
theorem putsS_eq (l : List Int) : putsS [] l = setOf l := by
  obtain ⟨h1, h2⟩ := putsS_sorted l [] List.Pairwise.nil
  obtain ⟨h3, h4⟩ := setOf_sorted l
  exact sorted_ext _ _ h1 h3 (fun x => by rw [h2, h4]; simp)
theorem l1Put_l0 (n : Int) (suf : List Int) : ∀ pre : List Int, (pre ++ suf).length ≤ 1000000000 →
    Ev (fun k => spec_l1Put.l0 k (pre ++ suf) n (pre.length : Int)) (pre ++ putS suf n) := by
  induction suf with
  | nil =>
    intro pre hl
    simp only [List.append_nil] at hl ⊢
    refine ev_step (f := fun _ => some _) (Ev.now _) (fun k => ?_)
    rw [spec_l1Put.l0, if_neg (by omega)]
    simp only [Option.bind_some]
    rw [if_pos (by omega), if_pos (by omega)]
    simp only [Int.toNat_natCast, List.take_length, List.drop_length, List.nil_append, List.length_nil, List.append_nil, putS]
    rw [if_pos (by omega), if_pos (by omega), if_pos (by simp; omega)]
  | cons x suf ih =>
    intro pre hl
    have hlp : pre.length + 1 ≤ 1000000000 := by simp at hl; omega
    have hl' : (pre.length : Int) < ((pre ++ x :: suf).length : Int) := by simp; omega
    have hw : wrap64 ((pre.length : Int) + 1) = (pre.length : Int) + 1 := wrapS (by omega) (by omega)
    by_cases c : x < n
    · have h := ih (pre ++ [x]) (by simp at hl ⊢; omega)
      rw [snoc_app, snoc_app, snoc_leni] at h
      refine ev_step (ev_eq h (by rw [putS, if_pos c])) (fun k => ?_)
      rw [spec_l1Put.l0, if_pos hl', if_pos (by omega), rd_mid, if_pos c, hw]
    · refine ev_step (f := fun _ => some _) (Ev.now _) (fun k => ?_)
      rw [spec_l1Put.l0, if_pos hl', if_pos (by omega), rd_mid, if_neg c, putS, if_neg c]
      by_cases e : x = n
      · rw [if_pos e, if_pos e]
      · rw [if_neg e, if_neg e]
        have ht : (pre ++ x :: suf).take pre.length = pre := List.take_left
        have hd : (pre ++ x :: suf).drop pre.length = x :: suf := List.drop_left
        simp only [Option.bind_some, Int.toNat_natCast, ht, hd, List.nil_append, List.length_nil]
        rw [if_pos (by omega), if_pos (by omega), if_pos (by omega), if_pos (by simp at hl ⊢; omega)]
        simp
theorem l1Put_ok (l : List Int) (n : Int) (h : l.length ≤ 1000000000) : Ev (fun k => spec_l1Put.f k l n) (putS l n) :=
  Ev.congr (f := fun k => spec_l1Put.l0 k l n 0) (fun _ => rfl) (by simpa using l1Put_l0 n l [] (by simpa using h))

/-! the sources of an edition's parts -/
theorem sortedSet_ok (l : List Int) (h : l.length < 1000000000) : impl_sortedSet.f l = some (setOf l) := by
  rw [impl_sortedSet.f, if_pos h]; rfl
theorem areParts4 (l : List S93) : areParts l 4 = partsGood l := by
  unfold areParts
  cases g : partsGood l with
  | false => rfl
  | true =>
    have h : l.all (under 4) = true := by
      rw [List.all_eq_true]
      intro x hx
      have h1 : l.all partOk = true := by
        unfold partsGood at g
        exact (Bool.and_eq_true_iff.1 g).1
      have h2 := List.all_eq_true.1 h1 x hx
      unfold partOk at h2
      have h3 := of_decide_eq_true h2
      exact decide_eq_true (by omega)
    rw [h]; rfl
theorem specSrc_l0 (suf : List S93) : ∀ (pre : List S93) (out : List Int), (pre ++ suf).length ≤ 4000000 → out.length ≤ pre.length →
    Ev (fun k => spec_UsedSources.l0 k out (pre ++ suf) ((pre ++ suf).length : Int) (pre.length : Int)) (putsS out (suf.map (fun x => x.f0)), true) := by
  induction suf with
  | nil =>
    intro pre out hl ho
    refine ev_step (f := fun _ => some _) (Ev.now _) (fun k => ?_)
    rw [spec_UsedSources.l0, if_neg (by simp)]; rfl
  | cons x suf ih =>
    intro pre out hl ho
    have hlp : pre.length + 1 ≤ 4000000 := by simp at hl; omega
    have hl' : (pre.length : Int) < ((pre ++ x :: suf).length : Int) := by simp; omega
    have hw : wrap64 ((pre.length : Int) + 1) = (pre.length : Int) + 1 := wrapS (by omega) (by omega)
    obtain ⟨K1, e1⟩ := l1Put_ok out x.f0 (by omega)
    have h := ih (pre ++ [x]) (putS out x.f0) (by simp at hl ⊢; omega) (by have := putS_len x.f0 out; simp; omega)
    rw [snoc_app, snoc_leni] at h
    obtain ⟨K2, e2⟩ := h
    dsimp only at e1 e2
    refine ⟨K1 + K2 + 1, fun k hk => ?_⟩
    obtain ⟨m, rfl⟩ : ∃ m, k = m + 1 := ⟨k - 1, by omega⟩
    dsimp only
    rw [spec_UsedSources.l0, if_pos hl', if_pos (by omega), if_pos hl', rdP_mid, e1 m (by omega)]
    simp only [Option.bind_some]
    rw [hw, e2 m (by omega)]; rfl
theorem implSrc_l0 (suf : List S93) : ∀ (pre : List S93) (out : List Int), (pre ++ suf).length ≤ 4000000 → out.length ≤ pre.length →
    Ev (fun k => impl_UsedSources.l0 k out (pre ++ suf) ((pre ++ suf).length : Int) (pre.length : Int)) (setOf (out ++ suf.map (fun x => x.f0)), true) := by
  induction suf with
  | nil =>
    intro pre out hl ho
    simp only [List.append_nil] at hl
    refine ev_step (f := fun _ => some _) (Ev.now _) (fun k => ?_)
    rw [impl_UsedSources.l0, if_neg (by simp), sortedSet_ok out (by omega)]
    simp
  | cons x suf ih =>
    intro pre out hl ho
    have hlp : pre.length + 1 ≤ 4000000 := by simp at hl; omega
    have hl' : (pre.length : Int) < ((pre ++ x :: suf).length : Int) := by simp; omega
    have hw : wrap64 ((pre.length : Int) + 1) = (pre.length : Int) + 1 := wrapS (by omega) (by omega)
    have h := ih (pre ++ [x]) (out ++ [x.f0]) (by simp at hl ⊢; omega) (by simp; omega)
    rw [snoc_app, snoc_leni] at h
    refine ev_step (ev_eq h (by simp)) (fun k => ?_)
    rw [impl_UsedSources.l0, if_pos hl', if_pos (by omega), if_pos hl', if_pos (by omega), rdP_mid, hw]
def srcR (l : List S93) : List Int × Bool := if partsGood l = true then (setOf (l.map (fun x => x.f0)), true) else ([], false)
theorem srcR_len (l : List S93) (h : l.length ≤ 1048576) : (srcR l).1.length ≤ 4000000 := by
  have h3 := setOf_len (l.map (fun x => x.f0))
  simp only [List.length_map] at h3
  unfold srcR
  by_cases c : partsGood l = true
  · rw [if_pos c]; simp only; omega
  · rw [if_neg c]; simp
theorem specSrc_ok (l : List S93) (h : l.length ≤ 1048576) : Ev (fun k => spec_UsedSources.f k l) (srcR l) := by
  refine Ev.bind (edGood_ok l h) ?_
  cases g : partsGood l with
  | false => exact ev_of_eq (fun _ => by simp only [srcR, g, Bool.false_eq_true, if_false])
  | true =>
    simp only [if_true]
    have h2 := specSrc_l0 l [] [] (by simp; omega) (by simp)
    simp only [List.nil_append, List.length_nil, Int.natCast_zero] at h2
    exact ev_eq h2 (by simp only [srcR, g, if_true, putsS_eq])
theorem implSrc_ok (l : List S93) (h : l.length ≤ 1048576) : Ev (fun k => impl_UsedSources.f k l) (srcR l) := by
  have he : Ev (fun k => impl_isEdition.f k l) (partsGood l) := by
    refine Ev.congr (fun k => ?_) (ev_eq (implAreParts_ok l 4 h) (areParts4 l))
    simp only [impl_isEdition.f]
    cases impl_AreParts.f k l 4 <;> rfl
  refine Ev.bind he ?_
  cases g : partsGood l with
  | false => exact ev_of_eq (fun _ => by simp only [srcR, g, Bool.false_eq_true, if_false])
  | true =>
    simp only [if_true]
    have h2 := implSrc_l0 l [] [] (by simp; omega) (by simp)
    simp only [List.nil_append, List.length_nil, Int.natCast_zero] at h2
    exact ev_eq h2 (by simp only [srcR, g, if_true])

/-! the text of an edition's parts -/
theorem line_eq (x : S93) : impl_PartsText.line x = Lib.itoa x.f0 ++ [32] ++ Lib.itoa x.f1 ++ [32] ++ Lib.itoa x.f2 ++ [10] := by
  simp [impl_PartsText.line, DoorLib.wordsOf, Lib.join_cons, Lib.joinTail]
theorem specText_l0 (suf : List S93) (hs : suf.all partOk = true) : ∀ (pre : List S93) (acc : List UInt8), (pre ++ suf).length ≤ 1048576 → acc.length ≤ 100 * pre.length →
    Ev (fun k => spec_PartsText.l0 k (⟨acc.toArray⟩ : ByteArray) (pre ++ suf) ((pre ++ suf).length : Int) (pre.length : Int)) ((⟨(acc ++ suf.flatMap impl_PartsText.line).toArray⟩ : ByteArray), true) := by
  induction suf with
  | nil =>
    intro pre acc hl ha
    refine ev_step (f := fun _ => some _) (Ev.now _) (fun k => ?_)
    rw [spec_PartsText.l0, if_neg (by simp), List.flatMap_nil, List.append_nil]
  | cons x suf ih =>
    intro pre acc hl ha
    simp only [List.all_cons, Bool.and_eq_true] at hs
    have hx := hs.1
    unfold partOk at hx
    have hx := of_decide_eq_true hx
    have hp0 : pre.length + 1 ≤ 1048576 := by simp at hl; omega
    have hl' : (pre.length : Int) < ((pre ++ x :: suf).length : Int) := by simp; omega
    have hw : wrap64 ((pre.length : Int) + 1) = (pre.length : Int) + 1 := wrapS (by omega) (by omega)
    have hnn : (0 : Int) ≤ (pre.length : Int) := by omega
    have r0 : 0 ≤ x.f0 ∧ x.f0 < 9223372036854775807 := by omega
    have r1 : 0 ≤ x.f1 ∧ x.f1 < 9223372036854775807 := by omega
    have r2 : 0 ≤ x.f2 ∧ x.f2 < 9223372036854775807 := by omega
    have n0 := itoa_len x.f0 r0.1 r0.2
    have n1 := itoa_len x.f1 r1.1 r1.2
    have n2 := itoa_len x.f2 r2.1 r2.2
    have e0 := num_int x.f0 r0.1 r0.2
    have e1 := num_int x.f1 r1.1 r1.2
    have e2 := num_int x.f2 r2.1 r2.2
    have hle := line_eq x
    have ih2 := ih hs.2 (pre ++ [x]) (acc ++ impl_PartsText.line x)
    rw [snoc_app, snoc_leni] at ih2
    rw [List.flatMap_cons, ← List.append_assoc]
    generalize impl_PartsText.line x = Lx at hle ih2 ⊢
    generalize Lib.itoa x.f0 = A0 at hle n0 e0
    generalize Lib.itoa x.f1 = A1 at hle n1 e1
    generalize Lib.itoa x.f2 = A2 at hle n2 e2
    have hll : Lx.length ≤ 60 := by
      rw [hle]
      simp only [List.length_append, List.length_cons, List.length_nil]
      omega
    subst hle
    have h := ih2 (by simp at hl ⊢; omega) (by have h1 := snoc_len pre x; have h2 : (acc ++ (A0 ++ [32] ++ A1 ++ [32] ++ A2 ++ [10])).length = acc.length + (A0 ++ [32] ++ A1 ++ [32] ++ A2 ++ [10]).length := List.length_append; omega)
    clear ih ih2
    obtain ⟨K0, e0⟩ := e0
    obtain ⟨K1, e1⟩ := e1
    obtain ⟨K2, e2⟩ := e2
    obtain ⟨K3, e3⟩ := h
    dsimp only at e0 e1 e2 e3
    refine ⟨K0 + K1 + K2 + K3 + 1, fun k hk => ?_⟩
    obtain ⟨m, rfl⟩ : ∃ m, k = m + 1 := ⟨k - 1, by omega⟩
    dsimp only
    have e0 := e0 m (by omega)
    have e1 := e1 m (by omega)
    have e2 := e2 m (by omega)
    have e3' := e3 m (by omega)
    rw [spec_PartsText.l0, if_pos hl', if_pos hnn, if_pos hl', rdP_mid, e0, Option.bind_some, e1, e2]
    simp only [Option.bind_some, show (⟨#[32]⟩ : ByteArray) = ⟨[(32 : UInt8)].toArray⟩ from rfl, show (⟨#[10]⟩ : ByteArray) = ⟨[(10 : UInt8)].toArray⟩ from rfl, bytes_append, bytes_size]
    have l1 : A0.length + 1 ≤ 9223372036854775807 := by omega
    have l2 : (A0 ++ [32]).length + A1.length ≤ 9223372036854775807 := by rw [List.length_append]; simp only [List.length_cons, List.length_nil]; omega
    have l3 : (A0 ++ [32] ++ A1).length + 1 ≤ 9223372036854775807 := by rw [List.length_append, List.length_append]; simp only [List.length_cons, List.length_nil]; omega
    have l4 : (A0 ++ [32] ++ A1 ++ [32]).length + A2.length ≤ 9223372036854775807 := by rw [List.length_append, List.length_append, List.length_append]; simp only [List.length_cons, List.length_nil]; omega
    have l5 : (A0 ++ [32] ++ A1 ++ [32] ++ A2).length + 1 ≤ 9223372036854775807 := by rw [List.length_append, List.length_append, List.length_append, List.length_append]; simp only [List.length_cons, List.length_nil]; omega
    have l6 : acc.length + (A0 ++ [32] ++ A1 ++ [32] ++ A2 ++ [10]).length ≤ 9223372036854775807 := by omega
    rw [if_pos l1, if_pos l2, if_pos l3, if_pos l4, if_pos l5, if_pos l6, hw, e3']
def textR (l : List S93) : ByteArray × Bool := if partsGood l = true then (⟨(l.flatMap impl_PartsText.line).toArray⟩, true) else (⟨#[]⟩, false)
theorem good_all (l : List S93) (g : partsGood l = true) : l.all partOk = true := by
  unfold partsGood at g
  exact (Bool.and_eq_true_iff.1 g).1
theorem specText_ok (l : List S93) (h : l.length ≤ 1048576) : Ev (fun k => spec_PartsText.f k l) (textR l) := by
  refine Ev.bind (edGood_ok l h) ?_
  cases g : partsGood l with
  | false => exact ev_of_eq (fun _ => by simp only [textR, g, Bool.false_eq_true, if_false])
  | true =>
    simp only [if_true]
    have h2 := specText_l0 l (good_all l g) [] [] (by simpa using h) (by simp)
    simp only [List.nil_append, List.length_nil, Int.natCast_zero] at h2
    exact ev_eq h2 (by simp only [textR, g, if_true])
theorem implText_ok (l : List S93) (h : l.length ≤ 1048576) : Ev (fun k => impl_PartsText.f k l) (textR l) := by
  have he : Ev (fun k => impl_isEdition.f k l) (partsGood l) := by
    refine Ev.congr (fun k => ?_) (ev_eq (implAreParts_ok l 4 h) (areParts4 l))
    rw [impl_isEdition.f]
    cases impl_AreParts.f k l 4 <;> rfl
  refine Ev.bind he ?_
  cases g : partsGood l with
  | false => exact ev_of_eq (fun _ => by simp only [textR, g, Bool.false_eq_true, if_false])
  | true =>
    have ha := good_all l g
    have hok : l.all impl_PartsText.ok = true := by
      rw [List.all_eq_true]
      intro x hx
      have h2 := List.all_eq_true.1 ha x hx
      unfold partOk at h2
      have h3 := of_decide_eq_true h2
      simp only [impl_PartsText.ok, Bool.and_eq_true, decide_eq_true_eq]
      omega
    have hlen : l.length ≤ 12 := by
      unfold partsGood at g
      exact of_decide_eq_true (Bool.and_eq_true_iff.1 (Bool.and_eq_true_iff.1 g).2).1
    refine ev_of_eq (fun _ => ?_)
    simp only [textR, g, if_true]
    rw [if_pos hok, if_pos (by omega)]

/-! lengths, steps and cuts of editions -/
def len1 (x : S93) : Int := x.f2 - x.f1
def total : List S93 → Int
  | [] => 0
  | x :: l => len1 x + total l
theorem ok_len {x : S93} (h : partOk x = true) : 1 ≤ len1 x ∧ len1 x ≤ 2000 ∧ 0 ≤ x.f1 ∧ x.f2 ≤ 2000 ∧ 0 ≤ x.f0 ∧ x.f0 ≤ 3 := by
  simp only [partOk, decide_eq_true_eq] at h
  unfold len1; omega
theorem total_ge {l : List S93} (h : l.all partOk = true) : 0 ≤ total l ∧ total l ≤ 2000 * l.length := by
  induction l with
  | nil => simp [total]
  | cons x l ih =>
    simp only [List.all_cons, Bool.and_eq_true] at h
    have := ih h.2
    have := ok_len h.1
    simp only [total, List.length_cons]; omega
theorem lenOf_eq {l : List S93} (h : l.all partOk = true) : ∀ m : Int, 0 ≤ m → m + 2000 * l.length ≤ 1000000000000 → lenOf l m = m + total l := by
  induction l with
  | nil => intro m _ _; simp [lenOf, total]
  | cons x l ih =>
    intro m h0 h1
    simp only [List.all_cons, Bool.and_eq_true] at h
    obtain ⟨o1, o2, o3, o4, o5, o6⟩ := ok_len h.1
    simp only [List.length_cons] at h1
    have hl : len1 x = x.f2 - x.f1 := rfl
    rw [lenOf, wrapS (x := x.f2 - x.f1) (by omega) (by omega), wrapS (by omega) (by omega), ih h.2 _ (by omega) (by omega), total]
    omega
theorem good_parts {l : List S93} (h : partsGood l = true) : l.all partOk = true ∧ l.length ≤ 12 ∧ 0 ≤ total l ∧ total l ≤ 2000 ∧ lenOf l 0 = total l := by
  simp only [partsGood, Bool.and_eq_true, decide_eq_true_eq] at h
  have e := lenOf_eq h.1 0 (by omega) (by omega)
  have := total_ge h.1
  exact ⟨h.1, h.2.1, by omega, by omega, by omega⟩
theorem parts_good {l : List S93} (h1 : l.all partOk = true) (h2 : l.length ≤ 12) (h3 : total l ≤ 2000) : partsGood l = true := by
  have e := lenOf_eq h1 0 (by omega) (by omega)
  simp only [partsGood, Bool.and_eq_true, decide_eq_true_eq]
  exact ⟨h1, h2, by omega⟩
def at_ : List S93 → Int → Int × Int
  | [], _ => (0, 0)
  | x :: l, s => if s < len1 x then (x.f0, x.f1 + s) else at_ l (s - len1 x)
def cutL (a b : Int) : Int → List S93 → List S93
  | _, [] => []
  | p, x :: l => if max p a < min (p + len1 x) b then ⟨x.f0, x.f1 + max p a - p, x.f1 + min (p + len1 x) b - p⟩ :: cutL a b (p + len1 x) l else cutL a b (p + len1 x) l
theorem cutL_len (a b : Int) (l : List S93) : ∀ p, (cutL a b p l).length ≤ l.length := by
  induction l with
  | nil => intro p; simp [cutL]
  | cons x l ih => intro p; have := ih (p + len1 x); simp only [cutL]; split <;> simp <;> omega
theorem cutL_ok (a b : Int) {l : List S93} (h : l.all partOk = true) : ∀ p, (cutL a b p l).all partOk = true := by
  induction l with
  | nil => intro p; simp [cutL]
  | cons x l ih =>
    intro p
    simp only [List.all_cons, Bool.and_eq_true] at h
    obtain ⟨o1, o2, o3, o4, o5, o6⟩ := ok_len h.1
    have hl : len1 x = x.f2 - x.f1 := rfl
    have := ih h.2 (p + len1 x)
    simp only [cutL]
    split
    · simp only [List.all_cons, Bool.and_eq_true]
      refine ⟨?_, this⟩
      simp only [partOk, decide_eq_true_eq]
      omega
    · exact this
theorem cutL_total (a b : Int) (hab : a < b) {l : List S93} (h : l.all partOk = true) : ∀ p, total (cutL a b p l) = max 0 (min (p + total l) b - max p a) := by
  induction l with
  | nil => intro p; simp only [cutL, total]; omega
  | cons x l ih =>
    intro p
    simp only [List.all_cons, Bool.and_eq_true] at h
    obtain ⟨o1, _⟩ := ok_len h.1
    have := ih h.2 (p + len1 x)
    have ht := (total_ge h.2).1
    simp only [cutL]
    split
    · have hy : len1 (⟨x.f0, x.f1 + max p a - p, x.f1 + min (p + len1 x) b - p⟩ : S93) = min (p + len1 x) b - max p a := by simp only [len1]; omega
      simp only [total, this, hy]; omega
    · simp only [total, this]; omega
theorem cutL_at (a b : Int) (hab : a < b) {l : List S93} (h : l.all partOk = true) : ∀ p s, 0 ≤ s → s < total (cutL a b p l) → at_ (cutL a b p l) s = at_ l (s + max p a - p) := by
  induction l with
  | nil => intro p s h0 h1; simp only [cutL, total] at h1; omega
  | cons x l ih =>
    intro p s h0 h1
    simp only [List.all_cons, Bool.and_eq_true] at h
    obtain ⟨o1, _⟩ := ok_len h.1
    have hl : len1 x = x.f2 - x.f1 := rfl
    have T := cutL_total a b hab h.2 (p + len1 x)
    have ht := (total_ge h.2).1
    have I := ih h.2 (p + len1 x)
    simp only [cutL] at h1 ⊢
    by_cases c : max p a < min (p + len1 x) b
    · rw [if_pos c] at h1 ⊢
      simp only [total, T] at h1
      have hy : len1 (⟨x.f0, x.f1 + max p a - p, x.f1 + min (p + len1 x) b - p⟩ : S93) = min (p + len1 x) b - max p a := by simp only [len1]; omega
      rw [hy] at h1
      simp only [at_]
      rw [hy]
      by_cases d : s < min (p + len1 x) b - max p a
      · rw [if_pos d, if_pos (by omega)]
        simp only [Prod.mk.injEq, true_and]; omega
      · rw [if_neg d, if_neg (by omega), I _ (by omega) (by rw [T]; omega)]
        congr 1; omega
    · rw [if_neg c] at h1 ⊢
      rw [T] at h1
      rw [I s h0 (by rw [T]; omega)]
      simp only [at_]
      rw [if_neg (by omega)]
      congr 1; omega
def cutR (l : List S93) (a b : Int) : List S93 × Bool := if partsGood l = true ∧ 0 ≤ a ∧ a < b ∧ b ≤ total l then (cutL a b 0 l, true) else ([], false)
theorem cut_good {l : List S93} {a b : Int} (hg : partsGood l = true) (h0 : 0 ≤ a) (h1 : a < b) (h2 : b ≤ total l) : partsGood (cutL a b 0 l) = true ∧ total (cutL a b 0 l) = b - a := by
  obtain ⟨g1, g2, g3, g4, _⟩ := good_parts hg
  have ht := cutL_total a b h1 g1 0
  have hl := cutL_len a b l 0
  exact ⟨parts_good (cutL_ok a b g1 0) (by omega) (by omega), by omega⟩
def srcAtR (l : List S93) (s : Int) : Int × Int × Bool := if partsGood l = true ∧ 0 ≤ s ∧ s < total l then ((at_ l s).1, (at_ l s).2, true) else (0, 0, false)
def fromS (n : Int) (l : List S93) : Int := total (l.filter fun x => !impl_StepsFrom.out n x)
def stepsR (l : List S93) (n : Int) : Int × Bool := if partsGood l = true ∧ 0 ≤ n ∧ n ≤ 3 then (fromS n l, true) else (0, false)
theorem fromS_cons (n : Int) (x : S93) (l : List S93) : fromS n (x :: l) = (if x.f0 = n then len1 x else 0) + fromS n l := by
  unfold fromS
  by_cases c : x.f0 = n
  · rw [List.filter_cons_of_pos (by simp [impl_StepsFrom.out, c]), if_pos c, total]
  · rw [List.filter_cons_of_neg (by simp [impl_StepsFrom.out, c]), if_neg c]; omega
theorem fromS_sum {l : List S93} (h : l.all partOk = true) : fromS 0 l + fromS 1 l + fromS 2 l + fromS 3 l = total l := by
  induction l with
  | nil => rfl
  | cons x l ih =>
    simp only [List.all_cons, Bool.and_eq_true] at h
    obtain ⟨_, _, _, _, o5, o6⟩ := ok_len h.1
    have := ih h.2
    simp only [fromS_cons, total]
    rcases (show x.f0 = 0 ∨ x.f0 = 1 ∨ x.f0 = 2 ∨ x.f0 = 3 by omega) with e | e | e | e <;> simp [e] <;> omega
theorem fromS_ge (n : Int) {l : List S93} (h : l.all partOk = true) : 0 ≤ fromS n l ∧ fromS n l ≤ total l ∧ (fromS n l > 0 ↔ n ∈ l.map fun x => x.f0) := by
  induction l with
  | nil => simp [fromS, total]
  | cons x l ih =>
    simp only [List.all_cons, Bool.and_eq_true] at h
    obtain ⟨o1, _⟩ := ok_len h.1
    obtain ⟨i1, i2, i3⟩ := ih h.2
    simp only [fromS_cons, total, List.map_cons, List.mem_cons]
    by_cases c : x.f0 = n
    · simp only [if_pos c]
      exact ⟨by omega, by omega, fun _ => .inl c.symm, fun _ => by omega⟩
    · simp only [if_neg c]
      refine ⟨by omega, by omega, fun q => .inr (i3.1 (by omega)), fun q => ?_⟩
      rcases q with q | q
      · exact absurd q.symm c
      · have := i3.2 q; omega

/-! what the functions of editions give -/
theorem isEd_ok (l : List S93) (h : l.length ≤ 1048576) : Ev (fun k => impl_isEdition.f k l) (partsGood l) := by
  refine Ev.congr (fun k => ?_) (ev_eq (implAreParts_ok l 4 h) (areParts4 l))
  simp only [impl_isEdition.f]
  cases impl_AreParts.f k l 4 <;> rfl
theorem implLength_ok (l : List S93) (h : l.length ≤ 1048576) : Ev (fun k => impl_LengthOfEdition.f k l) (if partsGood l = true then (total l, true) else (0, false)) := by
  refine Ev.bind (isEd_ok l h) ?_
  cases g : partsGood l with
  | false => exact ev_of_eq (fun _ => by simp)
  | true =>
    simp only [if_true]
    exact Ev.bind (editionLength_ok l h) (ev_of_eq (fun _ => by rw [(good_parts g).2.2.2.2]))
theorem specLength_ok (l : List S93) (h : l.length ≤ 1048576) : Ev (fun k => spec_LengthOfEdition.f k l) (if partsGood l = true then (total l, true) else (0, false)) := by
  refine Ev.bind (edGood_ok l h) ?_
  cases g : partsGood l with
  | false => exact ev_of_eq (fun _ => by simp)
  | true =>
    simp only [if_true]
    exact Ev.bind (edLength_ok l h) (ev_of_eq (fun _ => by rw [(good_parts g).2.2.2.2]))
theorem most_ok (a b : Int) : spec_l1Most.f a b = some (max a b) := by
  unfold spec_l1Most.f; split <;> congr 1 <;> omega
theorem least_ok (a b : Int) : spec_l1Least.f a b = some (min a b) := by
  unfold spec_l1Least.f; split <;> congr 1 <;> omega
theorem mx_eq (a b : Int) : mx a b = max a b := by unfold mx; split <;> omega
theorem mn_eq (a b : Int) : mn a b = min a b := by unfold mn; split <;> omega
theorem implCut_l0 (a b : Int) (ha : 0 ≤ a) (ha2 : a ≤ 2000) (hb : 0 ≤ b) (hb2 : b ≤ 2000) (suf : List S93) (hs : suf.all partOk = true) : ∀ (pre : List S93) (out : List S93) (p : Int), (pre ++ suf).length ≤ 1048576 → out.length ≤ pre.length → 0 ≤ p → p + 2000 * suf.length ≤ 1000000000000 →
    Ev (fun k => impl_cutParts.l0 k a b out p (pre ++ suf) ((pre ++ suf).length : Int) (pre.length : Int)) (out ++ cutL a b p suf) := by
  induction suf with
  | nil =>
    intro pre out p _ _ _ _
    refine ev_step (f := fun _ => some _) (Ev.now _) (fun k => ?_)
    rw [impl_cutParts.l0, if_neg (by simp)]; simp [cutL]
  | cons x suf ih =>
    intro pre out p hl ho h0 h1
    simp only [List.all_cons, Bool.and_eq_true] at hs
    obtain ⟨o1, o2, o3, o4, o5, o6⟩ := ok_len hs.1
    have hx : len1 x = x.f2 - x.f1 := rfl
    have hlp : pre.length + (suf.length + 1) ≤ 1048576 := by simpa using hl
    have hl' : (pre.length : Int) < ((pre ++ x :: suf).length : Int) := by simp; omega
    have hb0 : out.length ≤ pre.length + 1 := by omega
    have q0 : (0 : Int) ≤ (pre.length : Int) := by omega
    have q1 : out.length < 5864062014805 := by omega
    have hb1 : ∀ z : S93, (out ++ [z]).length ≤ pre.length + 1 := fun z => by simp; omega
    have hw : wrap64 ((pre.length : Int) + 1) = (pre.length : Int) + 1 := wrapS (by omega) (by omega)
    simp only [List.length_cons] at h1
    have IH := fun o2 (ho2 : o2.length ≤ pre.length + 1) => ih hs.2 (pre ++ [x]) o2 (p + len1 x) (by rw [snoc_app]; exact hl) (by simpa using ho2) (by omega) (by omega)
    simp only [snoc_app, snoc_leni] at IH
    have e1 : wrap64 (wrap64 (p + x.f2) - x.f1) = p + len1 x := by rw [wrapS (x := p + x.f2) (by omega) (by omega), wrapS (by omega) (by omega)]; omega
    have e2 : wrap64 (wrap64 (x.f1 + max p a) - p) = x.f1 + max p a - p := by rw [wrapS (x := x.f1 + max p a) (by omega) (by omega), wrapS (by omega) (by omega)]
    have e3 : wrap64 (wrap64 (x.f1 + min (p + len1 x) b) - p) = x.f1 + min (p + len1 x) b - p := by rw [wrapS (x := x.f1 + min (p + len1 x) b) (by omega) (by omega), wrapS (by omega) (by omega)]
    by_cases c : max p a < min (p + len1 x) b
    · refine ev_step (ev_eq (IH (out ++ [⟨x.f0, x.f1 + max p a - p, x.f1 + min (p + len1 x) b - p⟩]) (hb1 _)) (by rw [cutL, if_pos c, List.append_assoc]; rfl)) (fun k => ?_)
      rw [impl_cutParts.l0, if_pos hl', if_pos q0, if_pos hl', rdP_mid, e1, mx_eq, mn_eq, if_pos c, if_pos q1, e2, e3, hw]
    · refine ev_step (ev_eq (IH out hb0) (by rw [cutL, if_neg c])) (fun k => ?_)
      rw [impl_cutParts.l0, if_pos hl', if_pos q0, if_pos hl', rdP_mid, e1, mx_eq, mn_eq, if_neg c, hw]
theorem specCut_l0 (a b : Int) (ha : 0 ≤ a) (ha2 : a ≤ 2000) (hb : 0 ≤ b) (hb2 : b ≤ 2000) (suf : List S93) (hs : suf.all partOk = true) : ∀ (pre : List S93) (out : List S93) (p : Int), (pre ++ suf).length ≤ 1048576 → out.length ≤ pre.length → 0 ≤ p → p + 2000 * suf.length ≤ 1000000000000 →
    Ev (fun k => spec_edCut.l0 k a b out p (pre ++ suf) ((pre ++ suf).length : Int) (pre.length : Int)) (out ++ cutL a b p suf) := by
  induction suf with
  | nil =>
    intro pre out p _ _ _ _
    refine ev_step (f := fun _ => some _) (Ev.now _) (fun k => ?_)
    rw [spec_edCut.l0, if_neg (by simp)]; simp [cutL]
  | cons x suf ih =>
    intro pre out p hl ho h0 h1
    simp only [List.all_cons, Bool.and_eq_true] at hs
    obtain ⟨o1, o2, o3, o4, o5, o6⟩ := ok_len hs.1
    have hx : len1 x = x.f2 - x.f1 := rfl
    have hlp : pre.length + (suf.length + 1) ≤ 1048576 := by simpa using hl
    have hl' : (pre.length : Int) < ((pre ++ x :: suf).length : Int) := by simp; omega
    have hb0 : out.length ≤ pre.length + 1 := by omega
    have q0 : (0 : Int) ≤ (pre.length : Int) := by omega
    have q1 : out.length < 5864062014805 := by omega
    have hb1 : ∀ z : S93, (out ++ [z]).length ≤ pre.length + 1 := fun z => by simp; omega
    have hw : wrap64 ((pre.length : Int) + 1) = (pre.length : Int) + 1 := wrapS (by omega) (by omega)
    simp only [List.length_cons] at h1
    have IH := fun o2 (ho2 : o2.length ≤ pre.length + 1) => ih hs.2 (pre ++ [x]) o2 (p + len1 x) (by rw [snoc_app]; exact hl) (by simpa using ho2) (by omega) (by omega)
    simp only [snoc_app, snoc_leni] at IH
    have e1 : wrap64 (wrap64 (p + x.f2) - x.f1) = p + len1 x := by rw [wrapS (x := p + x.f2) (by omega) (by omega), wrapS (by omega) (by omega)]; omega
    have e4 : wrap64 (p + wrap64 (x.f2 - x.f1)) = p + len1 x := by rw [wrapS (x := x.f2 - x.f1) (by omega) (by omega), wrapS (by omega) (by omega)]; omega
    have e2 : wrap64 (wrap64 (x.f1 + max p a) - p) = x.f1 + max p a - p := by rw [wrapS (x := x.f1 + max p a) (by omega) (by omega), wrapS (by omega) (by omega)]
    have e3 : wrap64 (wrap64 (x.f1 + min (p + len1 x) b) - p) = x.f1 + min (p + len1 x) b - p := by rw [wrapS (x := x.f1 + min (p + len1 x) b) (by omega) (by omega), wrapS (by omega) (by omega)]
    by_cases c : max p a < min (p + len1 x) b
    · refine ev_step (ev_eq (IH (out ++ [⟨x.f0, x.f1 + max p a - p, x.f1 + min (p + len1 x) b - p⟩]) (hb1 _)) (by rw [cutL, if_pos c, List.append_assoc]; rfl)) (fun k => ?_)
      rw [spec_edCut.l0, if_pos hl', if_pos q0, if_pos hl', rdP_mid, most_ok, Option.bind_some, e1, least_ok, Option.bind_some, if_pos c, if_pos q1, e2, e3, e4, hw]
    · refine ev_step (ev_eq (IH out hb0) (by rw [cutL, if_neg c])) (fun k => ?_)
      rw [spec_edCut.l0, if_pos hl', if_pos q0, if_pos hl', rdP_mid, most_ok, Option.bind_some, e1, least_ok, Option.bind_some, if_neg c, e4, hw]
theorem implCutEd_ok (l : List S93) (a b : Int) (h : l.length ≤ 1048576) : Ev (fun k => impl_CutEdition.f k l a b) (cutR l a b) := by
  refine Ev.bind (isEd_ok l h) ?_
  cases g : partsGood l with
  | false => exact ev_of_eq (fun _ => by simp [cutR, g])
  | true =>
    obtain ⟨g1, g2, g3, g4, g5⟩ := good_parts g
    simp only [if_true]
    by_cases c : a < 0
    · simp only [if_pos c]; exact ev_of_eq (fun _ => by rw [cutR, if_neg (fun q => by omega)])
    · simp only [if_neg c]
      by_cases d : a ≥ b
      · simp only [if_pos d]; exact ev_of_eq (fun _ => by rw [cutR, if_neg (fun q => by omega)])
      · simp only [if_neg d]
        refine Ev.bind (editionLength_ok l h) ?_
        rw [g5]
        by_cases e : b > total l
        · simp only [if_pos e]; exact ev_of_eq (fun _ => by rw [cutR, if_neg (fun q => by omega)])
        · simp only [if_neg e]
          have := implCut_l0 a b (by omega) (by omega) (by omega) (by omega) l g1 [] [] 0 (by simpa using h) (by simp) (by omega) (by omega)
          simp only [List.nil_append, List.length_nil, Int.natCast_zero] at this
          exact Ev.bind this (ev_of_eq (fun _ => by rw [cutR, if_pos ⟨g, by omega, by omega, by omega⟩]))
theorem edHas_ok (l : List S93) (s : Int) (h : l.length ≤ 1048576) : Ev (fun k => spec_edHas.f k l s) (partsGood l && decide (0 ≤ s ∧ s < total l)) := by
  refine Ev.bind (edGood_ok l h) ?_
  cases g : partsGood l with
  | false => exact ev_of_eq (fun _ => by simp)
  | true =>
    obtain ⟨g1, g2, g3, g4, g5⟩ := good_parts g
    simp only [if_true]
    refine Ev.bind (edLength_ok l h) (ev_of_eq (fun _ => ?_))
    rw [g5, wrapS (by omega) (by omega), l1In_ok, Option.bind_some, Bool.true_and]
    congr 1; exact decide_eq_decide.2 (by omega)
theorem specCutEd_ok (l : List S93) (a b : Int) (h : l.length ≤ 1048576) : Ev (fun k => spec_CutEdition.f k l a b) (cutR l a b) := by
  refine Ev.bind (edHas_ok l a h) ?_
  by_cases q : partsGood l = true ∧ 0 ≤ a ∧ a < total l
  · obtain ⟨g, q0, q1⟩ := q
    obtain ⟨g1, g2, g3, g4, g5⟩ := good_parts g
    rw [g, Bool.true_and, decide_eq_true (show 0 ≤ a ∧ a < total l from ⟨q0, q1⟩)]
    simp only [if_true]
    refine Ev.bind (edLength_ok l h) ?_
    rw [g5, wrapS (by omega) (by omega), l1In_ok]
    simp only [Option.bind_some]
    by_cases c : a + 1 ≤ b ∧ b ≤ total l
    · simp only [decide_eq_true c, if_true]
      have := specCut_l0 a b (by omega) (by omega) (by omega) (by omega) l g1 [] [] 0 (by simpa using h) (by simp) (by omega) (by omega)
      simp only [List.nil_append, List.length_nil, Int.natCast_zero] at this
      exact Ev.bind this (ev_of_eq (fun _ => by rw [cutR, if_pos ⟨g, by omega, by omega, by omega⟩]))
    · simp only [decide_eq_false c, Bool.false_eq_true, if_false]
      exact ev_of_eq (fun _ => by rw [cutR, if_neg (fun q => by omega)])
  · have : (partsGood l && decide (0 ≤ a ∧ a < total l)) = false := by
      cases g : partsGood l with
      | false => rfl
      | true => rw [Bool.true_and]; exact decide_eq_false (fun z => q ⟨g, z⟩)
    rw [this]
    simp only [Bool.false_eq_true, if_false]
    exact ev_of_eq (fun _ => by rw [cutR, if_neg (fun z => q ⟨z.1, by omega, by omega⟩)])
theorem implSrcAt_l0 (suf : List S93) (hs : suf.all partOk = true) : ∀ (pre : List S93) (s : Int), (pre ++ suf).length ≤ 1048576 → 0 ≤ s → s ≤ 1000000000000000000 →
    Ev (fun k => impl_SourceAt.l0 k s (pre ++ suf) ((pre ++ suf).length : Int) (pre.length : Int)) (if s < total suf then ((at_ suf s).1, (at_ suf s).2, true) else (0, 0, false)) := by
  induction suf with
  | nil =>
    intro pre s _ h0 _
    refine ev_step (f := fun _ => some _) (Ev.now _) (fun k => ?_)
    rw [impl_SourceAt.l0, if_neg (by simp), total, if_neg (by omega)]
  | cons x suf ih =>
    intro pre s hl h0 h1
    simp only [List.all_cons, Bool.and_eq_true] at hs
    obtain ⟨o1, o2, o3, o4, o5, o6⟩ := ok_len hs.1
    have hx : len1 x = x.f2 - x.f1 := rfl
    have ht := (total_ge hs.2).1
    have hlp : pre.length + (suf.length + 1) ≤ 1048576 := by simpa using hl
    have hl' : (pre.length : Int) < ((pre ++ x :: suf).length : Int) := by simp; omega
    have hw : wrap64 ((pre.length : Int) + 1) = (pre.length : Int) + 1 := wrapS (by omega) (by omega)
    have e1 : wrap64 (x.f2 - x.f1) = len1 x := wrapS (by omega) (by omega)
    by_cases c : s < len1 x
    · refine ev_step (f := fun _ => some _) (Ev.now _) (fun k => ?_)
      rw [impl_SourceAt.l0, if_pos hl', if_pos (by omega), if_pos hl', rdP_mid, e1, if_pos c, wrapS (by omega) (by omega), total, if_pos (by omega), at_, if_pos c]
    · have IH := ih hs.2 (pre ++ [x]) (s - len1 x) (by rw [snoc_app]; exact hl) (by omega) (by omega)
      rw [snoc_app, snoc_leni] at IH
      refine ev_step (ev_eq IH ?_) (fun k => ?_)
      · rw [total, at_, if_neg c]
        by_cases d : s - len1 x < total suf
        · rw [if_pos d, if_pos (by omega)]
        · rw [if_neg d, if_neg (by omega)]
      · rw [impl_SourceAt.l0, if_pos hl', if_pos (by omega), if_pos hl', rdP_mid, e1, if_neg c, wrapS (x := s - len1 x) (by omega) (by omega), hw]
theorem implSrcAt_ok (l : List S93) (s : Int) (h : l.length ≤ 1048576) (hs : s ≤ 1000000000000000000) : Ev (fun k => impl_SourceAt.f k l s) (srcAtR l s) := by
  refine Ev.bind (isEd_ok l h) ?_
  have J : Ev (fun k => impl_SourceAt.j0 k l s true) (0, 0, false) := ev_step (f := fun _ => some _) (Ev.now _) (fun k => by rw [impl_SourceAt.j0, if_pos rfl])
  cases g : partsGood l with
  | false =>
    simp only [Bool.false_eq_true, if_false]
    exact ev_eq J (by rw [srcAtR, if_neg (fun q => by rw [g] at q; exact Bool.false_ne_true q.1)])
  | true =>
    simp only [if_true]
    obtain ⟨g1, g2, g3, g4, g5⟩ := good_parts g
    by_cases c : s < 0
    · rw [decide_eq_true c]
      exact ev_eq J (by rw [srcAtR, if_neg (fun q => by omega)])
    · rw [decide_eq_false c]
      have := implSrcAt_l0 l g1 [] s (by simpa using h) (by omega) hs
      simp only [List.nil_append, List.length_nil, Int.natCast_zero] at this
      refine ev_step (ev_eq this ?_) (fun k => by rw [impl_SourceAt.j0, if_neg (by simp)])
      by_cases d : s < total l
      · rw [if_pos d, srcAtR, if_pos ⟨g, by omega, d⟩]
      · rw [if_neg d, srcAtR, if_neg (fun q => d q.2.2)]
theorem edSource_l0 (suf : List S93) (hs : suf.all partOk = true) : ∀ (pre : List S93) (s : Int), (pre ++ suf).length ≤ 1048576 → 0 ≤ s → s < total suf → s ≤ 1000000000000000000 →
    ∃ i : Int, Ev (fun k => spec_edSource.l0 k (pre ++ suf) s (pre.length : Int)) (i, (at_ suf s).2) ∧ 0 ≤ i ∧ i < ((pre ++ suf).length : Int) ∧ (rd_T93 (pre ++ suf) i).f0 = (at_ suf s).1 := by
  induction suf with
  | nil => intro pre s _ h0 h1 _; simp only [total] at h1; omega
  | cons x suf ih =>
    intro pre s hl h0 ht h1
    simp only [List.all_cons, Bool.and_eq_true] at hs
    obtain ⟨o1, o2, o3, o4, o5, o6⟩ := ok_len hs.1
    have hx : len1 x = x.f2 - x.f1 := rfl
    have hlp : pre.length + (suf.length + 1) ≤ 1048576 := by simpa using hl
    have hl' : (pre.length : Int) < ((pre ++ x :: suf).length : Int) := by simp; omega
    have hw : wrap64 ((pre.length : Int) + 1) = (pre.length : Int) + 1 := wrapS (by omega) (by omega)
    have e1 : wrap64 (x.f2 - x.f1) = len1 x := wrapS (by omega) (by omega)
    by_cases c : s < len1 x
    · refine ⟨(pre.length : Int), ev_step (f := fun _ => some _) (Ev.now _) (fun k => ?_), by omega, hl', ?_⟩
      · rw [spec_edSource.l0, if_pos (by omega), if_pos hl', rdP_mid, e1, if_neg (by omega), wrapS (by omega) (by omega), at_, if_pos c]
      · rw [rdP_mid, at_, if_pos c]
    · rw [total] at ht
      obtain ⟨i, e, i0, i1, i2⟩ := ih hs.2 (pre ++ [x]) (s - len1 x) (by rw [snoc_app]; exact hl) (by omega) (by omega) (by omega)
      rw [snoc_app, snoc_leni] at e
      rw [snoc_app] at i1 i2
      refine ⟨i, ev_step (ev_eq e (by rw [at_, if_neg c])) (fun k => ?_), i0, i1, by rw [i2, at_, if_neg c]⟩
      rw [spec_edSource.l0, if_pos (by omega), if_pos hl', rdP_mid, e1, if_pos (by omega), wrapS (x := s - len1 x) (by omega) (by omega), hw]
theorem specSrcAt_ok (l : List S93) (s : Int) (h : l.length ≤ 1048576) (hs : s ≤ 1000000000000000000) : Ev (fun k => spec_SourceAt.f k l s) (srcAtR l s) := by
  refine Ev.bind (edHas_ok l s h) ?_
  by_cases q : partsGood l = true ∧ 0 ≤ s ∧ s < total l
  · obtain ⟨g, q0, q1⟩ := q
    obtain ⟨i, e, i0, i1, i2⟩ := edSource_l0 l (good_parts g).1 [] s (by simpa using h) q0 q1 hs
    simp only [List.nil_append, List.length_nil, Int.natCast_zero] at e i1 i2
    rw [g, Bool.true_and, decide_eq_true (show 0 ≤ s ∧ s < total l from ⟨q0, q1⟩)]
    simp only [if_true]
    refine Ev.bind (Ev.congr (fun _ => rfl) e) (ev_of_eq (fun _ => ?_))
    simp only
    rw [if_pos i0, if_pos i1, i2, srcAtR, if_pos ⟨g, q0, q1⟩]
  · have : (partsGood l && decide (0 ≤ s ∧ s < total l)) = false := by
      cases g : partsGood l with
      | false => rfl
      | true => rw [Bool.true_and]; exact decide_eq_false (fun z => q ⟨g, z⟩)
    rw [this]
    simp only [Bool.false_eq_true, if_false]
    exact ev_of_eq (fun _ => by rw [srcAtR, if_neg q])
theorem filter_ok (p : S93 → Bool) {l : List S93} (h : l.all partOk = true) : (l.filter p).all partOk = true := by
  rw [List.all_eq_true] at h ⊢
  exact fun x hx => h x (List.mem_filter.1 hx).1
theorem implSteps_ok (l : List S93) (n : Int) (h : l.length ≤ 1048576) : Ev (fun k => impl_StepsFrom.f k l n) (stepsR l n) := by
  refine Ev.bind (isEd_ok l h) ?_
  cases g : partsGood l with
  | false => exact ev_of_eq (fun _ => by simp [stepsR, g])
  | true =>
    obtain ⟨g1, g2, g3, g4, g5⟩ := good_parts g
    simp only [if_true]
    by_cases c : n < 0
    · simp only [if_pos c]; exact ev_of_eq (fun _ => by rw [stepsR, if_neg (fun q => by omega)])
    · simp only [if_neg c]
      by_cases d : n ≥ 4
      · simp only [if_pos d]; exact ev_of_eq (fun _ => by rw [stepsR, if_neg (fun q => by omega)])
      · simp only [if_neg d, if_pos (show l.length < 1000000000 by omega)]
        have hf := filter_ok (fun x => !impl_StepsFrom.out n x) g1
        have hl := List.length_filter_le (fun x => !impl_StepsFrom.out n x) l
        refine Ev.bind (editionLength_ok _ (by omega)) (ev_of_eq (fun _ => ?_))
        rw [stepsR, if_pos ⟨g, by omega, by omega⟩, lenOf_eq hf 0 (by omega) (by omega), Int.zero_add]; rfl
theorem specSteps_l0 (n : Int) (suf : List S93) (hs : suf.all partOk = true) : ∀ (pre : List S93) (m : Int), (pre ++ suf).length ≤ 1048576 → 0 ≤ m → m + 2000 * suf.length ≤ 1000000000000 →
    Ev (fun k => spec_StepsFrom.l0 k n m (pre ++ suf) ((pre ++ suf).length : Int) (pre.length : Int)) (m + fromS n suf, true) := by
  induction suf with
  | nil =>
    intro pre m _ _ _
    refine ev_step (f := fun _ => some _) (Ev.now _) (fun k => ?_)
    rw [spec_StepsFrom.l0, if_neg (by simp)]
    simp [fromS, total]
  | cons x suf ih =>
    intro pre m hl h0 h1
    simp only [List.all_cons, Bool.and_eq_true] at hs
    obtain ⟨o1, o2, o3, o4, o5, o6⟩ := ok_len hs.1
    have hx : len1 x = x.f2 - x.f1 := rfl
    have hlp : pre.length + (suf.length + 1) ≤ 1048576 := by simpa using hl
    have hl' : (pre.length : Int) < ((pre ++ x :: suf).length : Int) := by simp; omega
    have hw : wrap64 ((pre.length : Int) + 1) = (pre.length : Int) + 1 := wrapS (by omega) (by omega)
    simp only [List.length_cons] at h1
    have IH := fun m2 (h2 : 0 ≤ m2) (h3 : m2 ≤ m + 2000) => ih hs.2 (pre ++ [x]) m2 (by rw [snoc_app]; exact hl) h2 (by omega)
    simp only [snoc_app, snoc_leni] at IH
    by_cases c : x.f0 = n
    · refine ev_step (ev_eq (IH (m + len1 x) (by omega) (by omega)) (by rw [fromS_cons, if_pos c]; congr 1; omega)) (fun k => ?_)
      rw [spec_StepsFrom.l0, if_pos hl', if_pos (by omega), if_pos hl', rdP_mid, if_pos c, wrapS (x := x.f2 - x.f1) (by omega) (by omega), wrapS (x := m + (x.f2 - x.f1)) (by omega) (by omega), hw]
      rfl
    · refine ev_step (ev_eq (IH m h0 (by omega)) (by rw [fromS_cons, if_neg c]; congr 1; omega)) (fun k => ?_)
      rw [spec_StepsFrom.l0, if_pos hl', if_pos (by omega), if_pos hl', rdP_mid, if_neg c, hw]
theorem specSteps_ok (l : List S93) (n : Int) (h : l.length ≤ 1048576) : Ev (fun k => spec_StepsFrom.f k l n) (stepsR l n) := by
  have J : Ev (fun k => spec_StepsFrom.j0 k l n true) (0, false) := ev_step (f := fun _ => some _) (Ev.now _) (fun k => by rw [spec_StepsFrom.j0, if_pos rfl])
  refine Ev.bind (edGood_ok l h) ?_
  cases g : partsGood l with
  | false =>
    simp only [Bool.false_eq_true, if_false]
    exact ev_eq J (by rw [stepsR, if_neg (fun q => by rw [g] at q; exact Bool.false_ne_true q.1)])
  | true =>
    obtain ⟨g1, g2, g3, g4, g5⟩ := good_parts g
    simp only [if_true, l1In_ok, Option.bind_some]
    by_cases c : 0 ≤ n ∧ n ≤ 3
    · rw [decide_eq_true c]
      have := specSteps_l0 n l g1 [] 0 (by simpa using h) (by omega) (by omega)
      simp only [List.nil_append, List.length_nil, Int.natCast_zero, Int.zero_add] at this
      refine ev_step (ev_eq this (by rw [stepsR, if_pos ⟨g, c⟩])) (fun k => by rw [spec_StepsFrom.j0, if_neg (by simp)])
    · rw [decide_eq_false c]
      exact ev_eq J (by rw [stepsR, if_neg (fun q => c q.2)])

/-! drawn parts -/
theorem splice_ok {l : List Int} (hb : bytesOk l) (p s n : Int) (h0 : 0 ≤ p) (h1 : p ≤ 1000000000000000000) : ∃ a b c p' s', spec_l1Cur_splicePart.f l p s n = some (a, b, c, p', s') ∧ p ≤ p' ∧ p' ≤ p + 8 := by
  obtain ⟨i, p1, s1, e1, _, _, a1, b1⟩ := pick_ok hb p s 40 h0 (by omega)
  obtain ⟨v, p2, s2, e2, _, a2, b2⟩ := among_ok hb p1 s1 (([0, 2, 4, i] : List Int)) (by simp) (by omega) (by omega)
  obtain ⟨m, em⟩ : ∃ m, spec_l1Most.f 1 n = some m := by unfold spec_l1Most.f; split <;> exact ⟨_, rfl⟩
  obtain ⟨j, p3, s3, e3, _, _, a3, b3⟩ := pick_ok hb p2 s2 m (by omega) (by omega)
  obtain ⟨w, p4, s4, e4, _, a4, b4⟩ := among_ok hb p3 s3 (([1, 2, 5, 10, 30] : List Int)) (by simp) (by omega) (by omega)
  refine ⟨j, v, wrap64 (v + w), p4, s4, ?_, by omega, by omega⟩
  rw [spec_l1Cur_splicePart.f, e1, Option.bind_some, e2, Option.bind_some, em, Option.bind_some, e3, Option.bind_some, e4, Option.bind_some]
theorem parts_l0 {l : List Int} (hb : bytesOk l) (y : Int) (n : Int) (hn : n ≤ 13) (d : Nat) : ∀ (x : List S93) (p s : Int), ((x.length : Int) + d = n ∨ d = 0 ∧ n ≤ x.length ∧ x.length ≤ 13) → 0 ≤ p → p + 20 * d ≤ 500000000000000000 →
    ∃ r p' s', Ev (fun k => spec_l1Cur_parts.l0 k y x n l p s) (r, p', s') ∧ r.length ≤ 13 ∧ p ≤ p' ∧ p' ≤ p + 20 * d + 10 := by
  induction d with
  | zero =>
    intro x p s hl h0 h1
    have hl2 : n ≤ x.length ∧ x.length ≤ 13 := by omega
    by_cases c : (x.length : Int) > 0
    · obtain ⟨i, p1, s1, e1, i0, i1, a1, b1⟩ := pick_ok hb p s (x.length : Int) h0 (by omega)
      have i1 := i1 (by omega)
      obtain ⟨q, p2, s2, e2, _, _, a2, b2⟩ := pick_ok hb p1 s1 30 (by omega) (by omega)
      by_cases c0 : q = 0
      · obtain ⟨v, p3, s3, e3, hv, a3, b3⟩ := among_ok hb p2 s2 (([(-1), 3, 4] : List Int)) (by decide) (by omega) (by omega)
        refine ⟨x.set (i : Int).toNat ⟨v, (rd_T93 x i).f1, (rd_T93 x i).f2⟩, p3, s3, ev_step (f := fun _ => some _) (Ev.now _) (fun k => ?_), by simpa using hl2.2, by omega, by omega⟩
        rw [spec_l1Cur_parts.l0, if_neg (by omega), if_pos c, e1, Option.bind_some, if_pos i0, if_pos i1, e2, Option.bind_some, if_pos c0, e3, Option.bind_some]
      by_cases c1 : q = 1
      · obtain ⟨v, p3, s3, e3, hv, a3, b3⟩ := among_ok hb p2 s2 (([(-1), (rd_T93 x i).f2] : List Int)) (by simp) (by omega) (by omega)
        refine ⟨x.set (i : Int).toNat ⟨(rd_T93 x i).f0, v, (rd_T93 x i).f2⟩, p3, s3, ev_step (f := fun _ => some _) (Ev.now _) (fun k => ?_), by simpa using hl2.2, by omega, by omega⟩
        rw [spec_l1Cur_parts.l0, if_neg (by omega), if_pos c, e1, Option.bind_some, if_pos i0, if_pos i1, e2, Option.bind_some, if_neg c0, if_pos c1, e3, Option.bind_some]
      by_cases c2 : q = 2
      · obtain ⟨v, p3, s3, e3, hv, a3, b3⟩ := among_ok hb p2 s2 (([(rd_T93 x i).f1, 2000, 2001] : List Int)) (by simp) (by omega) (by omega)
        refine ⟨x.set (i : Int).toNat ⟨(rd_T93 x i).f0, (rd_T93 x i).f1, v⟩, p3, s3, ev_step (f := fun _ => some _) (Ev.now _) (fun k => ?_), by simpa using hl2.2, by omega, by omega⟩
        rw [spec_l1Cur_parts.l0, if_neg (by omega), if_pos c, e1, Option.bind_some, if_pos i0, if_pos i1, e2, Option.bind_some, if_neg c0, if_neg c1, if_pos c2, e3, Option.bind_some]
      by_cases c3 : q = 3
      · obtain ⟨v, p3, s3, e3, _, _, a3, b3⟩ := pick_ok hb p2 s2 2 (by omega) (by omega)
        refine ⟨[(⟨0, 0, 1000⟩ : S93), (⟨0, 500, wrap64 (1500 + v)⟩ : S93)], p3, s3, ev_step (f := fun _ => some _) (Ev.now _) (fun k => ?_), by simp, by omega, by omega⟩
        rw [spec_l1Cur_parts.l0, if_neg (by omega), if_pos c, e1, Option.bind_some, if_pos i0, if_pos i1, e2, Option.bind_some, if_neg c0, if_neg c1, if_neg c2, if_pos c3, e3, Option.bind_some]
      · refine ⟨x, p2, s2, ev_step (f := fun _ => some _) (Ev.now _) (fun k => ?_), hl2.2, by omega, by omega⟩
        rw [spec_l1Cur_parts.l0, if_neg (by omega), if_pos c, e1, Option.bind_some, if_pos i0, if_pos i1, e2, Option.bind_some, if_neg c0, if_neg c1, if_neg c2, if_neg c3]
    · refine ⟨x, p, s, ev_step (f := fun _ => some _) (Ev.now _) (fun k => ?_), hl2.2, by omega, by omega⟩
      rw [spec_l1Cur_parts.l0, if_neg (by omega), if_neg c]
  | succ d ih =>
    intro x p s hl h0 h1
    have hl2 : (x.length : Int) + (d + 1 : Nat) = n := by omega
    obtain ⟨u, v, w, p1, s1, e1, a1, b1⟩ := splice_ok hb p s y h0 (by omega)
    by_cases c : (x.length : Int) > 0
    · obtain ⟨b, p2, s2, e2, a2, b2⟩ := one_ok hb p1 s1 4 (by omega) (by omega)
      cases b with
      | true =>
        have hw : wrap64 ((x.length : Int) - 1) = (x.length : Int) - 1 := wrapS (by omega) (by omega)
        obtain ⟨q, p3, s3, e3, _, _, a3, b3⟩ := pick_ok hb p2 s2 9 (by omega) (by omega)
        obtain ⟨r, p', s', e, hr, a4, b4⟩ := ih (x ++ [⟨(rd_T93 x ((x.length : Int) - 1)).f0, (rd_T93 x ((x.length : Int) - 1)).f2, wrap64 ((wrap64 (((rd_T93 x ((x.length : Int) - 1)).f2) + 1)) + q)⟩]) p3 s3 (by simp; omega) (by omega) (by omega)
        refine ⟨r, p', s', ev_step e (fun k => ?_), hr, by omega, by omega⟩
        rw [spec_l1Cur_parts.l0, if_pos (by omega), e1, Option.bind_some, if_pos c, e2, Option.bind_some, if_pos rfl, hw, if_pos (by omega), if_pos (by omega), e3, Option.bind_some, if_pos (by omega)]
      | false =>
        obtain ⟨r, p', s', e, hr, a4, b4⟩ := ih (x ++ [⟨u, v, w⟩]) p2 s2 (by simp; omega) (by omega) (by omega)
        refine ⟨r, p', s', ev_step e (fun k => ?_), hr, by omega, by omega⟩
        rw [spec_l1Cur_parts.l0, if_pos (by omega), e1, Option.bind_some, if_pos c, e2, Option.bind_some, if_neg (by simp), if_pos (by omega)]
    · obtain ⟨r, p', s', e, hr, a4, b4⟩ := ih (x ++ [⟨u, v, w⟩]) p1 s1 (by simp; omega) (by omega) (by omega)
      refine ⟨r, p', s', ev_step e (fun k => ?_), hr, by omega, by omega⟩
      rw [spec_l1Cur_parts.l0, if_pos (by omega), e1, Option.bind_some, if_neg c, if_pos (by omega)]
theorem parts_ok {l : List Int} (hb : bytesOk l) (p s y : Int) (h0 : 0 ≤ p) (h1 : p ≤ 100000000000000000) :
    ∃ r p' s', Ev (fun k => spec_l1Cur_parts.f k l p s y) (r, p', s') ∧ r.length ≤ 13 ∧ p ≤ p' ∧ p' ≤ p + 400 := by
  obtain ⟨n, p1, s1, e1, n0, n1, a1, b1⟩ := pick_ok hb p s 6 h0 (by omega)
  have n1 := n1 (by omega)
  obtain ⟨b, p2, s2, e2, a2, b2⟩ := one_ok hb p1 s1 20 (by omega) (by omega)
  cases b with
  | true =>
    obtain ⟨m, p3, s3, e3, m0, m1, a3, b3⟩ := pick_ok hb p2 s2 2 (by omega) (by omega)
    have m1 := m1 (by omega)
    have hw : wrap64 (12 + m) = 12 + m := wrapS (by omega) (by omega)
    obtain ⟨r, p', s', e, hr, a4, b4⟩ := parts_l0 hb y (12 + m) (by omega) (12 + m).toNat [] p3 s3 (.inl (by simp; omega)) (by omega) (by omega)
    refine ⟨r, p', s', Ev.congr (fun k => ?_) (ev_step (g := fun k => spec_l1Cur_parts.j0 k y [] (12 + m) l p3 s3) e (fun k => by rw [spec_l1Cur_parts.j0])), hr, by omega, by omega⟩
    rw [spec_l1Cur_parts.f, e1, Option.bind_some, e2, Option.bind_some, if_pos rfl, e3, Option.bind_some, hw]
  | false =>
    obtain ⟨r, p', s', e, hr, a4, b4⟩ := parts_l0 hb y n (by omega) n.toNat [] p2 s2 (.inl (by simp; omega)) (by omega) (by omega)
    refine ⟨r, p', s', Ev.congr (fun k => ?_) (ev_step (g := fun k => spec_l1Cur_parts.j0 k y [] n l p2 s2) e (fun k => by rw [spec_l1Cur_parts.j0])), hr, by omega, by omega⟩
    rw [spec_l1Cur_parts.f, e1, Option.bind_some, e2, Option.bind_some, if_neg (by simp)]
theorem edStep_ok {l : List Int} (hb : bytesOk l) (p s : Int) (x : List S93) (hx : x.length ≤ 13) (h0 : 0 ≤ p) (h1 : p ≤ 100000000000000000) :
    ∃ r p' s', Ev (fun k => spec_l1Cur_editionStep.f k l p s x) (r, p', s') ∧ -1 ≤ r ∧ r ≤ 1000000 ∧ p ≤ p' ∧ p' ≤ p + 6 := by
  have fin : ∀ n : Int, 1 ≤ n → n ≤ 100000 → ∃ r p' s', (spec_l1Cur_pick.f l p s 16).bind (fun bt215 => ((spec_l1Cur_pick.f l bt215.2.1 bt215.2.2 (wrap64 (n + (wrap64 (Int.tdiv bt215.1 15))))).bind fun bt218 => ((spec_l1Cur_pick.f l bt218.2.1 bt218.2.2 24).bind fun bt221 => (some (wrap64 (bt218.1 - (wrap64 (Int.tdiv bt221.1 23))), bt221.2.1, bt221.2.2))))) = some (r, p', s') ∧ -1 ≤ r ∧ r ≤ 1000000 ∧ p ≤ p' ∧ p' ≤ p + 6 := by
    intro n hn hn2
    obtain ⟨i, p1, s1, e1, i0, i1, a1, b1⟩ := pick_ok hb p s 16 h0 (by omega)
    have i1 := i1 (by omega)
    have hi : Int.tdiv i 15 = i / 15 := Int.tdiv_eq_ediv_of_nonneg i0
    have hw : wrap64 (n + (wrap64 (Int.tdiv i 15))) = n + i / 15 := by rw [hi, wrapS (x := i / 15) (by omega) (by omega), wrapS (by omega) (by omega)]
    obtain ⟨j, p2, s2, e2, j0, j1, a2, b2⟩ := pick_ok hb p1 s1 (n + i / 15) (by omega) (by omega)
    have j1 := j1 (by omega)
    obtain ⟨k, p3, s3, e3, k0, k1, a3, b3⟩ := pick_ok hb p2 s2 24 (by omega) (by omega)
    have k1 := k1 (by omega)
    have hk : Int.tdiv k 23 = k / 23 := Int.tdiv_eq_ediv_of_nonneg k0
    have hw2 : wrap64 (j - (wrap64 (Int.tdiv k 23))) = j - k / 23 := by rw [hk, wrapS (x := k / 23) (by omega) (by omega), wrapS (by omega) (by omega)]
    exact ⟨j - k / 23, p3, s3, by rw [e1, Option.bind_some, hw, e2, Option.bind_some, e3, Option.bind_some, hw2], by omega, by omega, by omega, by omega⟩
  cases g : partsGood x with
  | false =>
    obtain ⟨r, p', s', e, q⟩ := fin 1 (by omega) (by omega)
    refine ⟨r, p', s', Ev.bind (edGood_ok x (by omega)) ?_, q⟩
    rw [g]
    exact ev_of_eq (fun _ => by simp only [Bool.false_eq_true, if_false]; exact e)
  | true =>
    obtain ⟨g1, g2, g3, g4, g5⟩ := good_parts g
    obtain ⟨r, p', s', e, q⟩ := fin (total x + 1) (by omega) (by omega)
    refine ⟨r, p', s', Ev.bind (edGood_ok x (by omega)) ?_, q⟩
    rw [g]
    simp only [if_true]
    refine Ev.bind (edLength_ok x (by omega)) (ev_of_eq (fun _ => ?_))
    rw [g5, wrapS (x := total x + 1) (by omega) (by omega)]
    exact e
theorem drawCutEd_ok {l : List Int} (hb : bytesOk l) : ∃ r a b, Ev (fun k => spec_DrawCutEdition.f k l) (r, a, b) ∧ r.length ≤ 13 := by
  obtain ⟨r, p, s, e, hr, a1, b1⟩ := parts_ok hb 0 0 3 (by omega) (by omega)
  obtain ⟨u, p2, s2, e2, _, _, a2, b2⟩ := edStep_ok hb p s r hr (by omega) (by omega)
  obtain ⟨v, p3, s3, e3, _, _, a3, b3⟩ := edStep_ok hb p2 s2 r hr (by omega) (by omega)
  obtain ⟨b, p4, s4, e4, a4, b4⟩ := one_ok hb p3 s3 8 (by omega) (by omega)
  cases b with
  | true =>
    refine ⟨r, u, v, Ev.bind e (Ev.bind e2 (Ev.bind e3 (ev_of_eq (fun _ => ?_)))), hr⟩
    simp only
    rw [e4, Option.bind_some, if_pos rfl]
  | false =>
    refine ⟨r, min u v, max u v, Ev.bind e (Ev.bind e2 (Ev.bind e3 (ev_of_eq (fun _ => ?_)))), hr⟩
    simp only
    rw [e4, Option.bind_some, if_neg (by simp), least_ok, Option.bind_some, most_ok, Option.bind_some]
theorem drawUsed_ok {l : List Int} (hb : bytesOk l) : ∃ r, Ev (fun k => spec_DrawUsedSources.f k l) r ∧ r.length ≤ 13 := by
  obtain ⟨r, p, s, e, hr, a1, b1⟩ := parts_ok hb 0 0 3 (by omega) (by omega)
  have h1 : Ev (fun k => spec_DrawLengthOfEdition.f k l) r := Ev.bind e (ev_of_eq (fun _ => rfl))
  exact ⟨r, Ev.bind h1 (ev_of_eq (fun _ => rfl)), hr⟩
theorem drawSrcAt_ok {l : List Int} (hb : bytesOk l) : ∃ r i, Ev (fun k => spec_DrawSourceAt.f k l) (r, i) ∧ r.length ≤ 13 ∧ i ≤ 1000000 := by
  obtain ⟨r, p, s, e, hr, a1, b1⟩ := parts_ok hb 0 0 3 (by omega) (by omega)
  obtain ⟨u, p2, s2, e2, _, hu, a2, b2⟩ := edStep_ok hb p s r hr (by omega) (by omega)
  exact ⟨r, u, Ev.bind e (Ev.bind e2 (ev_of_eq (fun _ => rfl))), hr, hu⟩
theorem drawSteps_ok {l : List Int} (hb : bytesOk l) : ∃ r i, Ev (fun k => spec_DrawStepsFrom.f k l) (r, i) ∧ r.length ≤ 13 := by
  obtain ⟨r, p, s, e, hr, a1, b1⟩ := parts_ok hb 0 0 3 (by omega) (by omega)
  obtain ⟨v, p2, s2, e2, _, a2, b2⟩ := among_ok hb p s (([4, (-1)] : List Int)) (by decide) (by omega) (by omega)
  obtain ⟨w, p3, s3, e3, _, a3, b3⟩ := among_ok hb p2 s2 (([0, 1, 2, 3, v] : List Int)) (by simp) (by omega) (by omega)
  exact ⟨r, w, Ev.bind e (ev_of_eq (fun _ => by simp only; rw [e2, Option.bind_some, e3, Option.bind_some])), hr⟩
theorem drawAre_ok {l : List Int} (hb : bytesOk l) : ∃ r i, Ev (fun k => spec_DrawAreParts.f k l) (r, i) ∧ r.length ≤ 13 := by
  obtain ⟨v, p2, s2, e2, _, a2, b2⟩ := among_ok hb 0 0 (([0, 5] : List Int)) (by decide) (by omega) (by omega)
  obtain ⟨w, p3, s3, e3, _, a3, b3⟩ := among_ok hb p2 s2 (([1, 2, 3, 4, v] : List Int)) (by simp) (by omega) (by omega)
  obtain ⟨r, p, s, e, hr, a1, b1⟩ := parts_ok hb p3 s3 w (by omega) (by omega)
  obtain ⟨K, e5⟩ := e
  refine ⟨r, w, ⟨K, fun k hk => ?_⟩, hr⟩
  have e6 := e5 k hk
  dsimp only at e6 ⊢
  rw [spec_DrawAreParts.f, e2, Option.bind_some, e3, Option.bind_some, e6]
  rfl

end Go.Proofs.YtkkhcemkppmgdaaDoor.LFnPartsD
