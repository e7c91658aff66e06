/- For every string the law FnExactReadChecksum answers true, after some number of rounds; the condition is the string's own bound. -/
import Derived.Test.YtlcobkldkcdhbaaPFnExactReadChecksumx1
import Derived.Test.YtlcobkldkcdhbaaBase
namespace Go.Proofs.Ytlcobkldkcdhbaa.Pure
open Go Go.RowKit Go.Proofs.Ytlcobkldkcdhbaa.PFnExactReadChecksum Go.Proofs.YtlcobkldkcdhbaaW.PrintWords Go.Proofs.YtlcobkldkcdhbaaW.PrintLast Go.Proofs.YtlcobkldkcdhbaaW.PrintMore Go.Proofs.Ytlcobkldkcdhbaa.Base
set_option linter.unusedVariables false
set_option linter.unusedSimpArgs false

theorem bt_data (s : ByteArray) (i : Nat) : bt s (i : Int) = ((s.data.toList.getD i 0).toNat : Int) := by
  unfold bt
  simp only [Int.toNat_natCast]
  split
  · rename_i h
    have h2 : i < s.data.toList.length := by simpa using h
    rw [List.getD_eq_getElem?_getD, List.getElem?_eq_getElem h2]
    rfl
  · rename_i h
    have h2 : ¬ i < s.data.toList.length := by simpa using h
    rw [List.getD_eq_getElem?_getD, List.getElem?_eq_none (by omega)]
    rfl
theorem one_data (s : ByteArray) : ((⟨#[49]⟩ : ByteArray) ++ s).data.toList = 49 :: s.data.toList := by
  simp
theorem one_size (s : ByteArray) : ((⟨#[49]⟩ : ByteArray) ++ s).size = s.size + 1 := by
  have h := congrArg List.length (one_data s)
  rw [List.length_cons, Array.length_toList, Array.length_toList] at h
  exact h
theorem bt_one (s : ByteArray) (i : Nat) : bt ((⟨#[49]⟩ : ByteArray) ++ s) ((i : Int) + 1) = bt s (i : Int) := by
  have e : (i : Int) + 1 = ((i + 1 : Nat) : Int) := by simp
  rw [e, bt_data, bt_data, one_data, List.getD_cons_succ]
theorem bt_one0 (s : ByteArray) : bt ((⟨#[49]⟩ : ByteArray) ++ s) 0 = 49 := by
  have h := bt_data ((⟨#[49]⟩ : ByteArray) ++ s) 0
  rw [one_data] at h
  simpa using h

/-- d digits more, from place i on. -/
def dig (s : ByteArray) : Nat → Nat → Int → Option Int
  | 0, _, n => some n
  | d + 1, i, n => if bt s (i : Int) < 48 then none else if bt s (i : Int) > 57 then none else dig s d (i + 1) (10 * n + (bt s (i : Int) - 48))

theorem pow_small (i : Nat) (h : i ≤ 8) : (1 : Int) ≤ 10 ^ i ∧ (10 : Int) ^ i ≤ 100000000 := by
  have : i = 0 ∨ i = 1 ∨ i = 2 ∨ i = 3 ∨ i = 4 ∨ i = 5 ∨ i = 6 ∨ i = 7 ∨ i = 8 := by omega
  rcases this with rfl | rfl | rfl | rfl | rfl | rfl | rfl | rfl | rfl <;> decide

def specRead (r : Option Int) : Int × Bool := match r with
  | none => (0, false)
  | some m => if 0 ≤ m ∧ m ≤ 1000002 then (m, true) else (0, false)

theorem specRead_l0 (s : ByteArray) (d : Nat) : ∀ (i : Nat) (n : Int), i + d = s.size → s.size ≤ 8 → 0 ≤ n → n < 10 ^ i →
    Ev (fun k => spec_ReadChecksum.l0 k s n (i : Int)) (specRead (dig s d i n)) := by
  induction d with
  | zero =>
    intro i n hi hs h0 h1
    refine ev_step (f := fun _ => some _) (Ev.now _) (fun k => ?_)
    rw [spec_ReadChecksum.l0, if_neg (by omega)]
    by_cases h2 : n ≤ 1000002
    · simp [spec_ckIs.f, spec_l1In.f, h0, h2, dig, specRead]
    · simp [spec_ckIs.f, spec_l1In.f, h0, h2, dig, specRead]
  | succ d ih =>
    intro i n hi hs h0 h1
    have hp := pow_small i (by omega)
    have hb := bt_range s (i : Int)
    by_cases c1 : bt s (i : Int) < 48
    · refine ev_step (f := fun _ => some _) (Ev.now _) (fun k => ?_)
      rw [spec_ReadChecksum.l0, if_pos (by omega), if_pos (by omega), if_pos c1]
      simp [dig, c1, specRead]
    by_cases c2 : bt s (i : Int) > 57
    · refine ev_step (f := fun _ => some _) (Ev.now _) (fun k => ?_)
      rw [spec_ReadChecksum.l0, if_pos (by omega), if_pos (by omega), if_neg c1, if_pos c2]
      simp [dig, c1, c2, specRead]
    have h := ih (i + 1) (10 * n + (bt s (i : Int) - 48)) (by omega) hs (by omega) (by rw [Int.pow_succ]; omega)
    refine ev_step (ev_eq h (by simp [dig, c1, c2])) (fun k => ?_)
    rw [spec_ReadChecksum.l0, if_pos (by omega), if_pos (by omega), if_neg c1, if_neg c2, Int.emod_eq_of_lt (by omega) (by omega), wrapS (x := 10 * n) (by omega) (by omega), wrapS (by omega) (by omega), wrapS (by omega) (by omega)]
    simp

def implRead (r : Option Int) : Int × Bool := match r with
  | none => (0, false)
  | some m => (m, true)

theorem decimal_l0 (s : ByteArray) (d : Nat) : ∀ (i : Nat) (n : Int), i + d = s.size → s.size ≤ 8 → 0 ≤ n → n < 10 ^ i →
    Ev (fun k => impl_decimal.l0 k ((⟨#[49]⟩ : ByteArray) ++ s) (10 ^ i + n) ((i : Int) + 1)) (implRead ((dig s d i n).map (fun m => 10 ^ s.size + m))) := by
  induction d with
  | zero =>
    intro i n hi hs h0 h1
    refine ev_step (f := fun _ => some _) (Ev.now _) (fun k => ?_)
    rw [impl_decimal.l0, if_neg (by rw [one_size]; omega)]
    have : i = s.size := by omega
    subst this
    simp [dig, implRead]
  | succ d ih =>
    intro i n hi hs h0 h1
    have hp := pow_small i (by omega)
    have hb := bt_range s (i : Int)
    have hz : (i : Int) + 1 < ((((⟨#[49]⟩ : ByteArray) ++ s).size : Nat) : Int) := by rw [one_size]; omega
    by_cases c1 : bt s (i : Int) < 48
    · refine ev_step (f := fun _ => some _) (Ev.now _) (fun k => ?_)
      rw [impl_decimal.l0, if_pos hz, if_pos (by omega), bt_one, if_pos c1]
      simp [dig, c1, implRead]
    by_cases c2 : bt s (i : Int) > 57
    · refine ev_step (f := fun _ => some _) (Ev.now _) (fun k => ?_)
      rw [impl_decimal.l0, if_pos hz, if_pos (by omega), bt_one, if_neg c1, if_pos c2]
      simp [dig, c1, c2, implRead]
    have h := ih (i + 1) (10 * n + (bt s (i : Int) - 48)) (by omega) hs (by omega) (by rw [Int.pow_succ]; omega)
    refine ev_step (ev_eq h (by simp [dig, c1, c2])) (fun k => ?_)
    rw [impl_decimal.l0, if_pos hz, if_pos (by omega), bt_one, if_neg c1, if_neg c2, Int.emod_eq_of_lt (by omega) (by omega), wrapS (x := 10 * (10 ^ i + n)) (by omega) (by omega), wrapS (by omega) (by omega), wrapS (by omega) (by omega)]
    have e1 : 10 * (10 ^ i + n) + (bt s (i : Int) - 48) = 10 ^ (i + 1) + (10 * n + (bt s (i : Int) - 48)) := by rw [Int.pow_succ]; omega
    have e2 : ((i + 1 : Nat) : Int) = (i : Int) + 1 := by simp
    rw [e1, e2]

theorem decimal_ok (s : ByteArray) (hs : s.size ≤ 8) : Ev (fun k => impl_decimal.f k ((⟨#[49]⟩ : ByteArray) ++ s)) (implRead ((dig s s.size 0 0).map (fun m => 10 ^ s.size + m))) := by
  have h := decimal_l0 s s.size 0 0 (by omega) hs (by omega) (by decide)
  have h1 : Ev (fun k => impl_decimal.l0 k ((⟨#[49]⟩ : ByteArray) ++ s) 0 0) (implRead ((dig s s.size 0 0).map (fun m => 10 ^ s.size + m))) := by
    refine ev_step h (fun k => ?_)
    rw [impl_decimal.l0, if_pos (by rw [one_size]; omega), if_pos (by omega), bt_one0]
    simp [wrap64]
  have h2 : Ev (fun k => impl_decimal.j0 k ((⟨#[49]⟩ : ByteArray) ++ s) false) (implRead ((dig s s.size 0 0).map (fun m => 10 ^ s.size + m))) := by
    refine ev_step h1 (fun k => ?_)
    rw [impl_decimal.j0, if_neg (by decide)]
  refine Ev.congr (fun k => ?_) h2
  have hne : ¬ ((⟨#[49]⟩ : ByteArray) ++ s).toList = [] := by
    rw [ByteArray.toList_eq, one_data]
    simp
  rw [impl_decimal.f, if_neg hne, if_neg (by rw [one_size]; omega), if_pos (by rw [one_size]; omega), bt_one0, if_neg (by decide)]

theorem decimal_long (s : ByteArray) (hs : 8 < s.size) : Ev (fun k => impl_decimal.f k ((⟨#[49]⟩ : ByteArray) ++ s)) (0, false) := by
  have h2 : Ev (fun k => impl_decimal.j0 k ((⟨#[49]⟩ : ByteArray) ++ s) true) (0, false) := by
    refine ev_step (f := fun _ => some _) (Ev.now _) (fun k => ?_)
    rw [impl_decimal.j0, if_pos rfl]
  refine Ev.congr (fun k => ?_) h2
  rw [impl_decimal.f]
  split
  · rfl
  · rw [if_pos (by rw [one_size]; omega)]

theorem spec_ok (s : ByteArray) (h : s.size = 7) : Ev (fun k => spec_ReadChecksum.f k s) (specRead (dig s 7 0 0)) := by
  have h1 := specRead_l0 s 7 0 0 (by omega) (by omega) (by omega) (by decide)
  refine Ev.congr (fun k => ?_) h1
  rw [spec_ReadChecksum.f, if_pos (by omega)]
  rfl

theorem impl_ok (s : ByteArray) (h : s.size = 7) : Ev (fun k => impl_ReadChecksum.f k s) (specRead (dig s 7 0 0)) := by
  have h1 := decimal_ok s (by omega)
  rw [h] at h1
  have hb : ∀ m, dig s 7 0 0 = some m → 0 ≤ m ∧ m < 10000000 := by
    have key : ∀ (d i : Nat) (n m : Int), i + d = 7 → 0 ≤ n → n < 10 ^ i → dig s d i n = some m → 0 ≤ m ∧ m < 10000000 := by
      intro d
      induction d with
      | zero =>
        intro i n m hi h0 h1 h2
        obtain rfl : i = 7 := by omega
        simp only [dig, Option.some.injEq] at h2
        subst h2
        exact ⟨h0, by simpa using h1⟩
      | succ d ih =>
        intro i n m hi h0 h1 h2
        simp only [dig] at h2
        have hp := pow_small i (by omega)
        split at h2
        · simp at h2
        · split at h2
          · simp at h2
          · exact ih (i + 1) _ m (by omega) (by omega) (by rw [Int.pow_succ]; omega) h2
    intro m hm
    exact key 7 0 0 m (by omega) (by omega) (by decide) hm
  refine Ev.congr (f := fun k => (impl_decimal.f k ((⟨#[49]⟩ : ByteArray) ++ s)).bind (fun bt103 => (if bt103.2 = true then (if (s.size : Int) = 7 then ((impl_isChecksum.f (wrap64 (bt103.1 - 10000000))).bind fun t105 => (if t105 = true then (some (wrap64 (bt103.1 - 10000000), true)) else (some (0, false)))) else (some (0, false))) else (some (0, false))))) (fun k => ?_) (Ev.bind h1 ?_)
  · rw [impl_ReadChecksum.f, if_pos (by omega)]
  · cases hd : dig s 7 0 0 with
    | none =>
      refine Ev.congr (f := fun _ => some _) (fun k => ?_) (Ev.now _)
      simp [implRead, specRead]
    | some m =>
      have hm := hb m hd
      refine Ev.congr (f := fun _ => some _) (fun k => ?_) (Ev.now _)
      have e1 : wrap64 (10 ^ 7 + m - 10000000) = m := by rw [wrapS (by omega) (by omega)]; omega
      simp only [implRead, Option.map_some, if_true, e1, h, impl_isChecksum.f]
      by_cases h2 : m ≤ 1000002
      · simp [specRead, hm.1, h2, show m < 1000003 by omega]
      · simp [specRead, hm.1, h2, show ¬ m < 1000003 by omega]

theorem FnExactReadChecksum : laws_FnExactReadChecksum.Pure := by
  intro s _
  by_cases hl : (s.size : Int) > 1048576
  · exact ⟨0, by rw [laws_FnExactReadChecksum.f, if_pos hl]⟩
  by_cases h7 : s.size = 7
  · obtain ⟨K1, h1⟩ := spec_ok s h7
    obtain ⟨K2, h2⟩ := impl_ok s h7
    dsimp only at h1 h2
    refine ⟨K1 + K2, ?_⟩
    simp (disch := omega) only [laws_FnExactReadChecksum.f, hl, if_false, h1, h2, Option.bind_some, if_true, bnot_ne, Bool.false_eq_true]
  · have h1 : ∀ k, spec_ReadChecksum.f k s = some (0, false) := fun k => by rw [spec_ReadChecksum.f, if_neg (by omega)]
    have h2 : Ev (fun k => impl_ReadChecksum.f k s) (0, false) := by
      have hd : ∃ r, Ev (fun k => impl_decimal.f k ((⟨#[49]⟩ : ByteArray) ++ s)) r := by
        by_cases h8 : s.size ≤ 8
        · exact ⟨_, decimal_ok s h8⟩
        · exact ⟨_, decimal_long s (by omega)⟩
      obtain ⟨r, hr⟩ := hd
      obtain ⟨K, hK⟩ := hr
      refine ⟨K, fun k hk => ?_⟩
      have e := hK k hk
      dsimp only at e ⊢
      rw [impl_ReadChecksum.f, if_pos (by omega), e]
      simp only [Option.bind_some]
      split
      · rw [if_neg (by omega)]
      · rfl
    obtain ⟨K2, h2⟩ := h2
    dsimp only at h2
    refine ⟨K2, ?_⟩
    simp (disch := omega) only [laws_FnExactReadChecksum.f, hl, if_false, h1, h2, Option.bind_some, if_true, bnot_ne, Bool.false_eq_true]

end Go.Proofs.Ytlcobkldkcdhbaa.Pure
