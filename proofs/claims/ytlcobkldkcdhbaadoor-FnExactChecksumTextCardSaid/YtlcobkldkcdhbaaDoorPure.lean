/- Plain lemmas: the text of a checksum is its decimal digits, filled up with zeros to seven; the digits of the number plus ten millions, without the first one, are the same text. -/
import Derived.Test.YtlcobkldkcdhbaaDoorQText
import Derived.Lib.ItoaNum
import Derived.Lib.ItoaMem
namespace Go.Proofs.YtlcobkldkcdhbaaDoor.Pure
open Go Go.RowKit Go.Lib
open Go.Proofs.YtlcobkldkcdhbaaDoorW.PrintWords Go.Proofs.YtlcobkldkcdhbaaDoor.PFnExactChecksumText

/-- The last k digits of n, zeros ahead. -/
def tailDigits : Nat → Nat → List UInt8
  | 0, _ => []
  | k + 1, n => tailDigits k (n / 10) ++ [UInt8.ofNat (48 + n % 10)]
theorem tailDigits_length (k n : Nat) : (tailDigits k n).length = k := by
  induction k generalizing n with
  | zero => rfl
  | succ k ih => simp [tailDigits, ih]
theorem dec_head (k n d : Nat) (hn : n < 10 ^ k) (hd : 1 ≤ d) : decDigits (d * 10 ^ k + n) = decDigits d ++ tailDigits k n := by
  induction k generalizing n with
  | zero => simp at hn; subst hn; simp [tailDigits]
  | succ k ih =>
    have h1 : 1 ≤ 10 ^ k := Nat.one_le_pow _ _ (by omega)
    have e : d * 10 ^ (k + 1) = 10 * (d * 10 ^ k) := by rw [Nat.pow_succ]; ac_rfl
    have h2 : 1 ≤ d * 10 ^ k := Nat.mul_pos hd h1
    have hn' : n < 10 * 10 ^ k := by rw [Nat.pow_succ] at hn; omega
    rw [e, decDigits, dif_neg (by omega), show (10 * (d * 10 ^ k) + n) / 10 = d * 10 ^ k + n / 10 by omega, show (10 * (d * 10 ^ k) + n) % 10 = n % 10 by omega,
      ih (n / 10) (by omega), tailDigits, List.append_assoc]
theorem dec_pad (k n : Nat) (hn : n < 10 ^ (k + 1)) : (decDigits n).length ≤ k + 1 ∧ List.replicate (k + 1 - (decDigits n).length) 48 ++ decDigits n = tailDigits (k + 1) n := by
  induction k generalizing n with
  | zero =>
    simp at hn
    rw [decDigits_one hn]
    refine ⟨by simp, ?_⟩
    simp [tailDigits, Nat.mod_eq_of_lt hn]
  | succ k ih =>
    have hn' : n < 10 * 10 ^ (k + 1) := by rw [Nat.pow_succ] at hn; omega
    obtain ⟨hl, he⟩ := ih (n / 10) (by omega)
    by_cases h : n < 10
    · have h0 : n / 10 = 0 := by omega
      rw [h0] at hl he
      rw [decDigits_one (show (0 : Nat) < 10 by omega)] at hl he
      rw [decDigits_one h]
      refine ⟨by simp, ?_⟩
      rw [tailDigits, h0, ← he, Nat.mod_eq_of_lt h]
      simp only [List.length_cons, List.length_nil, Nat.zero_add, Nat.add_sub_cancel]
      rw [List.replicate_succ', List.append_assoc, List.append_assoc]
      rfl
    · rw [decDigits, dif_neg h]
      refine ⟨by simp; omega, ?_⟩
      rw [tailDigits, ← he]
      simp only [List.length_append, List.length_cons, List.length_nil, Nat.zero_add, List.append_assoc]
      congr 2
      omega
/-- The two texts are one. -/
theorem same_text (n : Nat) (hn : n < 10000000) : (decDigits (10000000 + n)).drop 1 = List.replicate (7 - (decDigits n).length) 48 ++ decDigits n := by
  have h := dec_head 7 n 1 (by simpa using hn) (Nat.le_refl _)
  rw [show (1 : Nat) * 10 ^ 7 + n = 10000000 + n by omega, decDigits_one (show (1 : Nat) < 10 by omega)] at h
  rw [h, (dec_pad 6 n (by simpa using hn)).2]
  rfl

theorem bytes_append (a b : List UInt8) : (⟨a.toArray⟩ : ByteArray) ++ ⟨b.toArray⟩ = ⟨(a ++ b).toArray⟩ := by
  apply ByteArray.ext
  rw [ByteArray.data_append]
  simp
theorem wrapS {x : Int} (h0 : -9223372036854775808 ≤ x) (h1 : x ≤ 9223372036854775807) : wrap64 x = x := by
  unfold wrap64; omega
theorem num_ev (u : Nat) (hu : u < 9223372036854775807) : Ev (fun k => spec_l1Num.f k (u : Int)) (⟨(decDigits u).toArray⟩ : ByteArray) := by
  induction u using Nat.strongRecOn with
  | _ u ih =>
    by_cases h : u < 10
    · refine Ev.step (f := fun _ => some (⟨(decDigits u).toArray⟩ : ByteArray)) (fun k => ?_) (Ev.now _)
      simp only [spec_l1Num.f]
      rw [if_pos (by omega), decDigits_one h, wrapS (by omega) (by omega), Int.emod_eq_of_lt (by omega) (by omega)]
      congr 2
    · have hd : wrap64 (Int.tdiv (u : Int) 10) = ((u / 10 : Nat) : Int) := by
        rw [Int.tdiv_eq_ediv_of_nonneg (by omega), wrapS (by omega) (by omega)]
        omega
      have hm : (wrap64 (48 + Int.tmod (u : Int) 10)) % 256 = ((48 + u % 10 : Nat) : Int) := by
        rw [Int.tmod_eq_emod_of_nonneg (by omega), wrapS (by omega) (by omega)]
        omega
      have hl : (decDigits (u / 10)).length ≤ 19 := (dec_pad 18 (u / 10) (by omega)).1
      have hc : (strOfNums [((48 + u % 10 : Nat) : Int)]) = (⟨[UInt8.ofNat (48 + u % 10)].toArray⟩ : ByteArray) := rfl
      refine Ev.step (f := fun k => (spec_l1Num.f k ((u / 10 : Nat) : Int)).bind fun t => if t.size + (strOfNums [((48 + u % 10 : Nat) : Int)]).size ≤ 9223372036854775807 then some (t ++ strOfNums [((48 + u % 10 : Nat) : Int)]) else none) (fun k => ?_) ?_
      · simp only [spec_l1Num.f]
        rw [if_neg (by omega), hd, hm]
        rfl
      · refine Ev.bind (ih (u / 10) (by omega) (by omega)) ?_
        refine Ev.congr (f := fun _ => some (⟨(decDigits u).toArray⟩ : ByteArray)) (fun k => ?_) (Ev.now _)
        rw [hc, if_pos (by simp [ByteArray.size]; omega), bytes_append, decDigits.eq_1 u, dif_neg h]
theorem pad_ev (m : Nat) (l : List UInt8) (hm : m = 7 - l.length) : Ev (fun k => spec_ckText.l0 k (⟨l.toArray⟩ : ByteArray)) (⟨(List.replicate m 48 ++ l).toArray⟩ : ByteArray) := by
  induction m generalizing l with
  | zero =>
    refine Ev.step (f := fun _ => some (⟨l.toArray⟩ : ByteArray)) (fun k => ?_) (Ev.now _)
    simp only [spec_ckText.l0]
    rw [if_neg (by simp [ByteArray.size]; omega)]
  | succ m ih =>
    refine Ev.step (f := fun k => spec_ckText.l0 k (⟨((48 : UInt8) :: l).toArray⟩ : ByteArray)) (fun k => ?_) ?_
    · simp only [spec_ckText.l0]
      rw [if_pos (by simp [ByteArray.size]; omega), if_pos (by simp [ByteArray.size]; omega)]
      have := bytes_append [48] l
      rw [show (⟨#[48]⟩ : ByteArray) = ⟨[(48 : UInt8)].toArray⟩ from rfl, this]
      rfl
    · have h := ih (48 :: l) (by simp; omega)
      rw [List.replicate_succ', List.append_assoc]
      exact h
/-- What the model's text is. -/
theorem text_ev (n : Nat) (hn : n < 10000000) : Ev (fun k => spec_ckText.f k (n : Int)) (⟨((decDigits (10000000 + n)).drop 1).toArray⟩ : ByteArray) := by
  rw [same_text n hn]
  exact Ev.bind (num_ev n (by omega)) (pad_ev _ _ rfl)
theorem spec_yes (n : Nat) (hn : n < 1000003) : ∃ k, spec_ChecksumText.f k (n : Int) = some ((⟨((decDigits (10000000 + n)).drop 1).toArray⟩ : ByteArray), true) := by
  obtain ⟨k, hk⟩ := (text_ev n (by omega)).rounds
  refine ⟨k, ?_⟩
  have h1 : spec_ckIs.f (n : Int) = some true := by
    simp only [spec_ckIs.f, spec_l1In.f]
    rw [if_pos (by omega), Option.bind_some]
    exact congrArg some (decide_eq_true (by omega))
  simp only [spec_ChecksumText.f]
  rw [h1, Option.bind_some, if_pos rfl, hk, Option.bind_some]
theorem spec_no (a : Int) (h : ¬ (0 ≤ a ∧ a < 1000003)) : spec_ChecksumText.f 0 a = some ((⟨#[]⟩ : ByteArray), false) := by
  have h1 : spec_ckIs.f a = some false := by
    simp only [spec_ckIs.f, spec_l1In.f]
    by_cases h0 : a ≥ 0
    · rw [if_pos h0, Option.bind_some]
      exact congrArg some (decide_eq_false (by omega))
    · rw [if_neg h0, Option.bind_some]
  simp only [spec_ChecksumText.f]
  rw [h1, Option.bind_some, if_neg (by decide)]
theorem impl_yes (n : Nat) (hn : n < 1000003) : impl_isChecksum.f (n : Int) = some true := by
  simp only [impl_isChecksum.f]
  rw [if_pos (by omega)]
  exact congrArg some (decide_eq_true (by omega))
theorem impl_no (a : Int) (h : ¬ (0 ≤ a ∧ a < 1000003)) : impl_isChecksum.f a = some false := by
  simp only [impl_isChecksum.f]
  by_cases h0 : a ≥ 0
  · rw [if_pos h0]
    exact congrArg some (decide_eq_false (by omega))
  · rw [if_neg h0]
theorem dec_length (n : Nat) (hn : n < 10000000) : (decDigits (10000000 + n)).length = 8 := by
  have h := dec_head 7 n 1 (by simpa using hn) (Nat.le_refl _)
  rw [show (1 : Nat) * 10 ^ 7 + n = 10000000 + n by omega, decDigits_one (show (1 : Nat) < 10 by omega)] at h
  rw [h]
  simp [tailDigits_length]
end Go.Proofs.YtlcobkldkcdhbaaDoor.Pure
