/- Plain lemmas on what the printed functions of this law compute; each with the conditions that it names. -/
import Derived.Test.YtlbbkepkincleaaQFnRollsx1
import Derived.Test.YtlbbkepkincleaaQFnRollsx2
import Derived.Test.YtlbbkepkincleaaQFnRollsx3
import Derived.Test.YtlbbkepkincleaaQFnRollsx4
import Derived.Test.YtlbbkepkincleaaQFnRollsx5
import Derived.Test.YtlbbkepkincleaaQFnRollsx6
import Derived.Test.YtlbbkepkincleaaQFnRollsx7
import Derived.Test.YtlbbkepkincleaaQFnRollsx8
import Derived.Test.YtlbbkepkincleaaQFnRollsx9
import Derived.Test.YtlbbkepkincleaaQFnRollsx10
import Derived.Test.YtlbbkepkincleaaQFnRollsx11
import Derived.Test.YtlbbkepkincleaaBaseFnRolls
import Derived.Laws.Bits64b
namespace Go.Proofs.Ytlbbkepkincleaa.LFnRollsD
open Go Go.RowKit Go.Proofs.Ytlbbkepkincleaa.QFnRolls Go.Proofs.YtlbbkepkincleaaW.PrintWords Go.Proofs.YtlbbkepkincleaaW.PrintLast Go.Proofs.YtlbbkepkincleaaW.PrintMore Go.Proofs.Ytlbbkepkincleaa.Base
set_option linter.unusedVariables false
set_option linter.unusedSimpArgs false

/-! a cursor's draws: what they give lies in bounds, and the cursor goes on by few places -/
def bytesOk (l : List Int) : Prop := ∀ x ∈ l, 0 ≤ x ∧ x ≤ 255
def lcg (s b : Int) : Int := (s * 6364136223846793005 + b + 1442695040888963407) % 18446744073709551616
theorem and255 (x : Int) (h0 : 0 ≤ x) (h1 : x < 18446744073709551616) : Go.bits .and .u64 x 255 = x % 256 := by
  obtain ⟨n, rfl⟩ : ∃ n : Nat, x = n := ⟨x.toNat, by omega⟩
  have h := bits_and_u64_nat n 255 (by omega) (by omega)
  have h2 := Nat.and_two_pow_sub_one_eq_mod n 8
  rw [show (2 : Nat) ^ 8 - 1 = 255 from rfl, show (2 : Nat) ^ 8 = 256 from rfl] at h2
  rw [h2] at h
  exact h.trans (by omega)
theorem lcg_eq (s b : Int) : IntKind.u64.wrap ((IntKind.u64.wrap ((IntKind.u64.wrap (s * 6364136223846793005)) + (IntKind.u64.wrap b))) + 1442695040888963407) = lcg s b := by
  simp only [IntKind.wrap_u64, lcg]; omega
theorem lcg_eq0 (s : Int) : IntKind.u64.wrap ((IntKind.u64.wrap (IntKind.u64.wrap (s * 6364136223846793005))) + 1442695040888963407) = lcg s 0 := by
  simp only [IntKind.wrap_u64, lcg]; omega
theorem lcg_lt (s b : Int) : 0 ≤ lcg s b ∧ lcg s b < 18446744073709551616 := by unfold lcg; omega
theorem rd_byte {l : List Int} (hb : bytesOk l) (p : Int) (h0 : 0 ≤ p) (h1 : p < l.length) : 0 ≤ rd l p ∧ rd l p ≤ 255 := by
  obtain ⟨n, rfl⟩ : ∃ n : Nat, p = n := ⟨p.toNat, by omega⟩
  rw [rd_nat l n (by omega)]
  exact hb _ (List.getElem_mem _)
theorem next_in {l : List Int} (hb : bytesOk l) (p s : Int) (h0 : 0 ≤ p) (h1 : p < l.length) (h2 : p ≤ 4000000000000000000) : spec_l1Cur_next.f l p s = some (rd l p, p + 1, lcg s (rd l p)) := by
  have hr := rd_byte hb p h0 h1
  have hw : wrap64 (p + 1) = p + 1 := wrapS (by omega) (by omega)
  have hw2 : wrap64 (rd l p) = rd l p := wrapS (by omega) (by omega)
  rw [spec_l1Cur_next.f, if_pos h1, if_pos h0, hw, if_pos (by omega), hw2, lcg_eq]
theorem next_out {l : List Int} (p s : Int) (h1 : ¬ p < l.length) (h0 : 0 ≤ p) (h2 : p ≤ 4000000000000000000) : spec_l1Cur_next.f l p s = some ((lcg s 0 / 1099511627776) % 256, p + 1, lcg s 0) := by
  have hw : wrap64 (p + 1) = p + 1 := wrapS (by omega) (by omega)
  have hl := lcg_lt s 0
  rw [spec_l1Cur_next.f, if_neg h1, hw, if_neg (by omega), lcg_eq0, and255 _ (by omega) (by omega), wrapS (by omega) (by omega)]
theorem next_ok {l : List Int} (hb : bytesOk l) (p s : Int) (h0 : 0 ≤ p) (h2 : p ≤ 4000000000000000000) : ∃ b s', spec_l1Cur_next.f l p s = some (b, p + 1, s') ∧ 0 ≤ b ∧ b ≤ 255 := by
  by_cases h : p < l.length
  · exact ⟨_, _, next_in hb p s h0 h h2, rd_byte hb p h0 h⟩
  · exact ⟨_, _, next_out p s h h0 h2, by omega, by omega⟩
theorem pick_ok {l : List Int} (hb : bytesOk l) (p s n : Int) (h0 : 0 ≤ p) (h2 : p ≤ 3000000000000000000) : ∃ r p' s', spec_l1Cur_pick.f l p s n = some (r, p', s') ∧ 0 ≤ r ∧ (1 ≤ n → r < n) ∧ p ≤ p' ∧ p' ≤ p + 2 ∧ (2 ≤ n → p + 1 ≤ p') := by
  by_cases c : n ≤ 1
  · exact ⟨0, p, s, by rw [spec_l1Cur_pick.f, if_pos c], by omega, by omega, by omega, by omega, by omega⟩
  · obtain ⟨b, s1, e1, b0, b1⟩ := next_ok hb p s h0 (by omega)
    by_cases d : n > 200
    · obtain ⟨b2, s2, e2, c0, c1⟩ := next_ok hb (p + 1) s1 (by omega) (by omega)
      refine ⟨Int.tmod (b * 256 + b2) n, p + 1 + 1, s2, ?_, ?_, ?_, by omega, by omega, by omega⟩
      · rw [spec_l1Cur_pick.f, if_neg c, e1]
        simp only [Option.bind_some]
        rw [if_pos d, e2]
        simp only [Option.bind_some]
        rw [if_neg (by omega), wrapS (x := b * 256) (by omega) (by omega), wrapS (by omega) (by omega)]
      · exact Int.tmod_nonneg _ (by omega)
      · intro _; exact Int.tmod_lt_of_pos _ (by omega)
    · refine ⟨Int.tmod b n, p + 1, s1, ?_, ?_, ?_, by omega, by omega, by omega⟩
      · rw [spec_l1Cur_pick.f, if_neg c, e1]
        simp only [Option.bind_some]
        rw [if_neg d, if_neg (by omega)]
      · exact Int.tmod_nonneg _ (by omega)
      · intro _; exact Int.tmod_lt_of_pos _ (by omega)
theorem rd_mem {xs : List Int} (r : Int) (h0 : 0 ≤ r) (h1 : r < xs.length) : rd xs r ∈ xs := by
  obtain ⟨n, rfl⟩ : ∃ n : Nat, r = n := ⟨r.toNat, by omega⟩
  rw [rd_nat xs n (by omega)]
  exact List.getElem_mem _
theorem among_ok {l : List Int} (hb : bytesOk l) (p s : Int) (xs : List Int) (hx : 1 ≤ xs.length) (h0 : 0 ≤ p) (h2 : p ≤ 3000000000000000000) : ∃ r p' s', spec_l1Cur_among.f l p s xs = some (r, p', s') ∧ r ∈ xs ∧ p ≤ p' ∧ p' ≤ p + 2 := by
  obtain ⟨r, p', s', e, r0, r1, q0, q1⟩ := pick_ok hb p s (xs.length : Int) h0 h2
  have r1 := r1 (by omega)
  refine ⟨rd xs r, p', s', ?_, rd_mem r r0 r1, q0, q1.1⟩
  rw [spec_l1Cur_among.f, e]
  simp only [Option.bind_some]
  rw [if_pos r0, if_pos r1]
theorem one_ok {l : List Int} (hb : bytesOk l) (p s n : Int) (h0 : 0 ≤ p) (h2 : p ≤ 3000000000000000000) : ∃ r p' s', spec_l1Cur_one.f l p s n = some (r, p', s') ∧ p ≤ p' ∧ p' ≤ p + 2 := by
  obtain ⟨r, p', s', e, _, _, q0, q1⟩ := pick_ok hb p s n h0 h2
  exact ⟨r == 0, p', s', by rw [spec_l1Cur_one.f, e]; rfl, q0, q1.1⟩

/-! drawn rolls -/
def tiny (x : S29) : Prop := x.f0.size ≤ 20 ∧ x.f1.size ≤ 20
theorem rdO_mem {xs : List ByteArray} (r : Int) (h0 : 0 ≤ r) (h1 : r < xs.length) : rdOf ByteArray.empty xs r ∈ xs := by
  obtain ⟨n, rfl⟩ : ∃ n : Nat, r = n := ⟨r.toNat, by omega⟩
  have h : n < xs.length := by omega
  simp only [rdOf, List.getD_eq_getElem?_getD, Int.toNat_natCast, List.getElem?_eq_getElem h, Option.getD_some]
  exact List.getElem_mem _
theorem rdR_mem {xs : List S29} (r : Int) (h0 : 0 ≤ r) (h1 : r < xs.length) : rd_T29 xs r ∈ xs := by
  obtain ⟨n, rfl⟩ : ∃ n : Nat, r = n := ⟨r.toNat, by omega⟩
  have h : n < xs.length := by omega
  simp only [rd_T29, List.getD_eq_getElem?_getD, Int.toNat_natCast, List.getElem?_eq_getElem h, Option.getD_some]
  exact List.getElem_mem _
theorem of_ok {l : List Int} (hb : bytesOk l) (p s : Int) (xs : List ByteArray) (hx : 1 ≤ xs.length) (h0 : 0 ≤ p) (h2 : p ≤ 3000000000000000000) : ∃ r p' s', spec_l1Cur_of.f l p s xs = some (r, p', s') ∧ r ∈ xs ∧ p ≤ p' ∧ p' ≤ p + 2 := by
  obtain ⟨r, p', s', e, r0, r1, q0, q1⟩ := pick_ok hb p s (xs.length : Int) h0 h2
  have r1 := r1 (by omega)
  refine ⟨rdOf ByteArray.empty xs r, p', s', ?_, rdO_mem r r0 r1, q0, q1.1⟩
  rw [spec_l1Cur_of.f, e]
  simp only [Option.bind_some]
  rw [if_pos r0, if_pos r1]
theorem of_small {l : List Int} (hb : bytesOk l) (p s : Int) (xs : List ByteArray) (hx : 1 ≤ xs.length) (hs : ∀ y ∈ xs, y.size ≤ 20) (h0 : 0 ≤ p) (h2 : p ≤ 3000000000000000000) : ∃ r p' s', spec_l1Cur_of.f l p s xs = some (r, p', s') ∧ r.size ≤ 20 ∧ p ≤ p' ∧ p' ≤ p + 2 := by
  obtain ⟨r, p', s', e, hr, q⟩ := of_ok hb p s xs hx h0 h2
  exact ⟨r, p', s', e, hs r hr, q⟩
theorem maker_ok {l : List Int} (hb : bytesOk l) (p s : Int) (h0 : 0 ≤ p) (h2 : p ≤ 3000000000000000000) : ∃ r p' s', spec_l1Cur_maker.f l p s = some (r, p', s') ∧ r.size ≤ 20 ∧ p ≤ p' ∧ p' ≤ p + 2 := by
  unfold spec_l1Cur_maker.f
  obtain ⟨r, p', s', e, hr, q⟩ := of_small hb p s (([(⟨#[119, 101, 108, 116, 101]⟩ : ByteArray), (⟨#[104, 117, 112, 102, 101, 108, 100]⟩ : ByteArray), (⟨#[114, 101, 117, 103, 101]⟩ : ByteArray), (⟨#[97]⟩ : ByteArray), (⟨#[112, 111, 112, 112, 101, 114]⟩ : ByteArray)] : List ByteArray)) (by decide) (by decide) h0 h2
  exact ⟨r, p', s', by rw [e]; rfl, hr, q⟩
theorem tiny_set {x : List S29} (hx : ∀ y ∈ x, tiny y) (i : Nat) (z : S29) (hz : tiny z) : ∀ y ∈ x.set i z, tiny y := by
  intro y hy
  rcases List.mem_or_eq_of_mem_set hy with h | rfl
  · exact hx y h
  · exact hz
theorem tiny_snoc {x : List S29} (hx : ∀ y ∈ x, tiny y) (z : S29) (hz : tiny z) : ∀ y ∈ x ++ [z], tiny y := by
  intro y hy
  rcases List.mem_append.1 hy with h | h
  · exact hx y h
  · rw [List.mem_singleton.1 h]; exact hz
theorem rolls_j3 {l : List Int} (hb : bytesOk l) (x : List S29) (hl : x.length ≤ 31) (hx : ∀ y ∈ x, tiny y) (p s : Int) (h0 : 0 ≤ p) (h1 : p ≤ 1000000000000000000) :
    ∃ r p' s', Ev (fun k => spec_l1Cur_rolls.j3 k x l p s) (r, p', s') ∧ r.length ≤ 31 ∧ (∀ y ∈ r, tiny y) ∧ p ≤ p' ∧ p' ≤ p + 6 := by
  by_cases c : (x.length : Int) > 0
  · obtain ⟨i, p1, s1, e1, i0, i1, a1, b1⟩ := pick_ok hb p s (x.length : Int) h0 (by omega)
    have i1 := i1 (by omega)
    obtain ⟨n, p2, s2, e2, _, _, a2, b2⟩ := pick_ok hb p1 s1 30 (by omega) (by omega)
    have hm := hx _ (rdR_mem i i0 i1)
    by_cases c0 : n = 0
    · obtain ⟨v, p3, s3, e3, hv, a3, b3⟩ := of_small hb p2 s2 (([(⟨#[]⟩ : ByteArray), (⟨#[65]⟩ : ByteArray), (⟨#[119, 97, 108, 116, 122]⟩ : ByteArray), (⟨#[97, 98, 99, 100, 101, 102, 103, 104, 105, 106, 107, 108, 109]⟩ : ByteArray), (⟨#[97, 32, 98]⟩ : ByteArray)] : List ByteArray)) (by decide) (by decide) (by omega) (by omega)
      refine ⟨x.set (i : Int).toNat ⟨v, (rd_T29 x i).f1, (rd_T29 x i).f2, (rd_T29 x i).f3⟩, p3, s3, ev_step (f := fun _ => some _) (Ev.now _) (fun k => ?_), by simpa using hl, tiny_set hx _ _ ⟨hv, hm.2⟩, by omega, by omega⟩
      rw [spec_l1Cur_rolls.j3, if_pos c, e1, Option.bind_some, if_pos i0, if_pos i1, e2, Option.bind_some, if_pos c0, e3, Option.bind_some]
    by_cases c1 : n = 1
    · obtain ⟨v, p3, s3, e3, hv, a3, b3⟩ := of_small hb p2 s2 (([(⟨#[]⟩ : ByteArray), (⟨#[66]⟩ : ByteArray), (⟨#[97, 98, 99, 100, 101, 102, 103, 104, 105, 106, 107, 108, 109]⟩ : ByteArray)] : List ByteArray)) (by decide) (by decide) (by omega) (by omega)
      refine ⟨x.set (i : Int).toNat ⟨(rd_T29 x i).f0, v, (rd_T29 x i).f2, (rd_T29 x i).f3⟩, p3, s3, ev_step (f := fun _ => some _) (Ev.now _) (fun k => ?_), by simpa using hl, tiny_set hx _ _ ⟨hm.1, hv⟩, by omega, by omega⟩
      rw [spec_l1Cur_rolls.j3, if_pos c, e1, Option.bind_some, if_pos i0, if_pos i1, e2, Option.bind_some, if_neg c0, if_pos c1, e3, Option.bind_some]
    by_cases c2 : n = 2
    · obtain ⟨v, p3, s3, e3, hv, a3, b3⟩ := among_ok hb p2 s2 (([1799, 1800, 2100, 2101] : List Int)) (by decide) (by omega) (by omega)
      refine ⟨x.set (i : Int).toNat ⟨(rd_T29 x i).f0, (rd_T29 x i).f1, v, (rd_T29 x i).f3⟩, p3, s3, ev_step (f := fun _ => some _) (Ev.now _) (fun k => ?_), by simpa using hl, tiny_set hx _ _ ⟨hm.1, hm.2⟩, by omega, by omega⟩
      rw [spec_l1Cur_rolls.j3, if_pos c, e1, Option.bind_some, if_pos i0, if_pos i1, e2, Option.bind_some, if_neg c0, if_neg c1, if_pos c2, e3, Option.bind_some]
    by_cases c3 : n = 3
    · obtain ⟨v, p3, s3, e3, hv, a3, b3⟩ := among_ok hb p2 s2 (([(-2), 0, wrap64 ((x.length : Int) - 1), (x.length : Int)] : List Int)) (by simp) (by omega) (by omega)
      refine ⟨x.set (i : Int).toNat ⟨(rd_T29 x i).f0, (rd_T29 x i).f1, (rd_T29 x i).f2, v⟩, p3, s3, ev_step (f := fun _ => some _) (Ev.now _) (fun k => ?_), by simpa using hl, tiny_set hx _ _ ⟨hm.1, hm.2⟩, by omega, by omega⟩
      rw [spec_l1Cur_rolls.j3, if_pos c, e1, Option.bind_some, if_pos i0, if_pos i1, e2, Option.bind_some, if_neg c0, if_neg c1, if_neg c2, if_pos c3, e3, Option.bind_some]
    · refine ⟨x, p2, s2, ev_step (f := fun _ => some _) (Ev.now _) (fun k => ?_), hl, hx, by omega, by omega⟩
      rw [spec_l1Cur_rolls.j3, if_pos c, e1, Option.bind_some, if_pos i0, if_pos i1, e2, Option.bind_some, if_neg c0, if_neg c1, if_neg c2, if_neg c3]
  · refine ⟨x, p, s, ev_step (f := fun _ => some _) (Ev.now _) (fun k => ?_), hl, hx, by omega, by omega⟩
    rw [spec_l1Cur_rolls.j3, if_neg c]
theorem rolls_l1 {l : List Int} (hb : bytesOk l) (n : Int) (hn : n ≤ 31) (d : Nat) : ∀ (x : List S29) (p s : Int), (x.length : Int) + d = n → (∀ y ∈ x, tiny y) → 0 ≤ p → p ≤ 1000000000000000000 →
    ∃ r p' s', Ev (fun k => spec_l1Cur_rolls.l1 k x n l p s) (r, p', s') ∧ r.length ≤ 31 ∧ (∀ y ∈ r, tiny y) ∧ p ≤ p' ∧ p' ≤ p + 6 := by
  induction d with
  | zero =>
    intro x p s hl hx h0 h1
    obtain ⟨r, p', s', e, q⟩ := rolls_j3 hb x (by omega) hx p s h0 h1
    refine ⟨r, p', s', ev_step e (fun k => ?_), q⟩
    rw [spec_l1Cur_rolls.l1, if_neg (by omega)]
  | succ d ih =>
    intro x p s hl hx h0 h1
    have hz : ∀ a b : Int, (strOfNums [a, b]).size = 2 := fun a b => by rw [strOfNums_size]; rfl
    obtain ⟨r, p', s', e, q⟩ := ih (x ++ [(⟨(⟨#[120]⟩ : ByteArray) ++ (strOfNums ([97 + ((x.length : Int) % 26), (wrap64 (97 + (wrap64 ((x.length : Int) / 26)))) % 256] : List Int)), (⟨#[119, 101, 108, 116, 101]⟩ : ByteArray), 1900, wrap64 ((x.length : Int) - 1)⟩ : S29)]) p s (by simp; omega) (tiny_snoc hx _ ⟨by
      show (_ ++ _ : ByteArray).size ≤ 20
      rw [ByteArray.size_append, hz]; decide, (by decide : (⟨#[119, 101, 108, 116, 101]⟩ : ByteArray).size ≤ 20)⟩) h0 h1
    refine ⟨r, p', s', ev_step e (fun k => ?_), q⟩
    rw [spec_l1Cur_rolls.l1, if_pos (by omega), Option.bind_some, if_pos (by rw [hz]; omega), if_pos (by omega)]
theorem titles_small : ∀ y ∈ ([(⟨#[119, 97, 108, 116, 122]⟩ : ByteArray), (⟨#[109, 97, 114, 99, 104]⟩ : ByteArray), (⟨#[112, 111, 108, 107, 97]⟩ : ByteArray), (⟨#[97, 114, 105, 97]⟩ : ByteArray), (⟨#[102, 117, 103, 117, 101]⟩ : ByteArray), (⟨#[114, 111, 110, 100, 111]⟩ : ByteArray), (⟨#[97]⟩ : ByteArray), (⟨#[122]⟩ : ByteArray), (⟨#[97, 98, 99, 100, 101, 102, 103, 104, 105, 106, 107, 108]⟩ : ByteArray), (⟨#[103, 97, 118, 111, 116, 116, 101]⟩ : ByteArray), (⟨#[103, 97, 108, 111, 112]⟩ : ByteArray), (⟨#[104, 121, 109, 110]⟩ : ByteArray)] : List ByteArray), y.size ≤ 20 := by decide
theorem titles_ok : ∃ t : List ByteArray, spec_caTitles.f = some t ∧ t.length = 12 ∧ ∀ y ∈ t, y.size ≤ 20 := ⟨_, rfl, rfl, titles_small⟩
theorem rolls_l0 {l : List Int} (hb : bytesOk l) (n : Int) (hn : n ≤ 8) (d : Nat) : ∀ (x : List S29) (y p s : Int), (x.length : Int) + d = n → (∀ y ∈ x, tiny y) → 0 ≤ p → p + 10 * d ≤ 500000000000000000 →
    ∃ r p' s', Ev (fun k => spec_l1Cur_rolls.l0 k x n y (x.length : Int) l p s) (r, p', s') ∧ r.length ≤ 31 ∧ (∀ y ∈ r, tiny y) ∧ p ≤ p' ∧ p' ≤ p + 10 * d + 20 := by
  induction d with
  | zero =>
    intro x y p s hl hx h0 h1
    obtain ⟨b, p1, s1, e1, a1, b1⟩ := one_ok hb p s 20 h0 (by omega)
    cases b with
    | true =>
      obtain ⟨m, p2, s2, e2, m0, m1, a2, b2⟩ := pick_ok hb p1 s1 2 (by omega) (by omega)
      have m1 := m1 (by omega)
      have hw : wrap64 (30 + m) = 30 + m := wrapS (by omega) (by omega)
      obtain ⟨r, p', s', e, hr, hr2, a3, b3⟩ := rolls_l1 hb (30 + m) (by omega) (30 + m).toNat [] p2 s2 (by simp; omega) (by simp) (by omega) (by omega)
      refine ⟨r, p', s', ev_step e (fun k => ?_), hr, hr2, by omega, by omega⟩
      rw [spec_l1Cur_rolls.l0, if_neg (by omega), e1, Option.bind_some, if_pos rfl, e2, Option.bind_some, hw]
    | false =>
      obtain ⟨r, p', s', e, hr, hr2, a3, b3⟩ := rolls_j3 hb x (by omega) hx p1 s1 (by omega) (by omega)
      refine ⟨r, p', s', ev_step e (fun k => ?_), hr, hr2, by omega, by omega⟩
      rw [spec_l1Cur_rolls.l0, if_neg (by omega), e1, Option.bind_some, if_neg (by simp)]
  | succ d ih =>
    intro x y p s hl hx h0 h1
    obtain ⟨t, et, ht, htz⟩ := titles_ok
    obtain ⟨mk, p1, s1, e1, hmk, a1, b1⟩ := maker_ok hb p s h0 (by omega)
    have hti : (rdOf ByteArray.empty t (x.length : Int)).size ≤ 20 := htz _ (rdO_mem _ (by omega) (by omega))
    have hw : wrap64 ((x.length : Int) + 1) = (x.length : Int) + 1 := wrapS (by omega) (by omega)
    have J : ∀ (b : Bool) (q u : Int), 0 ≤ q → q ≤ p + 4 → p ≤ q → ∃ r p' s', Ev (fun k => spec_l1Cur_rolls.j1 k x n y (x.length : Int) b l q u (rdOf ByteArray.empty t (x.length : Int)) mk y (-1)) (r, p', s') ∧ r.length ≤ 31 ∧ (∀ y ∈ r, tiny y) ∧ p ≤ p' ∧ p' ≤ p + 10 * (d + 1 : Nat) + 20 := by
      intro b q u q0 q1 q2
      cases b with
      | true =>
        obtain ⟨v, p2, s2, e2, _, _, a2, b2⟩ := pick_ok hb q u (x.length : Int) q0 (by omega)
        obtain ⟨w, p3, s3, e3, _, a3, b3⟩ := among_ok hb p2 s2 (([0, 0, 1, 10] : List Int)) (by decide) (by omega) (by omega)
        obtain ⟨r, p', s', e, hr, hr2, a4, b4⟩ := ih (x ++ [⟨rdOf ByteArray.empty t (x.length : Int), mk, y, v⟩]) (wrap64 (y + w)) p3 s3 (by simp; omega) (tiny_snoc hx _ ⟨hti, hmk⟩) (by omega) (by omega)
        rw [snoc_leni] at e
        refine ⟨r, p', s', ev_step e (fun k => ?_), hr, hr2, by omega, by omega⟩
        rw [spec_l1Cur_rolls.j1, if_pos rfl, e2, Option.bind_some, if_pos (by omega), e3, Option.bind_some, hw]
      | false =>
        obtain ⟨w, p3, s3, e3, _, a3, b3⟩ := among_ok hb q u (([0, 0, 1, 10] : List Int)) (by decide) (by omega) (by omega)
        obtain ⟨r, p', s', e, hr, hr2, a4, b4⟩ := ih (x ++ [⟨rdOf ByteArray.empty t (x.length : Int), mk, y, -1⟩]) (wrap64 (y + w)) p3 s3 (by simp; omega) (tiny_snoc hx _ ⟨hti, hmk⟩) (by omega) (by omega)
        rw [snoc_leni] at e
        refine ⟨r, p', s', ev_step e (fun k => ?_), hr, hr2, by omega, by omega⟩
        rw [spec_l1Cur_rolls.j1, if_neg (by decide), if_pos (by omega), e3, Option.bind_some, hw]
    by_cases c : (x.length : Int) > 0
    · obtain ⟨b, p2, s2, e2, a2, b2⟩ := one_ok hb p1 s1 3 (by omega) (by omega)
      obtain ⟨r, p', s', e, q⟩ := J (!b) p2 s2 (by omega) (by omega) (by omega)
      refine ⟨r, p', s', ev_step e (fun k => ?_), q⟩
      rw [spec_l1Cur_rolls.l0, if_pos (by omega), et, Option.bind_some, if_pos (by omega), if_pos (by omega), e1, Option.bind_some, if_pos c, e2, Option.bind_some]
    · obtain ⟨r, p', s', e, q⟩ := J false p1 s1 (by omega) (by omega) (by omega)
      refine ⟨r, p', s', ev_step e (fun k => ?_), q⟩
      rw [spec_l1Cur_rolls.l0, if_pos (by omega), et, Option.bind_some, if_pos (by omega), if_pos (by omega), e1, Option.bind_some, if_neg c]
theorem rolls_ok {l : List Int} (hb : bytesOk l) (p s : Int) (h0 : 0 ≤ p) (h1 : p ≤ 100000000000000000) :
    ∃ r p' s', Ev (fun k => spec_l1Cur_rolls.f k l p s) (r, p', s') ∧ r.length ≤ 31 ∧ (∀ y ∈ r, tiny y) ∧ p ≤ p' ∧ p' ≤ p + 120 := by
  obtain ⟨n, p1, s1, e1, n0, n1, a1, b1⟩ := pick_ok hb p s 9 h0 (by omega)
  have n1 := n1 (by omega)
  obtain ⟨r, p', s', e, hr, hr2, a2, b2⟩ := rolls_l0 hb n (by omega) n.toNat [] 1880 p1 s1 (by simp; omega) (by simp) (by omega) (by omega)
  refine ⟨r, p', s', Ev.congr (fun k => ?_) e, hr, hr2, by omega, by omega⟩
  rw [spec_l1Cur_rolls.f, e1, Option.bind_some]
  rfl
theorem rollIndex_ok {l : List Int} (hb : bytesOk l) (p s : Int) (x : List S29) (h0 : 0 ≤ p) (h1 : p ≤ 100000000000000000) : ∃ r p' s', spec_l1Cur_rollIndex.f l p s x = some (r, p', s') := by
  obtain ⟨n, p1, s1, e1, _, _, a1, b1⟩ := pick_ok hb p s 16 h0 (by omega)
  obtain ⟨m, p2, s2, e2, _, _, a2, b2⟩ := pick_ok hb p1 s1 (wrap64 ((x.length : Int) + (wrap64 (Int.tdiv n 15)))) (by omega) (by omega)
  obtain ⟨w, p3, s3, e3, _, _, a3, b3⟩ := pick_ok hb p2 s2 24 (by omega) (by omega)
  exact ⟨_, _, _, by rw [spec_l1Cur_rollIndex.f, e1, Option.bind_some, e2, Option.bind_some, e3, Option.bind_some]⟩
theorem drawProv_ok {l : List Int} (hb : bytesOk l) : ∃ r i, Ev (fun k => spec_DrawProvenanceOf.f k l) (r, i) ∧ r.length ≤ 31 ∧ ∀ y ∈ r, tiny y := by
  obtain ⟨r, p, s, e, hr, hr2, a, b⟩ := rolls_ok hb 0 0 (by omega) (by omega)
  obtain ⟨i, p2, s2, e2⟩ := rollIndex_ok hb p s r (by omega) (by omega)
  exact ⟨r, i, Ev.bind e (ev_of_eq (fun _ => by simp only; rw [e2, Option.bind_some])), hr, hr2⟩
theorem drawDrop_ok {l : List Int} (hb : bytesOk l) : ∃ r i, Ev (fun k => spec_DrawDropRoll.f k l) (r, i) ∧ r.length ≤ 31 ∧ ∀ y ∈ r, tiny y := by
  obtain ⟨r, i, e, q⟩ := drawProv_ok hb
  exact ⟨r, i, Ev.bind e (ev_of_eq (fun _ => rfl)), q⟩
theorem drawCopies_ok {l : List Int} (hb : bytesOk l) : ∃ r i, Ev (fun k => spec_DrawCopiesOf.f k l) (r, i) ∧ r.length ≤ 31 ∧ ∀ y ∈ r, tiny y := by
  obtain ⟨r, i, e, q⟩ := drawProv_ok hb
  exact ⟨r, i, Ev.bind e (ev_of_eq (fun _ => rfl)), q⟩
theorem drawAdd_ok {l : List Int} (hb : bytesOk l) : ∃ r t m y z, Ev (fun k => spec_DrawAddRoll.f k l) (r, t, m, y, z) ∧ r.length ≤ 31 ∧ (∀ y ∈ r, tiny y) ∧ t.size ≤ 20 ∧ m.size ≤ 20 := by
  obtain ⟨r, p, s, e, hr, hr2, a, b⟩ := rolls_ok hb 0 0 (by omega) (by omega)
  obtain ⟨t, p1, s1, e1, h1, a1, b1⟩ := of_small hb p s (([(⟨#[110, 101, 119]⟩ : ByteArray), (⟨#[119, 97, 108, 116, 122]⟩ : ByteArray), (⟨#[109, 97, 114, 99, 104]⟩ : ByteArray), (⟨#[104, 121, 109, 110]⟩ : ByteArray), (⟨#[]⟩ : ByteArray), (⟨#[110, 101, 119, 101, 115, 116]⟩ : ByteArray)] : List ByteArray)) (by decide) (by decide) (by omega) (by omega)
  obtain ⟨m, p2, s2, e2, h2, a2, b2⟩ := maker_ok hb p1 s1 (by omega) (by omega)
  obtain ⟨y, p3, s3, e3, _, a3, b3⟩ := among_ok hb p2 s2 (([1880, 1900, 1950, 2100, 2101] : List Int)) (by decide) (by omega) (by omega)
  obtain ⟨z, p4, s4, e4, _, a4, b4⟩ := among_ok hb p3 s3 (([(-1), 0, wrap64 ((r.length : Int) - 1), (r.length : Int)] : List Int)) (by simp) (by omega) (by omega)
  refine ⟨r, t, m, y, z, Ev.bind e (ev_of_eq (fun _ => ?_)), hr, hr2, h1, h2⟩
  simp only
  rw [e1, Option.bind_some, e2, Option.bind_some, e3, Option.bind_some, e4, Option.bind_some]
theorem drawFind_ok {l : List Int} (hb : bytesOk l) : ∃ r t, Ev (fun k => spec_DrawFindRoll.f k l) (r, t) ∧ r.length ≤ 31 ∧ (∀ y ∈ r, tiny y) ∧ t.size ≤ 20 := by
  obtain ⟨r, p, s, e, hr, hr2, a, b⟩ := rolls_ok hb 0 0 (by omega) (by omega)
  obtain ⟨ts, et, ht, htz⟩ := titles_ok
  obtain ⟨t, p1, s1, e1, h1, a1, b1⟩ := of_small hb p s (ts ++ (([(⟨#[120]⟩ : ByteArray), (⟨#[]⟩ : ByteArray), (⟨#[110, 111, 110, 101]⟩ : ByteArray)] : List ByteArray))) (by simp) (fun y hy => by
    rcases List.mem_append.1 hy with h | h
    · exact htz y h
    · exact (show ∀ y ∈ ([(⟨#[120]⟩ : ByteArray), (⟨#[]⟩ : ByteArray), (⟨#[110, 111, 110, 101]⟩ : ByteArray)] : List ByteArray), y.size ≤ 20 by decide) y h) (by omega) (by omega)
  refine ⟨r, t, Ev.bind e (ev_of_eq (fun _ => ?_)), hr, hr2, h1⟩
  simp only
  rw [et, Option.bind_some, Option.bind_some, if_pos (by rw [ht]; decide), e1, Option.bind_some]

/-! rolls -/
theorem rdR_mid (pre suf : List S29) (x : S29) : rd_T29 (pre ++ x :: suf) (pre.length : Int) = x := getD_mid _ _ _ _ _ (by simp)
theorem rdR_app (pre suf : List S29) (j : Int) (h0 : 0 ≤ j) (h : j < pre.length) : rd_T29 (pre ++ suf) j = rd_T29 pre j := by
  simp only [rd_T29, List.getD_eq_getElem?_getD]
  rw [List.getElem?_append_left (by omega)]

/-! words, titles, catalogues -/
def letters (s : ByteArray) : Nat → Nat → Bool
  | 0, _ => true
  | d + 1, i => decide (97 ≤ bt s (i : Int) ∧ bt s (i : Int) ≤ 122) && letters s d (i + 1)
def wordOk (s : ByteArray) : Bool := letters s s.size 0 && decide (1 ≤ s.size ∧ s.size ≤ 12)
theorem caWord_l0 (s : ByteArray) (hs : s.size ≤ 1048576) (d : Nat) : ∀ i : Nat, i + d = s.size → Ev (fun k => spec_caWord.l0 k s (i : Int)) (letters s d i && decide (1 ≤ s.size ∧ s.size ≤ 12)) := by
  induction d with
  | zero =>
    intro i hi
    refine ev_step (f := fun _ => some _) (Ev.now _) (fun k => ?_)
    rw [spec_caWord.l0, if_neg (by omega)]
    by_cases h1 : 1 ≤ s.size
    · by_cases h2 : s.size ≤ 12
      · simp [spec_l1In.f, letters, h1, h2, show (s.size : Int) ≥ 1 by omega, show (s.size : Int) ≤ 12 by omega]
      · simp [spec_l1In.f, letters, h1, h2, show (s.size : Int) ≥ 1 by omega, show ¬ (s.size : Int) ≤ 12 by omega]
    · simp [spec_l1In.f, letters, h1, show ¬ (s.size : Int) ≥ 1 by omega]
  | succ d ih =>
    intro i hi
    have h := ih (i + 1) (by omega)
    have hw : wrap64 ((i : Int) + 1) = ((i + 1 : Nat) : Int) := by rw [wrapS (by omega) (by omega)]; simp
    by_cases c1 : bt s (i : Int) < 97
    · refine ev_step (f := fun _ => some _) (Ev.now _) (fun k => ?_)
      rw [spec_caWord.l0, if_pos (by omega), if_pos (by omega), if_pos c1]
      simp [letters, show ¬ 97 ≤ bt s (i : Int) by omega]
    by_cases c2 : bt s (i : Int) > 122
    · refine ev_step (f := fun _ => some _) (Ev.now _) (fun k => ?_)
      rw [spec_caWord.l0, if_pos (by omega), if_pos (by omega), if_neg c1, if_pos c2]
      simp [letters, show ¬ bt s (i : Int) ≤ 122 by omega]
    refine ev_step (ev_eq h ?_) (fun k => ?_)
    · simp [letters, show 97 ≤ bt s (i : Int) by omega, show bt s (i : Int) ≤ 122 by omega]
    · rw [spec_caWord.l0, if_pos (by omega), if_pos (by omega), if_neg c1, if_neg c2, hw]
theorem caWord_ok (s : ByteArray) (hs : s.size ≤ 1048576) : Ev (fun k => spec_caWord.f k s) (wordOk s) :=
  Ev.congr (fun _ => rfl) (caWord_l0 s hs s.size 0 (by omega))
theorem isWord_l0 (s : ByteArray) (hs : s.size ≤ 1048576) (d : Nat) : ∀ i : Nat, i + d = s.size → Ev (fun k => impl_isWord.l0 k s (s.size : Int) (i : Int)) (letters s d i && decide (1 ≤ s.size ∧ s.size ≤ 12)) := by
  induction d with
  | zero =>
    intro i hi
    refine ev_step (f := fun _ => some _) (Ev.now _) (fun k => ?_)
    rw [impl_isWord.l0, if_neg (by omega)]
    by_cases h1 : 1 ≤ s.size
    · by_cases h2 : s.size ≤ 12
      · simp [letters, h1, h2, show (s.size : Int) ≥ 1 by omega, show (s.size : Int) ≤ 12 by omega]
      · simp [letters, h1, h2, show (s.size : Int) ≥ 1 by omega, show ¬ (s.size : Int) ≤ 12 by omega]
    · simp [letters, h1, show ¬ (s.size : Int) ≥ 1 by omega]
  | succ d ih =>
    intro i hi
    have h := ih (i + 1) (by omega)
    have hw : wrap64 ((i : Int) + 1) = ((i + 1 : Nat) : Int) := by rw [wrapS (by omega) (by omega)]; simp
    by_cases c1 : bt s (i : Int) < 97
    · refine ev_step (f := fun _ => some _) (Ev.now _) (fun k => ?_)
      rw [impl_isWord.l0, if_pos (by omega), if_pos (by omega), if_pos (by omega), if_pos c1]
      simp [letters, show ¬ 97 ≤ bt s (i : Int) by omega]
    by_cases c2 : bt s (i : Int) > 122
    · refine ev_step (f := fun _ => some _) (Ev.now _) (fun k => ?_)
      rw [impl_isWord.l0, if_pos (by omega), if_pos (by omega), if_pos (by omega), if_neg c1, if_pos c2]
      simp [letters, show ¬ bt s (i : Int) ≤ 122 by omega]
    refine ev_step (ev_eq h ?_) (fun k => ?_)
    · simp [letters, show 97 ≤ bt s (i : Int) by omega, show bt s (i : Int) ≤ 122 by omega]
    · rw [impl_isWord.l0, if_pos (by omega), if_pos (by omega), if_pos (by omega), if_neg c1, if_neg c2, hw]
theorem isWord_ok (s : ByteArray) (hs : s.size ≤ 1048576) : Ev (fun k => impl_isWord.f k s) (wordOk s) :=
  Ev.congr (fun _ => rfl) (isWord_l0 s hs s.size 0 (by omega))

theorem caFind_l0 (t : ByteArray) (suf : List S29) : ∀ pre : List S29, (pre ++ suf).length ≤ 9223372036854775806 →
    Ev (fun k => spec_caFind.l0 k t (pre ++ suf) ((pre ++ suf).length : Int) (pre.length : Int)) (impl_findRoll.idx t (pre.length : Int) suf) := by
  induction suf with
  | nil =>
    intro pre _
    refine ev_step (f := fun _ => some _) (Ev.now _) (fun k => ?_)
    rw [spec_caFind.l0, if_neg (by simp)]
    rfl
  | cons x suf ih =>
    intro pre hl
    have h := ih (pre ++ [x]) (by simp at hl ⊢; omega)
    rw [snoc_app, snoc_leni] at h
    have hl' : (pre.length : Int) < ((pre ++ x :: suf).length : Int) := by simp; omega
    have hw : wrap64 ((pre.length : Int) + 1) = (pre.length : Int) + 1 := wrapS (by omega) (by simp at hl; omega)
    by_cases c : x.f0.toList = t.toList
    · refine ev_step (f := fun _ => some _) (Ev.now _) (fun k => ?_)
      rw [spec_caFind.l0, if_pos hl', if_pos (by omega), if_pos hl', rdR_mid, if_pos c, impl_findRoll.idx, if_pos c]
    · refine ev_step (ev_eq h (by rw [impl_findRoll.idx, if_neg c])) (fun k => ?_)
      rw [spec_caFind.l0, if_pos hl', if_pos (by omega), if_pos hl', rdR_mid, if_neg c, hw]
theorem caFind_ok (l : List S29) (t : ByteArray) (h : l.length ≤ 9223372036854775806) : Ev (fun k => spec_caFind.f k l t) (impl_findRoll.idx t 0 l) :=
  Ev.congr (fun _ => rfl) (caFind_l0 t l [] (by simpa using h))

def titled (t : ByteArray) (y : S29) : Bool := decide (y.f0.toList = t.toList)
theorem idx_some (t : ByteArray) (l : List S29) : ∀ (i : Int) (suf : List S29), l.any (titled t) = true → i ≤ impl_findRoll.idx t i (l ++ suf) ∧ impl_findRoll.idx t i (l ++ suf) < i + l.length := by
  induction l with
  | nil => intro i suf h; simp at h
  | cons x l ih =>
    intro i suf h
    simp only [List.cons_append, impl_findRoll.idx, List.length_cons]
    by_cases c : x.f0.toList = t.toList
    · rw [if_pos c]; omega
    · rw [if_neg c]
      have := ih (i + 1) suf (by simpa [titled, c] using h)
      omega
theorem idx_none (t : ByteArray) (l : List S29) : ∀ (i : Int) (suf : List S29), l.any (titled t) = false → impl_findRoll.idx t i (l ++ suf) = impl_findRoll.idx t (i + l.length) suf := by
  induction l with
  | nil => intro i suf h; simp
  | cons x l ih =>
    intro i suf h
    have c : ¬ x.f0.toList = t.toList := fun c => by simp [titled, c] at h
    simp only [List.cons_append, impl_findRoll.idx, List.length_cons]
    rw [if_neg c, ih (i + 1) suf (by simpa [titled, c] using h)]
    congr 1
    omega
theorem idx_neg (t : ByteArray) (l : List S29) : impl_findRoll.idx t 0 l ≥ 0 ↔ l.any (titled t) = true := by
  cases h : l.any (titled t) with
  | true =>
    have := idx_some t l 0 [] h
    rw [List.append_nil] at this
    simp; omega
  | false =>
    have := idx_none t l 0 [] h
    rw [List.append_nil] at this
    rw [this]
    simp [impl_findRoll.idx]
theorem idx_self (l suf : List S29) (x : S29) : impl_findRoll.idx x.f0 0 (l ++ x :: suf) = (l.length : Int) ↔ l.any (titled x.f0) = false := by
  cases h : l.any (titled x.f0) with
  | true =>
    have := idx_some x.f0 l 0 (x :: suf) h
    simp; omega
  | false =>
    have := idx_none x.f0 l 0 (x :: suf) h
    rw [this]
    simp [impl_findRoll.idx]

def yearsOk (pre : List S29) (x : S29) : Bool := decide (x.f3 ≥ 0 → ¬ (rd_T29 pre x.f3).f2 > x.f2)
def rollOk (pre : List S29) (x : S29) : Bool :=
  wordOk x.f0 && (wordOk x.f1 && (!(pre.any (titled x.f0)) && (decide (1800 ≤ x.f2 ∧ x.f2 ≤ 2100) && (decide (-1 ≤ x.f3 ∧ x.f3 ≤ (pre.length : Int) - 1) && yearsOk pre x))))
def goodFrom : List S29 → List S29 → Bool
  | _, [] => true
  | pre, x :: suf => rollOk pre x && goodFrom (pre ++ [x]) suf
/-- A valid catalogue. -/
def good (l : List S29) : Bool := goodFrom [] l && decide (l.length ≤ 30)

theorem caGood_j1 (x : S29) (pre suf : List S29) (n : Int) (b r : Bool) (hl : (pre ++ x :: suf).length ≤ 9223372036854775806) (hb : b = true → r = false)
    (hs : b = false → -1 ≤ x.f3 ∧ x.f3 ≤ (pre.length : Int) - 1) (h1 : b = false → yearsOk pre x = false → r = false)
    (h2 : b = false → yearsOk pre x = true → Ev (fun k => spec_caGood.l0 k (pre ++ x :: suf) (pre ++ x :: suf) n ((pre.length : Int) + 1)) r) :
    Ev (fun k => spec_caGood.j1 k (pre ++ x :: suf) (pre ++ x :: suf) n (pre.length : Int) b x.f0 x.f1 x.f2 x.f3) r := by
  have hw : wrap64 ((pre.length : Int) + 1) = (pre.length : Int) + 1 := wrapS (by omega) (by simp at hl; omega)
  cases b with
  | true =>
    obtain rfl := hb rfl
    refine ev_step ev_const (fun k => ?_)
    rw [spec_caGood.j1, if_pos rfl]
  | false =>
    have hs := hs rfl
    by_cases c : x.f3 ≥ 0
    · have e := rdR_app pre (x :: suf) x.f3 c (by omega)
      by_cases d : (rd_T29 pre x.f3).f2 > x.f2
      · obtain rfl := h1 rfl (by simp [yearsOk, c, d])
        refine ev_step ev_const (fun k => ?_)
        rw [spec_caGood.j1, if_neg (by decide), if_pos c, if_pos c, if_pos (by simp; omega), e, if_pos d]
      · refine ev_step (h2 rfl (decide_eq_true (fun _ => d))) (fun k => ?_)
        rw [spec_caGood.j1, if_neg (by decide), if_pos c, if_pos c, if_pos (by simp; omega), e, if_neg d, hw]
    · refine ev_step (h2 rfl (decide_eq_true (fun h => absurd h c))) (fun k => ?_)
      rw [spec_caGood.j1, if_neg (by decide), if_neg c, hw]

theorem caGood_l0 (suf : List S29) : ∀ pre : List S29, (pre ++ suf).length ≤ 9000000 → (∀ x ∈ suf, x.f0.size ≤ 1048576 ∧ x.f1.size ≤ 1048576) →
    Ev (fun k => spec_caGood.l0 k (pre ++ suf) (pre ++ suf) ((pre ++ suf).length : Int) (pre.length : Int)) (goodFrom pre suf && decide ((pre ++ suf).length ≤ 30)) := by
  induction suf with
  | nil =>
    intro pre _ _
    refine ev_step (f := fun _ => some _) (Ev.now _) (fun k => ?_)
    rw [spec_caGood.l0, if_neg (by simp)]
    simp [goodFrom]
    omega
  | cons x suf ih =>
    intro pre hl hz
    have h := ih (pre ++ [x]) (by simp at hl ⊢; omega) (fun y hy => hz y (List.mem_cons_of_mem _ hy))
    rw [snoc_app, snoc_leni] at h
    have hl' : (pre.length : Int) < ((pre ++ x :: suf).length : Int) := by simp; omega
    have hw1 : wrap64 ((pre.length : Int) - 1) = (pre.length : Int) - 1 := wrapS (by omega) (by simp at hl; omega)
    have J : ∀ b, (b = !(wordOk x.f0 && (wordOk x.f1 && (!(pre.any (titled x.f0)) && (decide (1800 ≤ x.f2 ∧ x.f2 ≤ 2100) && decide (-1 ≤ x.f3 ∧ x.f3 ≤ (pre.length : Int) - 1)))))) →
        Ev (fun k => spec_caGood.j1 k (pre ++ x :: suf) (pre ++ x :: suf) ((pre ++ x :: suf).length : Int) (pre.length : Int) b x.f0 x.f1 x.f2 x.f3) (goodFrom pre (x :: suf) && decide ((pre ++ x :: suf).length ≤ 30)) := by
      intro b hb
      refine caGood_j1 x pre suf _ b _ (by omega) (fun e => ?_) (fun e => ?_) (fun e e2 => ?_) (fun e e2 => ?_)
      · rw [e] at hb
        have hb2 := hb.symm
        simp only [Bool.not_eq_true', Bool.and_eq_false_iff] at hb2
        have : rollOk pre x = false := by
          simp only [rollOk, Bool.and_eq_false_iff]
          rcases hb2 with h | h | h | h | h
          · exact .inl h
          · exact .inr (.inl h)
          · exact .inr (.inr (.inl h))
          · exact .inr (.inr (.inr (.inl h)))
          · exact .inr (.inr (.inr (.inr (.inl h))))
        simp [goodFrom, this]
      · rw [e] at hb
        have hb2 := hb.symm
        simp only [Bool.not_eq_false', Bool.and_eq_true, decide_eq_true_eq] at hb2
        exact hb2.2.2.2.2
      · simp [goodFrom, rollOk, e2]
      · rw [e] at hb
        have hb2 := hb.symm
        simp only [Bool.not_eq_false', Bool.and_eq_true] at hb2
        have : rollOk pre x = true := by
          simp only [rollOk, Bool.and_eq_true]
          exact ⟨hb2.1, hb2.2.1, hb2.2.2.1, hb2.2.2.2.1, hb2.2.2.2.2, e2⟩
        have e3 : goodFrom pre (x :: suf) = goodFrom (pre ++ [x]) suf := by simp [goodFrom, this]
        rw [e3]
        exact h
    have hzx := hz x List.mem_cons_self
    obtain ⟨K1, e1⟩ := caWord_ok x.f0 hzx.1
    obtain ⟨K2, e2⟩ := caWord_ok x.f1 hzx.2
    obtain ⟨K3, e3⟩ := caFind_ok (pre ++ x :: suf) x.f0 (by omega)
    dsimp only at e1 e2 e3
    have go : ∀ b, (b = !(wordOk x.f0 && (wordOk x.f1 && (!(pre.any (titled x.f0)) && (decide (1800 ≤ x.f2 ∧ x.f2 ≤ 2100) && decide (-1 ≤ x.f3 ∧ x.f3 ≤ (pre.length : Int) - 1)))))) →
        (∀ k, K1 ≤ k → K2 ≤ k → K3 ≤ k → spec_caGood.l0 (k + 1) (pre ++ x :: suf) (pre ++ x :: suf) ((pre ++ x :: suf).length : Int) (pre.length : Int) = spec_caGood.j1 k (pre ++ x :: suf) (pre ++ x :: suf) ((pre ++ x :: suf).length : Int) (pre.length : Int) b x.f0 x.f1 x.f2 x.f3) →
        Ev (fun k => spec_caGood.l0 k (pre ++ x :: suf) (pre ++ x :: suf) ((pre ++ x :: suf).length : Int) (pre.length : Int)) (goodFrom pre (x :: suf) && decide ((pre ++ x :: suf).length ≤ 30)) := by
      intro b hb hk
      obtain ⟨K, hK⟩ := J b hb
      refine ⟨K + K1 + K2 + K3 + 1, fun k hk2 => ?_⟩
      obtain ⟨m, rfl⟩ : ∃ m, k = m + 1 := ⟨k - 1, by omega⟩
      dsimp only
      rw [hk m (by omega) (by omega) (by omega)]
      exact hK m (by omega)
    have st : ∀ k, spec_caGood.l0 (k + 1) (pre ++ x :: suf) (pre ++ x :: suf) ((pre ++ x :: suf).length : Int) (pre.length : Int) = _ := fun k => by
      rw [spec_caGood.l0, if_pos hl', if_pos (by omega), if_pos hl', rdR_mid]
    cases w0 : wordOk x.f0 with
    | false =>
      refine go true (by simp [w0]) (fun k h1 h2 h3 => ?_)
      rw [st, e1 k h1, w0]; simp
    | true =>
      cases w1 : wordOk x.f1 with
      | false =>
        refine go true (by simp [w1]) (fun k h1 h2 h3 => ?_)
        rw [st, e1 k h1, w0]; simp only [Option.bind_some, if_true]; rw [e2 k h2, w1]; simp
      | true =>
        cases ti : pre.any (titled x.f0) with
        | true =>
          have ne : ¬ impl_findRoll.idx x.f0 0 (pre ++ x :: suf) = (pre.length : Int) := fun q => by
            have := (idx_self pre suf x).1 q; rw [ti] at this; cases this
          refine go true (by simp [ti]) (fun k h1 h2 h3 => ?_)
          rw [st, e1 k h1, w0]; simp only [Option.bind_some, if_true]; rw [e2 k h2, w1]; simp only [Option.bind_some, if_true]; rw [e3 k h3]; simp only [Option.bind_some]; rw [if_neg ne]
        | false =>
          have eq := (idx_self pre suf x).2 ti
          by_cases y1 : 1800 ≤ x.f2 ∧ x.f2 ≤ 2100
          · have l1 : spec_l1In.f x.f2 1800 2100 = some true := by simp [spec_l1In.f, y1.1, y1.2]
            by_cases y2 : -1 ≤ x.f3 ∧ x.f3 ≤ (pre.length : Int) - 1
            · have l2 : spec_l1In.f x.f3 (-1) ((pre.length : Int) - 1) = some true := by simp [spec_l1In.f, y2.1, y2.2]
              refine go false (by simp [w0, w1, ti, y1, y2]) (fun k h1 h2 h3 => ?_)
              rw [st, e1 k h1, w0]; simp only [Option.bind_some, if_true]; rw [e2 k h2, w1]; simp only [Option.bind_some, if_true]; rw [e3 k h3]; simp only [Option.bind_some]; rw [if_pos eq, l1]; simp only [Option.bind_some, if_true]; rw [hw1, l2]; simp
            · have l2 : spec_l1In.f x.f3 (-1) ((pre.length : Int) - 1) = some false := by
                unfold spec_l1In.f
                by_cases z : x.f3 ≥ -1
                · rw [if_pos z]; have : ¬ x.f3 ≤ (pre.length : Int) - 1 := fun q => y2 ⟨z, q⟩
                  simp [this]
                · rw [if_neg z]
              refine go true (by simp [y2]) (fun k h1 h2 h3 => ?_)
              rw [st, e1 k h1, w0]; simp only [Option.bind_some, if_true]; rw [e2 k h2, w1]; simp only [Option.bind_some, if_true]; rw [e3 k h3]; simp only [Option.bind_some]; rw [if_pos eq, l1]; simp only [Option.bind_some, if_true]; rw [hw1, l2]; simp
          · have l1 : spec_l1In.f x.f2 1800 2100 = some false := by
              unfold spec_l1In.f
              by_cases z : x.f2 ≥ 1800
              · rw [if_pos z]; have : ¬ x.f2 ≤ 2100 := fun q => y1 ⟨z, q⟩
                simp [this]
              · rw [if_neg z]
            refine go true (by simp [y1]) (fun k h1 h2 h3 => ?_)
            rw [st, e1 k h1, w0]; simp only [Option.bind_some, if_true]; rw [e2 k h2, w1]; simp only [Option.bind_some, if_true]; rw [e3 k h3]; simp only [Option.bind_some]; rw [if_pos eq, l1]; simp
theorem caGood_ok (l : List S29) (h : l.length ≤ 9000000) (hz : ∀ x ∈ l, x.f0.size ≤ 1048576 ∧ x.f1.size ≤ 1048576) : Ev (fun k => spec_caGood.f k l) (good l) :=
  Ev.congr (fun _ => rfl) (caGood_l0 l [] (by simpa using h) hz)

theorem isCat_j1 (x : S29) (pre suf : List S29) (n : Int) (b r : Bool) (hl : (pre ++ x :: suf).length ≤ 9223372036854775806) (hb : b = true → r = false)
    (hs : b = false → -1 ≤ x.f3 ∧ x.f3 ≤ (pre.length : Int) - 1) (h1 : b = false → yearsOk pre x = false → r = false) (h3 : b = false → pre.any (titled x.f0) = true → r = false)
    (h2 : b = false → yearsOk pre x = true → pre.any (titled x.f0) = false → Ev (fun k => impl_IsCatalogue.l0 k (pre ++ x :: suf) (pre ++ x :: suf) n ((pre.length : Int) + 1)) r) :
    Ev (fun k => impl_IsCatalogue.j1 k (pre ++ x :: suf) (pre.length : Int) (pre ++ x :: suf) n (pre.length : Int) b x.f0 x.f1 x.f2 x.f3) r := by
  have hw : wrap64 ((pre.length : Int) + 1) = (pre.length : Int) + 1 := wrapS (by omega) (by simp at hl; omega)
  have ht : (pre ++ x :: suf).take ((pre.length : Int)).toNat = pre := by simp
  cases b with
  | true =>
    obtain rfl := hb rfl
    refine ev_step ev_const (fun k => ?_)
    rw [impl_IsCatalogue.j1, if_pos rfl]
  | false =>
    have hs := hs rfl
    have hle : (pre.length : Int) ≤ ((pre ++ x :: suf).length : Int) := by simp; omega
    have hn := idx_neg x.f0 pre
    by_cases c : x.f3 ≥ 0
    · have e := rdR_app pre (x :: suf) x.f3 c (by omega)
      by_cases d : (rd_T29 pre x.f3).f2 > x.f2
      · obtain rfl := h1 rfl (by simp [yearsOk, c, d])
        refine ev_step ev_const (fun k => ?_)
        rw [impl_IsCatalogue.j1, if_neg (by decide), if_pos c, if_pos c, if_pos (by simp; omega), e, if_pos d]
      · have y : yearsOk pre x = true := decide_eq_true (fun _ => d)
        cases q : pre.any (titled x.f0) with
        | true =>
          obtain rfl := h3 rfl q
          refine ev_step ev_const (fun k => ?_)
          rw [impl_IsCatalogue.j1, if_neg (by decide), if_pos c, if_pos c, if_pos (by simp; omega), e, if_neg d, if_pos (by omega), if_pos hle, ht, impl_findRoll.f]
          simp only [Option.bind_some]
          rw [if_pos (hn.2 q)]
        | false =>
          refine ev_step (h2 rfl y q) (fun k => ?_)
          rw [impl_IsCatalogue.j1, if_neg (by decide), if_pos c, if_pos c, if_pos (by simp; omega), e, if_neg d, if_pos (by omega), if_pos hle, ht, impl_findRoll.f]
          simp only [Option.bind_some]
          rw [if_neg (fun z => by have := hn.1 z; rw [q] at this; cases this), hw]
    · have y : yearsOk pre x = true := decide_eq_true (fun h => absurd h c)
      cases q : pre.any (titled x.f0) with
      | true =>
        obtain rfl := h3 rfl q
        refine ev_step ev_const (fun k => ?_)
        rw [impl_IsCatalogue.j1, if_neg (by decide), if_neg c, if_pos (by omega), if_pos hle, ht, impl_findRoll.f]
        simp only [Option.bind_some]
        rw [if_pos (hn.2 q)]
      | false =>
        refine ev_step (h2 rfl y q) (fun k => ?_)
        rw [impl_IsCatalogue.j1, if_neg (by decide), if_neg c, if_pos (by omega), if_pos hle, ht, impl_findRoll.f]
        simp only [Option.bind_some]
        rw [if_neg (fun z => by have := hn.1 z; rw [q] at this; cases this), hw]

theorem isCat_l0 (suf : List S29) : ∀ pre : List S29, (pre ++ suf).length ≤ 9000000 → (∀ x ∈ suf, x.f0.size ≤ 1048576 ∧ x.f1.size ≤ 1048576) →
    Ev (fun k => impl_IsCatalogue.l0 k (pre ++ suf) (pre ++ suf) ((pre ++ suf).length : Int) (pre.length : Int)) (goodFrom pre suf && decide ((pre ++ suf).length ≤ 30)) := by
  induction suf with
  | nil =>
    intro pre _ _
    refine ev_step (f := fun _ => some _) (Ev.now _) (fun k => ?_)
    rw [impl_IsCatalogue.l0, if_neg (by simp)]
    simp [goodFrom]
    omega
  | cons x suf ih =>
    intro pre hl hz
    have h := ih (pre ++ [x]) (by simp at hl ⊢; omega) (fun y hy => hz y (List.mem_cons_of_mem _ hy))
    rw [snoc_app, snoc_leni] at h
    have hl' : (pre.length : Int) < ((pre ++ x :: suf).length : Int) := by simp; omega
    have J : ∀ b, (b = !(wordOk x.f0 && (wordOk x.f1 && (decide (1800 ≤ x.f2 ∧ x.f2 ≤ 2100) && decide (-1 ≤ x.f3 ∧ x.f3 ≤ (pre.length : Int) - 1))))) →
        Ev (fun k => impl_IsCatalogue.j1 k (pre ++ x :: suf) (pre.length : Int) (pre ++ x :: suf) ((pre ++ x :: suf).length : Int) (pre.length : Int) b x.f0 x.f1 x.f2 x.f3) (goodFrom pre (x :: suf) && decide ((pre ++ x :: suf).length ≤ 30)) := by
      intro b hb
      refine isCat_j1 x pre suf _ b _ (by omega) (fun e => ?_) (fun e => ?_) (fun e e2 => ?_) (fun e e2 => ?_) (fun e e2 e4 => ?_)
      · rw [e] at hb
        have hb2 := hb.symm
        simp only [Bool.not_eq_true', Bool.and_eq_false_iff] at hb2
        have : rollOk pre x = false := by
          simp only [rollOk, Bool.and_eq_false_iff]
          rcases hb2 with h | h | h | h
          · exact .inl h
          · exact .inr (.inl h)
          · exact .inr (.inr (.inr (.inl h)))
          · exact .inr (.inr (.inr (.inr (.inl h))))
        simp [goodFrom, this]
      · rw [e] at hb
        have hb2 := hb.symm
        simp only [Bool.not_eq_false', Bool.and_eq_true, decide_eq_true_eq] at hb2
        exact hb2.2.2.2
      · simp [goodFrom, rollOk, e2]
      · simp [goodFrom, rollOk, e2]
      · rw [e] at hb
        have hb2 := hb.symm
        simp only [Bool.not_eq_false', Bool.and_eq_true] at hb2
        have : rollOk pre x = true := by
          simp only [rollOk, Bool.and_eq_true]
          exact ⟨hb2.1, hb2.2.1, by rw [e4]; rfl, hb2.2.2.1, hb2.2.2.2, e2⟩
        have e3 : goodFrom pre (x :: suf) = goodFrom (pre ++ [x]) suf := by simp [goodFrom, this]
        rw [e3]
        exact h
    have hzx := hz x List.mem_cons_self
    obtain ⟨K1, e1⟩ := isWord_ok x.f0 hzx.1
    obtain ⟨K2, e2⟩ := isWord_ok x.f1 hzx.2
    dsimp only at e1 e2
    have go : ∀ b, (b = !(wordOk x.f0 && (wordOk x.f1 && (decide (1800 ≤ x.f2 ∧ x.f2 ≤ 2100) && decide (-1 ≤ x.f3 ∧ x.f3 ≤ (pre.length : Int) - 1))))) →
        (∀ k, K1 ≤ k → K2 ≤ k → impl_IsCatalogue.l0 (k + 1) (pre ++ x :: suf) (pre ++ x :: suf) ((pre ++ x :: suf).length : Int) (pre.length : Int) = impl_IsCatalogue.j1 k (pre ++ x :: suf) (pre.length : Int) (pre ++ x :: suf) ((pre ++ x :: suf).length : Int) (pre.length : Int) b x.f0 x.f1 x.f2 x.f3) →
        Ev (fun k => impl_IsCatalogue.l0 k (pre ++ x :: suf) (pre ++ x :: suf) ((pre ++ x :: suf).length : Int) (pre.length : Int)) (goodFrom pre (x :: suf) && decide ((pre ++ x :: suf).length ≤ 30)) := by
      intro b hb hk
      obtain ⟨K, hK⟩ := J b hb
      refine ⟨K + K1 + K2 + 1, fun k hk2 => ?_⟩
      obtain ⟨m, rfl⟩ : ∃ m, k = m + 1 := ⟨k - 1, by omega⟩
      dsimp only
      rw [hk m (by omega) (by omega)]
      exact hK m (by omega)
    have st : ∀ k, impl_IsCatalogue.l0 (k + 1) (pre ++ x :: suf) (pre ++ x :: suf) ((pre ++ x :: suf).length : Int) (pre.length : Int) = _ := fun k => by
      rw [impl_IsCatalogue.l0, if_pos hl', if_pos (by omega), if_pos hl', rdR_mid]
    cases w0 : wordOk x.f0 with
    | false =>
      refine go true (by simp [w0]) (fun k h1 h2 => ?_)
      rw [st, e1 k h1, w0]; simp
    | true =>
      cases w1 : wordOk x.f1 with
      | false =>
        refine go true (by simp [w1]) (fun k h1 h2 => ?_)
        rw [st, e1 k h1, w0]; simp only [Option.bind_some, if_true]; rw [e2 k h2, w1]; simp
      | true =>
        by_cases y1 : x.f2 < 1800
        · refine go true (by rw [show decide (1800 ≤ x.f2 ∧ x.f2 ≤ 2100) = false from decide_eq_false (fun z => by omega)]; simp) (fun k h1 h2 => ?_)
          rw [st, e1 k h1, w0]; simp only [Option.bind_some, if_true]; rw [e2 k h2, w1]; simp only [Option.bind_some, if_true]; rw [if_pos y1]
        by_cases y2 : x.f2 > 2100
        · refine go true (by rw [show decide (1800 ≤ x.f2 ∧ x.f2 ≤ 2100) = false from decide_eq_false (fun z => by omega)]; simp) (fun k h1 h2 => ?_)
          rw [st, e1 k h1, w0]; simp only [Option.bind_some, if_true]; rw [e2 k h2, w1]; simp only [Option.bind_some, if_true]; rw [if_neg y1, if_pos y2]
        by_cases y3 : x.f3 < -1
        · refine go true (by rw [show decide (-1 ≤ x.f3 ∧ x.f3 ≤ (pre.length : Int) - 1) = false from decide_eq_false (fun z => by omega)]; simp) (fun k h1 h2 => ?_)
          rw [st, e1 k h1, w0]; simp only [Option.bind_some, if_true]; rw [e2 k h2, w1]; simp only [Option.bind_some, if_true]; rw [if_neg y1, if_neg y2, if_pos y3]
        have d1 : decide (1800 ≤ x.f2 ∧ x.f2 ≤ 2100) = true := decide_eq_true (by omega)
        have d2 : decide (x.f3 ≥ (pre.length : Int)) = !(decide (-1 ≤ x.f3 ∧ x.f3 ≤ (pre.length : Int) - 1)) := by
          by_cases z : x.f3 ≥ (pre.length : Int)
          · rw [show decide (-1 ≤ x.f3 ∧ x.f3 ≤ (pre.length : Int) - 1) = false from decide_eq_false (fun q => by omega)]; simp [z]
          · rw [show decide (-1 ≤ x.f3 ∧ x.f3 ≤ (pre.length : Int) - 1) = true from decide_eq_true (by omega)]; simp [z]
        refine go (decide (x.f3 ≥ (pre.length : Int))) (by rw [d1, d2, w0, w1]; simp) (fun k h1 h2 => ?_)
        rw [st, e1 k h1, w0]; simp only [Option.bind_some, if_true]; rw [e2 k h2, w1]; simp only [Option.bind_some, if_true]; rw [if_neg y1, if_neg y2, if_neg y3]
theorem isCat_ok (l : List S29) (h : l.length ≤ 9000000) (hz : ∀ x ∈ l, x.f0.size ≤ 1048576 ∧ x.f1.size ≤ 1048576) : Ev (fun k => impl_IsCatalogue.f k l) (good l) :=
  Ev.congr (fun _ => rfl) (isCat_l0 l [] (by simpa using h) hz)

/-! provenances -/
theorem goodFrom_src (suf : List S29) : ∀ pre : List S29, goodFrom pre suf = true → ∀ j : Nat, pre.length ≤ j → j < (pre ++ suf).length → -1 ≤ (rd_T29 (pre ++ suf) (j : Int)).f3 ∧ (rd_T29 (pre ++ suf) (j : Int)).f3 ≤ (j : Int) - 1 := by
  induction suf with
  | nil => intro pre _ j h1 h2; simp at h2; omega
  | cons x suf ih =>
    intro pre h j h1 h2
    simp only [goodFrom, Bool.and_eq_true] at h
    by_cases e : j = pre.length
    · subst e
      rw [rdR_mid]
      have hr := h.1
      simp only [rollOk, Bool.and_eq_true, decide_eq_true_eq] at hr
      exact hr.2.2.2.2.1
    · have := ih (pre ++ [x]) h.2 j (by simp; omega) (by simpa using h2)
      rwa [snoc_app] at this
theorem good_src {l : List S29} (h : good l = true) (j : Int) (h0 : 0 ≤ j) (h1 : j < l.length) : -1 ≤ (rd_T29 l j).f3 ∧ (rd_T29 l j).f3 ≤ j - 1 := by
  simp only [good, Bool.and_eq_true] at h
  have := goodFrom_src l [] h.1 j.toNat (Nat.zero_le _) (by simp; omega)
  rw [List.nil_append, show ((j.toNat : Nat) : Int) = j by omega] at this
  exact this
theorem good_len {l : List S29} (h : good l = true) : l.length ≤ 30 := by
  simp only [good, Bool.and_eq_true, decide_eq_true_eq] at h; exact h.2
def wayD (l : List S29) : Nat → Int → List Int
  | 0, _ => []
  | d + 1, i => if i ≥ 0 then i :: wayD l d (rd_T29 l i).f3 else []
/-- The provenance of a roll. -/
def way (l : List S29) (i : Int) : List Int := wayD l (i.toNat + 1) i
theorem wayD_len (l : List S29) (d : Nat) : ∀ i, (wayD l d i).length ≤ d := by
  induction d with
  | zero => intro i; simp [wayD]
  | succ d ih => intro i; simp only [wayD]; split <;> simp; exact ih _
theorem way_len (l : List S29) (i : Int) : (way l i).length ≤ i.toNat + 1 := wayD_len l _ i
theorem caWay_l0 (l : List S29) (hg : good l = true) (d : Nat) : ∀ (i : Int) (out : List Int), i < d → i < l.length → out.length + d ≤ 1048576 → Ev (fun k => spec_caWay.l0 k l i out) (out ++ wayD l d i) := by
  induction d with
  | zero =>
    intro i out h1 h2 h3
    refine ev_step (f := fun _ => some _) (Ev.now _) (fun k => ?_)
    rw [spec_caWay.l0, if_neg (by omega)]; simp [wayD]
  | succ d ih =>
    intro i out h1 h2 h3
    by_cases c : i ≥ 0
    · have hs := good_src hg i c h2
      have h := ih (rd_T29 l i).f3 (out ++ [i]) (by omega) (by omega) (by simp; omega)
      refine ev_step (ev_eq h (by simp [wayD, c])) (fun k => ?_)
      rw [spec_caWay.l0, if_pos c, if_pos (by omega), if_pos c, if_pos h2]
    · refine ev_step (f := fun _ => some _) (Ev.now _) (fun k => ?_)
      rw [spec_caWay.l0, if_neg c]; simp [wayD, c]
theorem caWay_ok (l : List S29) (hg : good l = true) (i : Int) (h : i < l.length) : Ev (fun k => spec_caWay.f k l i) (way l i) := by
  have hl := good_len hg
  exact Ev.congr (f := fun k => spec_caWay.l0 k l i []) (fun _ => rfl) (by simpa [way] using caWay_l0 l hg (i.toNat + 1) i [] (by omega) h (by simp; omega))
theorem provenance_l0 (l : List S29) (hg : good l = true) (d : Nat) : ∀ (i : Int) (out : List Int), i < d → i < l.length → out.length + d ≤ 1048576 → Ev (fun k => impl_provenanceOf.l0 k l i out) (out ++ wayD l d i) := by
  induction d with
  | zero =>
    intro i out h1 h2 h3
    refine ev_step (f := fun _ => some _) (Ev.now _) (fun k => ?_)
    rw [impl_provenanceOf.l0, if_neg (by omega)]; simp [wayD]
  | succ d ih =>
    intro i out h1 h2 h3
    by_cases c : i ≥ 0
    · have hs := good_src hg i c h2
      have h := ih (rd_T29 l i).f3 (out ++ [i]) (by omega) (by omega) (by simp; omega)
      refine ev_step (ev_eq h (by simp [wayD, c])) (fun k => ?_)
      rw [impl_provenanceOf.l0, if_pos c, if_pos (by omega), if_pos c, if_pos h2]
    · refine ev_step (f := fun _ => some _) (Ev.now _) (fun k => ?_)
      rw [impl_provenanceOf.l0, if_neg c]; simp [wayD, c]
theorem provenance_ok (l : List S29) (hg : good l = true) (i : Int) (h : i < l.length) : Ev (fun k => impl_provenanceOf.f k l i) (way l i) := by
  have hl := good_len hg
  exact Ev.congr (f := fun k => impl_provenanceOf.l0 k l i []) (fun _ => rfl) (by simpa [way] using provenance_l0 l hg (i.toNat + 1) i [] (by omega) h (by simp; omega))

def hasRoll (l : List S29) (i : Int) : Bool := good l && decide (0 ≤ i ∧ i < l.length)
theorem caHas_ok (l : List S29) (i : Int) (h : l.length ≤ 1048576) (hz : ∀ x ∈ l, x.f0.size ≤ 1048576 ∧ x.f1.size ≤ 1048576) : Ev (fun k => spec_caHas.f k l i) (hasRoll l i) := by
  refine Ev.bind (caGood_ok l (by omega) hz) (ev_of_eq (fun _ => ?_))
  cases g : good l with
  | false => simp [hasRoll, g]
  | true =>
    have hw : wrap64 ((l.length : Int) - 1) = (l.length : Int) - 1 := wrapS (by omega) (by omega)
    simp only [if_true, hw, spec_l1In.f, hasRoll, g, Bool.true_and]
    by_cases c : i ≥ 0
    · simp only [if_pos c, Option.bind_some]
      congr 1
      by_cases d : i < l.length
      · simp [d]; omega
      · simp [d]; omega
    · rw [if_neg c]; simp; omega
theorem isRoll_ok (l : List S29) (i : Int) (h : l.length ≤ 1048576) (hz : ∀ x ∈ l, x.f0.size ≤ 1048576 ∧ x.f1.size ≤ 1048576) : Ev (fun k => impl_isRoll.f k l i) (hasRoll l i) := by
  refine Ev.bind (isCat_ok l (by omega) hz) (ev_of_eq (fun _ => ?_))
  cases g : good l with
  | false => simp [hasRoll, g]
  | true =>
    simp only [if_true, hasRoll, g, Bool.true_and]
    by_cases c : i ≥ 0
    · simp [c]
    · rw [if_neg c]; simp; omega
theorem hasRoll_of {l : List S29} {i : Int} (h : hasRoll l i = true) : good l = true ∧ 0 ≤ i ∧ i < l.length := by
  simpa [hasRoll] using h

theorem l1Has_l0 (n : Int) (suf : List Int) : ∀ pre : List Int, (pre ++ suf).length ≤ 1048576 → Ev (fun k => spec_l1Has.l0 k n (pre ++ suf) ((pre ++ suf).length : Int) (pre.length : Int)) (decide (n ∈ suf)) := by
  induction suf with
  | nil =>
    intro pre _
    refine ev_step (f := fun _ => some _) (Ev.now _) (fun k => ?_)
    rw [spec_l1Has.l0, if_neg (by simp)]; simp
  | cons x suf ih =>
    intro pre hl
    have h := ih (pre ++ [x]) (by simp at hl ⊢; omega)
    rw [snoc_app, snoc_leni] at h
    have hl' : (pre.length : Int) < ((pre ++ x :: suf).length : Int) := by simp; omega
    have hw : wrap64 ((pre.length : Int) + 1) = (pre.length : Int) + 1 := wrapS (by omega) (by simp at hl; omega)
    by_cases c : x = n
    · refine ev_step (f := fun _ => some _) (Ev.now _) (fun k => ?_)
      rw [spec_l1Has.l0, if_pos hl', if_pos (by omega), if_pos hl', rd_mid, if_pos c]; simp [c]
    · refine ev_step (ev_eq h (by simp [fun q => c (Eq.symm q)]; intro q; exact absurd q.symm c)) (fun k => ?_)
      rw [spec_l1Has.l0, if_pos hl', if_pos (by omega), if_pos hl', rd_mid, if_neg c, hw]
theorem l1Has_ok (l : List Int) (n : Int) (h : l.length ≤ 1048576) : Ev (fun k => spec_l1Has.f k l n) (decide (n ∈ l)) :=
  Ev.congr (fun _ => rfl) (l1Has_l0 n l [] (by simpa using h))
theorem index_l0 (n : Int) (suf : List Int) : ∀ pre : List Int, (pre ++ suf).length ≤ 1048576 → ∃ r, Ev (fun k => slices_Index_int_int.l0 k (pre ++ suf) n ((pre ++ suf).length : Int) (pre.length : Int)) r ∧ (r ≥ 0 ↔ n ∈ suf) := by
  induction suf with
  | nil =>
    intro pre _
    refine ⟨-1, ev_step (f := fun _ => some _) (Ev.now _) (fun k => ?_), by simp⟩
    rw [slices_Index_int_int.l0, if_neg (by simp)]
  | cons x suf ih =>
    intro pre hl
    obtain ⟨r, h, hr⟩ := ih (pre ++ [x]) (by simp at hl ⊢; omega)
    rw [snoc_app, snoc_leni] at h
    have hl' : (pre.length : Int) < ((pre ++ x :: suf).length : Int) := by simp; omega
    have hw : wrap64 ((pre.length : Int) + 1) = (pre.length : Int) + 1 := wrapS (by omega) (by simp at hl; omega)
    by_cases c : n = x
    · refine ⟨(pre.length : Int), ev_step (f := fun _ => some _) (Ev.now _) (fun k => ?_), by simp [c]⟩
      rw [slices_Index_int_int.l0, if_pos hl', if_pos (by omega), if_pos hl', rd_mid, if_pos c]
    · refine ⟨r, ev_step h (fun k => ?_), by rw [hr]; simp [c]⟩
      rw [slices_Index_int_int.l0, if_pos hl', if_pos (by omega), if_pos hl', rd_mid, if_neg c, hw]
theorem contains_ok (l : List Int) (n : Int) (h : l.length ≤ 1048576) : Ev (fun k => slices_Contains_int_int.f k l n) (decide (n ∈ l)) := by
  obtain ⟨r, hr, e⟩ := index_l0 n l [] (by simpa using h)
  refine Ev.bind (Ev.congr (fun _ => rfl) hr) (ev_of_eq (fun _ => ?_))
  congr 1
  exact decide_eq_decide.2 e

/-! one roll less -/
def dropX (l : List S29) (i : Int) (x : S29) : S29 := if x.f3 = i then ⟨x.f0, x.f1, x.f2, (rd_T29 l i).f3⟩ else if x.f3 > i then ⟨x.f0, x.f1, x.f2, x.f3 - 1⟩ else ⟨x.f0, x.f1, x.f2, x.f3⟩
def dropL (l : List S29) (i : Int) : Int → List S29 → List S29
  | _, [] => []
  | n, x :: s => if n = i then dropL l i (n + 1) s else dropX l i x :: dropL l i (n + 1) s
theorem dropL_len (l : List S29) (i : Int) (s : List S29) : ∀ n, (dropL l i n s).length ≤ s.length := by
  induction s with
  | nil => intro n; simp [dropL]
  | cons x s ih => intro n; have := ih (n + 1); simp only [dropL]; split <;> simp <;> omega
theorem specDrop_l0 (l : List S29) (hg : good l = true) (i : Int) (h0 : 0 ≤ i) (h1 : i < l.length) (suf : List S29) : ∀ (pre out : List S29), pre ++ suf = l → out.length ≤ pre.length →
    Ev (fun k => spec_DropRoll.l0 k l i out (pre.length : Int)) (out ++ dropL l i (pre.length : Int) suf) := by
  induction suf with
  | nil =>
    intro pre out hl _
    refine ev_step (f := fun _ => some _) (Ev.now _) (fun k => ?_)
    rw [spec_DropRoll.l0, if_neg (by rw [← hl]; simp)]; simp [dropL]
  | cons x suf ih =>
    intro pre out hl ho
    have hgl := good_len hg
    have hlp : pre.length + (suf.length + 1) = l.length := by rw [← hl]; simp
    have hl' : (pre.length : Int) < (l.length : Int) := by omega
    have hw : wrap64 ((pre.length : Int) + 1) = (pre.length : Int) + 1 := wrapS (by omega) (by omega)
    have hx : rd_T29 l (pre.length : Int) = x := by rw [← hl]; exact rdR_mid pre suf x
    have hs := good_src hg (pre.length : Int) (by omega) hl'
    have hi := good_src hg i h0 h1
    rw [hx] at hs
    have IH := fun out2 (h2 : out2.length ≤ pre.length + 1) => ih (pre ++ [x]) out2 (by rw [snoc_app]; exact hl) (by simpa using h2)
    simp only [snoc_leni] at IH
    by_cases c : (pre.length : Int) = i
    · refine ev_step (ev_eq (IH out (by omega)) (by simp only [dropL, if_pos c])) (fun k => ?_)
      rw [spec_DropRoll.l0, if_pos hl', if_pos (by omega), if_pos c, hw]
    · have H2 := IH (out ++ [dropX l i x]) (by simp; omega)
      have hX : (⟨x.f0, x.f1, x.f2, spec_DropRoll.src (rd_T29 l i).f3 i x⟩ : S29) = dropX l i x := by
        unfold dropX spec_DropRoll.src
        by_cases d : x.f3 = i
        · rw [if_pos d, if_pos d]
        · rw [if_neg d, if_neg d]
          by_cases e : x.f3 > i
          · rw [if_pos e, if_pos e, wrapS (by omega) (by omega)]
          · rw [if_neg e, if_neg e]
      refine ev_step (ev_eq H2 (by simp only [dropL, if_neg c, List.append_assoc, List.singleton_append])) (fun k => ?_)
      rw [spec_DropRoll.l0, if_pos hl', if_pos (by omega), if_neg c, if_pos (by omega), hx, hX, hw]
theorem implDrop_l0 (l : List S29) (hg : good l = true) (i : Int) (h0 : 0 ≤ i) (h1 : i < l.length) (suf : List S29) : ∀ (pre out : List S29), pre ++ suf = l → out.length ≤ pre.length →
    Ev (fun k => impl_DropRoll.l0 k l i out (pre.length : Int)) (out ++ dropL l i (pre.length : Int) suf) := by
  induction suf with
  | nil =>
    intro pre out hl _
    refine ev_step (f := fun _ => some _) (Ev.now _) (fun k => ?_)
    rw [impl_DropRoll.l0, if_neg (by rw [← hl]; simp)]; simp [dropL]
  | cons x suf ih =>
    intro pre out hl ho
    have hgl := good_len hg
    have hlp : pre.length + (suf.length + 1) = l.length := by rw [← hl]; simp
    have hl' : (pre.length : Int) < (l.length : Int) := by omega
    have hw : wrap64 ((pre.length : Int) + 1) = (pre.length : Int) + 1 := wrapS (by omega) (by omega)
    have hx : rd_T29 l (pre.length : Int) = x := by rw [← hl]; exact rdR_mid pre suf x
    have hs := good_src hg (pre.length : Int) (by omega) hl'
    have hi := good_src hg i h0 h1
    rw [hx] at hs
    have IH := fun out2 (h2 : out2.length ≤ pre.length + 1) => ih (pre ++ [x]) out2 (by rw [snoc_app]; exact hl) (by simpa using h2)
    simp only [snoc_leni] at IH
    by_cases c : (pre.length : Int) = i
    · refine ev_step (ev_eq (IH out (by omega)) (by simp only [dropL, if_pos c])) (fun k => ?_)
      rw [impl_DropRoll.l0, if_pos hl', if_pos (by omega), if_pos c, hw]
    · have H2 := IH (out ++ [dropX l i x]) (by simp; omega)
      have hX : (⟨x.f0, x.f1, x.f2, impl_DropRoll.src (rd_T29 l i).f3 i x⟩ : S29) = dropX l i x := by
        unfold dropX impl_DropRoll.src
        by_cases d : x.f3 = i
        · simp only [if_pos d, if_neg (show ¬ (rd_T29 l i).f3 > i by omega)]
        · simp only [if_neg d]
          by_cases e : x.f3 > i
          · rw [if_pos e, if_pos e, wrapS (by omega) (by omega)]
          · rw [if_neg e, if_neg e]
      refine ev_step (ev_eq H2 (by simp only [dropL, if_neg c, List.append_assoc, List.singleton_append])) (fun k => ?_)
      rw [impl_DropRoll.l0, if_pos hl', if_pos (by omega), if_neg c, if_pos (by omega), hx, hX, hw]
def dropR (l : List S29) (i : Int) : List S29 × Bool := if hasRoll l i = true then (dropL l i 0 l, true) else ([], false)
theorem dropR_len (l : List S29) (i : Int) (hl : l.length ≤ 1048576) : (dropR l i).1.length ≤ 1048576 := by
  have := dropL_len l i l 0
  unfold dropR; split
  · simp only; omega
  · simp
theorem specDropRoll_ok (l : List S29) (i : Int) (h : l.length ≤ 1048576) (hz : ∀ x ∈ l, x.f0.size ≤ 1048576 ∧ x.f1.size ≤ 1048576) : Ev (fun k => spec_DropRoll.f k l i) (dropR l i) := by
  refine Ev.bind (caHas_ok l i h hz) ?_
  cases g : hasRoll l i with
  | false => exact ev_of_eq (fun _ => by simp [dropR, g])
  | true =>
    obtain ⟨g1, g2, g3⟩ := hasRoll_of g
    simp only [if_true]
    simp only [g2, g3, if_true]
    exact Ev.bind (specDrop_l0 l g1 i g2 g3 l [] [] (by simp) (by simp)) (ev_of_eq (fun _ => by simp [dropR, g]))
theorem implDropRoll_ok (l : List S29) (i : Int) (h : l.length ≤ 1048576) (hz : ∀ x ∈ l, x.f0.size ≤ 1048576 ∧ x.f1.size ≤ 1048576) : Ev (fun k => impl_DropRoll.f k l i) (dropR l i) := by
  refine Ev.bind (isRoll_ok l i h hz) ?_
  cases g : hasRoll l i with
  | false => exact ev_of_eq (fun _ => by simp [dropR, g])
  | true =>
    obtain ⟨g1, g2, g3⟩ := hasRoll_of g
    simp only [if_true]
    simp only [g2, g3, if_true]
    exact Ev.bind (implDrop_l0 l g1 i g2 g3 l [] [] (by simp) (by simp)) (ev_of_eq (fun _ => by simp [dropR, g]))

def findR (l : List S29) (t : ByteArray) : Int × Bool := if good l = true ∧ wordOk t = true ∧ ¬ impl_findRoll.idx t 0 l < 0 then (impl_findRoll.idx t 0 l, true) else (0, false)
theorem specFindRoll_ok (l : List S29) (t : ByteArray) (h : l.length ≤ 1048576) (hz : ∀ x ∈ l, x.f0.size ≤ 1048576 ∧ x.f1.size ≤ 1048576) (ht : t.size ≤ 1048576) : Ev (fun k => spec_FindRoll.f k l t) (findR l t) := by
  refine Ev.bind (caGood_ok l (by omega) hz) ?_
  cases g : good l with
  | false => exact ev_of_eq (fun _ => by simp [findR, g])
  | true =>
    simp only [if_true]
    refine Ev.bind (caWord_ok t ht) ?_
    cases w : wordOk t with
    | false => exact ev_of_eq (fun _ => by simp [findR, w])
    | true =>
      simp only [if_true]
      refine Ev.bind (caFind_ok l t (by omega)) ?_
      by_cases c : impl_findRoll.idx t 0 l < 0
      · simp only [c, if_true]; exact ev_of_eq (fun _ => by simp [findR, c])
      · simp only [c, if_false]
        exact Ev.bind (caFind_ok l t (by omega)) (ev_of_eq (fun _ => by simp [findR, c, g, w]))
theorem implFindRoll_ok (l : List S29) (t : ByteArray) (h : l.length ≤ 1048576) (hz : ∀ x ∈ l, x.f0.size ≤ 1048576 ∧ x.f1.size ≤ 1048576) (ht : t.size ≤ 1048576) : Ev (fun k => impl_FindRoll.f k l t) (findR l t) := by
  have J1 : Ev (fun k => impl_FindRoll.j0 k l t true) (0, false) := by
    refine ev_step (f := fun _ => some _) (Ev.now _) (fun k => ?_)
    rw [impl_FindRoll.j0, if_pos rfl]
  refine Ev.bind (isCat_ok l (by omega) hz) ?_
  cases g : good l with
  | false =>
    simp only [Bool.false_eq_true, if_false]
    exact ev_eq J1 (by simp [findR, g])
  | true =>
    simp only [if_true]
    refine Ev.bind (isWord_ok t ht) ?_
    cases w : wordOk t with
    | false => exact ev_eq J1 (by simp [findR, w])
    | true =>
      refine ev_step (f := fun _ => some _) (Ev.now _) (fun k => ?_)
      rw [impl_FindRoll.j0, if_neg (by decide), impl_findRoll.f]
      simp only [Option.bind_some]
      by_cases c : impl_findRoll.idx t 0 l < 0
      · simp [findR, c]
      · simp [findR, c, g, w]

def copies (l : List S29) (n : Int) : Nat → Nat → List Int
  | 0, _ => []
  | d + 1, i => if (i : Int) = n then copies l n d (i + 1) else if n ∈ way l (i : Int) then (i : Int) :: copies l n d (i + 1) else copies l n d (i + 1)
theorem copies_len (l : List S29) (n : Int) (d : Nat) : ∀ i, (copies l n d i).length ≤ d := by
  induction d with
  | zero => intro i; simp [copies]
  | succ d ih =>
    intro i
    have := ih (i + 1)
    simp only [copies]; split
    · omega
    · split <;> simp <;> omega
theorem specCopies_l0 (l : List S29) (n : Int) (hg : good l = true) (d : Nat) : ∀ (i : Nat) (out : List Int), i + d = l.length → out.length + d ≤ 1048576 → Ev (fun k => spec_CopiesOf.l0 k l n out (l.length : Int) (i : Int)) (out ++ copies l n d i, true) := by
  have hgl := good_len hg
  induction d with
  | zero =>
    intro i out h1 h2
    refine ev_step (f := fun _ => some _) (Ev.now _) (fun k => ?_)
    rw [spec_CopiesOf.l0, if_neg (by omega)]; simp [copies]
  | succ d ih =>
    intro i out h1 h2
    have wl := way_len l (i : Int)
    have hw2 : wrap64 ((i : Int) + 1) = ((i + 1 : Nat) : Int) := by rw [wrapS (by omega) (by omega)]; simp
    by_cases c : (i : Int) = n
    · refine ev_step (ev_eq (ih (i + 1) out (by omega) (by omega)) (by rw [copies, if_pos c])) (fun k => ?_)
      rw [spec_CopiesOf.l0, if_pos (by omega), if_pos c, hw2]
    · obtain ⟨K2, e2⟩ := caWay_ok l hg (i : Int) (by omega)
      obtain ⟨K3, e3⟩ := l1Has_ok (way l (i : Int)) n (by omega)
      by_cases q : n ∈ way l (i : Int)
      · obtain ⟨K1, e1⟩ := ih (i + 1) (out ++ [(i : Int)]) (by omega) (by simp; omega)
        dsimp only at e1 e2 e3
        refine ⟨K1 + K2 + K3 + 1, fun k hk => ?_⟩
        obtain ⟨m, rfl⟩ : ∃ m, k = m + 1 := ⟨k - 1, by omega⟩
        dsimp only
        rw [spec_CopiesOf.l0, if_pos (by omega), if_neg c, e2 m (by omega)]
        simp only [Option.bind_some]
        rw [e3 m (by omega)]
        simp only [Option.bind_some]
        rw [if_pos (by simpa using q), if_pos (by omega), hw2, e1 m (by omega), copies, if_neg c, if_pos q]
        simp
      · obtain ⟨K1, e1⟩ := ih (i + 1) out (by omega) (by omega)
        dsimp only at e1 e2 e3
        refine ⟨K1 + K2 + K3 + 1, fun k hk => ?_⟩
        obtain ⟨m, rfl⟩ : ∃ m, k = m + 1 := ⟨k - 1, by omega⟩
        dsimp only
        rw [spec_CopiesOf.l0, if_pos (by omega), if_neg c, e2 m (by omega)]
        simp only [Option.bind_some]
        rw [e3 m (by omega)]
        simp only [Option.bind_some]
        rw [if_neg (by simpa using q), hw2, e1 m (by omega), copies, if_neg c, if_neg q]
theorem implCopies_l0 (l : List S29) (n : Int) (hg : good l = true) (d : Nat) : ∀ (i : Nat) (out : List Int), i + d = l.length → out.length + d ≤ 1048576 → Ev (fun k => impl_CopiesOf.l0 k l n out (l.length : Int) (i : Int)) (out ++ copies l n d i, true) := by
  have hgl := good_len hg
  induction d with
  | zero =>
    intro i out h1 h2
    refine ev_step (f := fun _ => some _) (Ev.now _) (fun k => ?_)
    rw [impl_CopiesOf.l0, if_neg (by omega)]; simp [copies]
  | succ d ih =>
    intro i out h1 h2
    have wl := way_len l (i : Int)
    have hw2 : wrap64 ((i : Int) + 1) = ((i + 1 : Nat) : Int) := by rw [wrapS (by omega) (by omega)]; simp
    by_cases c : (i : Int) = n
    · refine ev_step (ev_eq (ih (i + 1) out (by omega) (by omega)) (by rw [copies, if_pos c])) (fun k => ?_)
      rw [impl_CopiesOf.l0, if_pos (by omega), if_pos c, hw2]
    · obtain ⟨K2, e2⟩ := provenance_ok l hg (i : Int) (by omega)
      obtain ⟨K3, e3⟩ := contains_ok (way l (i : Int)) n (by omega)
      by_cases q : n ∈ way l (i : Int)
      · obtain ⟨K1, e1⟩ := ih (i + 1) (out ++ [(i : Int)]) (by omega) (by simp; omega)
        dsimp only at e1 e2 e3
        refine ⟨K1 + K2 + K3 + 1, fun k hk => ?_⟩
        obtain ⟨m, rfl⟩ : ∃ m, k = m + 1 := ⟨k - 1, by omega⟩
        dsimp only
        rw [impl_CopiesOf.l0, if_pos (by omega), if_neg c, e2 m (by omega)]
        simp only [Option.bind_some]
        rw [e3 m (by omega)]
        simp only [Option.bind_some]
        rw [if_pos (by simpa using q), if_pos (by omega), hw2, e1 m (by omega), copies, if_neg c, if_pos q]
        simp
      · obtain ⟨K1, e1⟩ := ih (i + 1) out (by omega) (by omega)
        dsimp only at e1 e2 e3
        refine ⟨K1 + K2 + K3 + 1, fun k hk => ?_⟩
        obtain ⟨m, rfl⟩ : ∃ m, k = m + 1 := ⟨k - 1, by omega⟩
        dsimp only
        rw [impl_CopiesOf.l0, if_pos (by omega), if_neg c, e2 m (by omega)]
        simp only [Option.bind_some]
        rw [e3 m (by omega)]
        simp only [Option.bind_some]
        rw [if_neg (by simpa using q), hw2, e1 m (by omega), copies, if_neg c, if_neg q]
def copiesR (l : List S29) (i : Int) : List Int × Bool := if hasRoll l i = true then (copies l i l.length 0, true) else ([], false)
theorem copiesR_len (l : List S29) (i : Int) (hl : l.length ≤ 1048576) : (copiesR l i).1.length ≤ 1048576 := by
  have := copies_len l i l.length 0
  unfold copiesR; split
  · simp only; omega
  · simp
theorem specCopiesOf_ok (l : List S29) (i : Int) (h : l.length ≤ 1048576) (hz : ∀ x ∈ l, x.f0.size ≤ 1048576 ∧ x.f1.size ≤ 1048576) : Ev (fun k => spec_CopiesOf.f k l i) (copiesR l i) := by
  refine Ev.bind (caHas_ok l i h hz) ?_
  cases g : hasRoll l i with
  | false => exact ev_of_eq (fun _ => by simp [copiesR, g])
  | true =>
    have hh := hasRoll_of g
    have hgl := good_len hh.1
    simp only [if_true]
    exact ev_eq (specCopies_l0 l i hh.1 l.length 0 [] (by omega) (by simp; omega)) (by simp [copiesR, g])
theorem implCopiesOf_ok (l : List S29) (i : Int) (h : l.length ≤ 1048576) (hz : ∀ x ∈ l, x.f0.size ≤ 1048576 ∧ x.f1.size ≤ 1048576) : Ev (fun k => impl_CopiesOf.f k l i) (copiesR l i) := by
  refine Ev.bind (isRoll_ok l i h hz) ?_
  cases g : hasRoll l i with
  | false => exact ev_of_eq (fun _ => by simp [copiesR, g])
  | true =>
    have hh := hasRoll_of g
    have hgl := good_len hh.1
    simp only [if_true]
    exact ev_eq (implCopies_l0 l i hh.1 l.length 0 [] (by omega) (by simp; omega)) (by simp [copiesR, g])

def addR (l : List S29) (x : S29) : List S29 × Bool := if good l = true then (if good (l ++ [x]) = true then (l ++ [x], true) else ([], false)) else ([], false)
theorem addR_len (l : List S29) (x : S29) (h : l.length ≤ 1048576) : (addR l x).1.length ≤ 1048577 := by
  unfold addR; split
  · split
    · simpa using h
    · simp
  · simp
theorem specAdd_ok (l : List S29) (x0 x1 : ByteArray) (x2 x3 : Int) (h : l.length ≤ 1048576) (hz : ∀ x ∈ l, x.f0.size ≤ 1048576 ∧ x.f1.size ≤ 1048576) (h0 : x0.size ≤ 1048576) (h1 : x1.size ≤ 1048576) :
    Ev (fun k => spec_AddRoll.f k l x0 x1 x2 x3) (addR l ⟨x0, x1, x2, x3⟩) := by
  have hz2 : ∀ x ∈ l ++ [(⟨x0, x1, x2, x3⟩ : S29)], x.f0.size ≤ 1048576 ∧ x.f1.size ≤ 1048576 := fun x hx => by
    rcases List.mem_append.1 hx with hx | hx
    · exact hz x hx
    · rw [List.mem_singleton.1 hx]; exact ⟨h0, h1⟩
  obtain ⟨K1, e1⟩ := caGood_ok l (by omega) hz
  obtain ⟨K2, e2⟩ := caGood_ok (l ++ [(⟨x0, x1, x2, x3⟩ : S29)]) (by simp; omega) hz2
  dsimp only at e1 e2
  refine ⟨K1 + K2, fun k hk => ?_⟩
  dsimp only
  simp only [spec_AddRoll.f, e1 k (by omega), Option.bind_some, List.nil_append, List.length_nil, List.length_cons]
  rw [if_pos (show 0 + l.length < 2932031007402 by omega), if_pos (show l.length + (0 + 1) < 2932031007402 by omega)]
  simp only [e2 k (by omega), Option.bind_some]
  unfold addR
  cases good l <;> cases good (l ++ [(⟨x0, x1, x2, x3⟩ : S29)]) <;> simp
theorem implAdd_ok (l : List S29) (x0 x1 : ByteArray) (x2 x3 : Int) (h : l.length ≤ 1048576) (hz : ∀ x ∈ l, x.f0.size ≤ 1048576 ∧ x.f1.size ≤ 1048576) (h0 : x0.size ≤ 1048576) (h1 : x1.size ≤ 1048576) :
    Ev (fun k => impl_AddRoll.f k l x0 x1 x2 x3) (addR l ⟨x0, x1, x2, x3⟩) := by
  have hz2 : ∀ x ∈ l ++ [(⟨x0, x1, x2, x3⟩ : S29)], x.f0.size ≤ 1048576 ∧ x.f1.size ≤ 1048576 := fun x hx => by
    rcases List.mem_append.1 hx with hx | hx
    · exact hz x hx
    · rw [List.mem_singleton.1 hx]; exact ⟨h0, h1⟩
  obtain ⟨K1, e1⟩ := isCat_ok l (by omega) hz
  obtain ⟨K2, e2⟩ := isCat_ok (l ++ [(⟨x0, x1, x2, x3⟩ : S29)]) (by simp; omega) hz2
  dsimp only at e1 e2
  refine ⟨K1 + K2, fun k hk => ?_⟩
  dsimp only
  simp only [impl_AddRoll.f, impl_Roll_73.f]
  rw [if_pos (by omega)]
  simp only [Option.bind_some, List.length_nil, List.length_cons]
  rw [if_pos (show l.length + (0 + 1) < 2932031007402 by omega)]
  simp only [Option.bind_some, e1 k (by omega), e2 k (by omega)]
  unfold addR
  cases good l <;> cases good (l ++ [(⟨x0, x1, x2, x3⟩ : S29)]) <;> simp

/-! catalogues, roll by roll -/
theorem rdR_take (l : List S29) (n : Nat) (j : Int) (h0 : 0 ≤ j) (h1 : j < n) (h : n ≤ l.length) : rd_T29 (l.take n) j = rd_T29 l j := by
  have := rdR_app (l.take n) (l.drop n) j h0 (by simp; omega)
  rw [List.take_append_drop] at this
  exact this.symm
theorem rdR_get (l : List S29) (n : Nat) (h : n < l.length) : rd_T29 l (n : Int) = l[n] := by
  simp [rd_T29, List.getD_eq_getElem?_getD, h]
theorem goodFrom_iff (suf : List S29) : ∀ pre : List S29, goodFrom pre suf = true ↔ ∀ j : Nat, pre.length ≤ j → j < (pre ++ suf).length → rollOk ((pre ++ suf).take j) (rd_T29 (pre ++ suf) (j : Int)) = true := by
  induction suf with
  | nil => intro pre; simp [goodFrom]; intro j h1 h2; omega
  | cons x suf ih =>
    intro pre
    have h := ih (pre ++ [x])
    rw [snoc_app] at h
    simp only [goodFrom, Bool.and_eq_true, h]
    constructor
    · rintro ⟨h1, h2⟩ j q1 q2
      by_cases e : j = pre.length
      · subst e
        rw [rdR_mid, List.take_left]; exact h1
      · exact h2 j (by simp; omega) q2
    · intro h
      refine ⟨?_, fun j q1 q2 => h j (by simp at q1; omega) q2⟩
      have := h pre.length (Nat.le_refl _) (by simp)
      rw [rdR_mid, List.take_left] at this; exact this
def At (l : List S29) (j : Nat) (x : S29) : Prop :=
  wordOk x.f0 = true ∧ wordOk x.f1 = true ∧ (∀ m : Nat, m < j → (rd_T29 l (m : Int)).f0.toList ≠ x.f0.toList) ∧ (1800 ≤ x.f2 ∧ x.f2 ≤ 2100) ∧ (-1 ≤ x.f3 ∧ x.f3 ≤ (j : Int) - 1) ∧ (x.f3 ≥ 0 → ¬ (rd_T29 l x.f3).f2 > x.f2)
theorem rollOk_at (l : List S29) (j : Nat) (h : j < l.length) (x : S29) : rollOk (l.take j) x = true ↔ At l j x := by
  have ht : (!((l.take j).any (titled x.f0))) = true ↔ ∀ m : Nat, m < j → (rd_T29 l (m : Int)).f0.toList ≠ x.f0.toList := by
    rw [Bool.not_eq_true', List.any_eq_false]
    constructor
    · intro q m hm e
      have hr := rdR_mem (xs := l.take j) (m : Int) (by omega) (by simp; omega)
      rw [rdR_take l j (m : Int) (by omega) (by omega) (by omega)] at hr
      exact q _ hr (by simp [titled, e])
    · intro q y hy e
      obtain ⟨m, hm, rfl⟩ := List.getElem_of_mem hy
      have hm2 : m < j := by simp at hm; omega
      have := q m hm2
      rw [rdR_get l m (by omega)] at this
      simp [titled] at e
      exact this e
  have hl : ((l.take j).length : Int) = (j : Int) := by simp; omega
  simp only [rollOk, yearsOk, Bool.and_eq_true, decide_eq_true_eq, At, ht, hl]
  constructor
  · rintro ⟨a, b, c, d, e, f⟩
    refine ⟨a, b, c, d, e, fun g => ?_⟩
    have := f g
    rwa [rdR_take l j _ g (by omega) (by omega)] at this
  · rintro ⟨a, b, c, d, e, f⟩
    refine ⟨a, b, c, d, e, fun g => ?_⟩
    rw [rdR_take l j _ g (by omega) (by omega)]
    exact f g
theorem good_iff (l : List S29) : good l = true ↔ l.length ≤ 30 ∧ ∀ j : Nat, j < l.length → At l j (rd_T29 l (j : Int)) := by
  have h := goodFrom_iff l []
  rw [List.nil_append] at h
  simp only [good, Bool.and_eq_true, decide_eq_true_eq, h]
  constructor
  · rintro ⟨a, b⟩
    exact ⟨b, fun j hj => (rollOk_at l j hj _).1 (a j (Nat.zero_le _) hj)⟩
  · rintro ⟨a, b⟩
    exact ⟨fun j _ hj => (rollOk_at l j hj _).2 (b j hj), a⟩
theorem good_at {l : List S29} (h : good l = true) (j : Int) (h0 : 0 ≤ j) (h1 : j < l.length) : At l j.toNat (rd_T29 l j) := by
  have := ((good_iff l).1 h).2 j.toNat (by omega)
  rwa [show ((j.toNat : Nat) : Int) = j by omega] at this
theorem word_size {s : ByteArray} (h : wordOk s = true) : s.size ≤ 12 := by
  simp only [wordOk, Bool.and_eq_true, decide_eq_true_eq] at h
  exact h.2.2
theorem good_size {l : List S29} (h : good l = true) : ∀ x ∈ l, x.f0.size ≤ 1048576 ∧ x.f1.size ≤ 1048576 := by
  intro x hx
  obtain ⟨m, hm, rfl⟩ := List.getElem_of_mem hx
  have := ((good_iff l).1 h).2 m hm
  rw [rdR_get l m hm] at this
  have a := word_size this.1
  have b := word_size this.2.1
  omega
theorem idx_at {l : List S29} (h : good l = true) (m : Int) (h0 : 0 ≤ m) (h1 : m < l.length) : impl_findRoll.idx (rd_T29 l m).f0 0 l = m := by
  obtain ⟨n, rfl⟩ : ∃ n : Nat, m = n := ⟨m.toNat, by omega⟩
  have hn : n < l.length := by omega
  have ha := ((good_iff l).1 h).2 n hn
  have hs : l = l.take n ++ rd_T29 l (n : Int) :: l.drop (n + 1) := by
    rw [rdR_get l n hn, List.getElem_cons_drop, List.take_append_drop]
  have := (idx_self (l.take n) (l.drop (n + 1)) (rd_T29 l (n : Int))).2 (by
    have := (rollOk_at l n hn _).2 ha
    simp only [rollOk, Bool.and_eq_true, Bool.not_eq_true'] at this
    exact this.2.2.1)
  rw [← hs] at this
  rw [this]
  simp; omega
theorem idx_hit (t : ByteArray) (suf : List S29) : ∀ pre : List S29, ¬ impl_findRoll.idx t (pre.length : Int) suf < 0 → 0 ≤ impl_findRoll.idx t (pre.length : Int) suf ∧ impl_findRoll.idx t (pre.length : Int) suf < ((pre ++ suf).length : Int) ∧ (rd_T29 (pre ++ suf) (impl_findRoll.idx t (pre.length : Int) suf)).f0.toList = t.toList := by
  induction suf with
  | nil => intro pre h; simp [impl_findRoll.idx] at h
  | cons x suf ih =>
    intro pre h
    have h2 := ih (pre ++ [x])
    rw [snoc_app, snoc_leni] at h2
    simp only [impl_findRoll.idx] at h ⊢
    by_cases c : x.f0.toList = t.toList
    · simp only [if_pos c]
      exact ⟨by omega, by simp; omega, by rw [rdR_mid]; exact c⟩
    · simp only [if_neg c] at h ⊢
      exact h2 h
theorem dropL_after (l : List S29) (i : Int) (s : List S29) : ∀ n, i < n → dropL l i n s = s.map (dropX l i) := by
  induction s with
  | nil => intro n _; rfl
  | cons x s ih => intro n h; rw [dropL, if_neg (by omega), ih (n + 1) (by omega), List.map_cons]
theorem dropL_mid (l : List S29) (i : Int) (x : S29) (suf : List S29) (pre : List S29) : ∀ n, n + pre.length = i → dropL l i n (pre ++ x :: suf) = (pre ++ suf).map (dropX l i) := by
  induction pre with
  | nil => intro n h; simp at h; rw [List.nil_append, dropL, if_pos h, dropL_after _ _ _ _ (by omega), List.nil_append]
  | cons y pre ih =>
    intro n h
    simp at h
    rw [List.cons_append, dropL, if_neg (by omega), ih (n + 1) (by omega), List.cons_append, List.map_cons]
def upR (i j : Int) : Int := if j < i then j else j + 1
theorem drop_eq (l : List S29) (i : Int) (h0 : 0 ≤ i) (h1 : i < l.length) : dropL l i 0 l = (l.take i.toNat ++ l.drop (i.toNat + 1)).map (dropX l i) := by
  have hn : i.toNat < l.length := by omega
  have hs : l = l.take i.toNat ++ l[i.toNat] :: l.drop (i.toNat + 1) := by
    rw [List.getElem_cons_drop, List.take_append_drop]
  have := dropL_mid l i l[i.toNat] (l.drop (i.toNat + 1)) (l.take i.toNat) 0 (by simp; omega)
  rw [← hs] at this
  exact this
theorem drop_len (l : List S29) (i : Int) (h0 : 0 ≤ i) (h1 : i < l.length) : ((dropL l i 0 l).length : Int) = (l.length : Int) - 1 := by
  rw [drop_eq l i h0 h1]; simp; omega
theorem rdR_map (f : S29 → S29) (l : List S29) (j : Int) (h0 : 0 ≤ j) (h1 : j < l.length) : rd_T29 (l.map f) j = f (rd_T29 l j) := by
  obtain ⟨n, rfl⟩ : ∃ n : Nat, j = n := ⟨j.toNat, by omega⟩
  rw [rdR_get _ n (by simp; omega), rdR_get _ n (by omega), List.getElem_map]
theorem drop_rd (l : List S29) (i : Int) (h0 : 0 ≤ i) (h1 : i < l.length) (j : Int) (j0 : 0 ≤ j) (j1 : j < (l.length : Int) - 1) : rd_T29 (dropL l i 0 l) j = dropX l i (rd_T29 l (upR i j)) := by
  rw [drop_eq l i h0 h1, rdR_map _ _ _ j0 (by simp; omega)]
  congr 1
  unfold upR
  by_cases c : j < i
  · rw [if_pos c, rdR_app _ _ _ j0 (by simp; omega), rdR_take _ _ _ j0 (by omega) (by omega)]
  · rw [if_neg c]
    obtain ⟨n, rfl⟩ : ∃ n : Nat, j = n := ⟨j.toNat, by omega⟩
    rw [rdR_get _ n (by simp; omega), show ((n : Int) + 1) = ((n + 1 : Nat) : Int) by omega, rdR_get _ (n + 1) (by omega)]
    rw [List.getElem_append_right (by simp; omega), List.getElem_drop]
    congr 1
    simp; omega
theorem dropX_f (l : List S29) (i : Int) (x : S29) : (dropX l i x).f0 = x.f0 ∧ (dropX l i x).f1 = x.f1 ∧ (dropX l i x).f2 = x.f2 ∧ (dropX l i x).f3 = if x.f3 = i then (rd_T29 l i).f3 else if x.f3 > i then x.f3 - 1 else x.f3 := by
  unfold dropX
  by_cases c : x.f3 = i
  · simp only [if_pos c, and_self]
  · by_cases d : x.f3 > i
    · simp only [if_neg c, if_pos d, and_self]
    · simp only [if_neg c, if_neg d, and_self]
theorem drop_good (l : List S29) (i : Int) (h0 : 0 ≤ i) (h1 : i < l.length) (hg : good l = true) : good (dropL l i 0 l) = true := by
  have hl := drop_len l i h0 h1
  have hgl := good_len hg
  refine (good_iff _).2 ⟨by omega, fun j hj => ?_⟩
  have hj1 : (j : Int) < (l.length : Int) - 1 := by omega
  have hu0 : 0 ≤ upR i (j : Int) := by unfold upR; split <;> omega
  have hu1 : upR i (j : Int) < (l.length : Int) := by unfold upR; split <;> omega
  rw [drop_rd l i h0 h1 (j : Int) (by omega) hj1]
  obtain ⟨f0, f1, f2, f3⟩ := dropX_f l i (rd_T29 l (upR i (j : Int)))
  obtain ⟨a1, a2, a3, a4, a5, a6⟩ := good_at hg (upR i (j : Int)) hu0 hu1
  obtain ⟨_, _, _, _, b5, b6⟩ := good_at hg i h0 h1
  have hd : ∀ t : Int, 0 ≤ t → t < (l.length : Int) - 1 → (rd_T29 (dropL l i 0 l) t).f2 = (rd_T29 l (upR i t)).f2 := fun t t0 t1 => by
    rw [drop_rd l i h0 h1 t t0 t1]; exact (dropX_f l i _).2.2.1
  unfold At
  rw [f0, f1, f2, f3]
  generalize hx : rd_T29 l (upR i (j : Int)) = x at a1 a2 a3 a4 a5 a6 ⊢
  refine ⟨a1, a2, fun m hm => ?_, a4, ?_, ?_⟩
  · rw [drop_rd l i h0 h1 (m : Int) (by omega) (by omega), (dropX_f l i _).1]
    have hm0 : 0 ≤ upR i (m : Int) := by unfold upR; split <;> omega
    have := a3 (upR i (m : Int)).toNat (by unfold upR; split <;> split <;> omega)
    rwa [show (((upR i (m : Int)).toNat : Nat) : Int) = upR i (m : Int) by omega] at this
  · by_cases c : x.f3 = i
    · rw [if_pos c]
      unfold upR at a5; split at a5 <;> omega
    · rw [if_neg c]
      unfold upR at a5; split at a5 <;> split <;> omega
  · by_cases c : x.f3 = i
    · rw [if_pos c]
      intro g
      have y1 := a6 (by omega)
      have y2 := b6 g
      rw [c] at y1
      rw [hd _ g (by omega), show upR i (rd_T29 l i).f3 = (rd_T29 l i).f3 from if_pos (by omega)]
      omega
    · rw [if_neg c]
      by_cases d : x.f3 > i
      · rw [if_pos d]
        intro g
        have y1 := a6 (by omega)
        rw [hd _ g (by omega), show upR i (x.f3 - 1) = x.f3 from (if_neg (by omega)).trans (by omega)]
        exact y1
      · rw [if_neg d]
        intro g
        have y1 := a6 g
        rw [hd _ g (by omega), show upR i x.f3 = x.f3 from if_pos (by omega)]
        exact y1

end Go.Proofs.Ytlbbkepkincleaa.LFnRollsD
