/- For every input the law FnParts answers true, after some number of rounds; the conditions are the input's own bounds. -/
import Derived.Test.YtkkhcemkppmgdaaDoorQFnPartsx17
import Derived.Test.YtkkhcemkppmgdaaDoorBaseP
import Derived.Test.YtkkhcemkppmgdaaDoorLFnPartsD
namespace Go.Proofs.YtkkhcemkppmgdaaDoor.Pure
open Go Go.RowKit Go.Proofs.YtkkhcemkppmgdaaDoor.QFnParts Go.Proofs.YtkkhcemkppmgdaaDoorW.PrintWords Go.Proofs.YtkkhcemkppmgdaaDoorW.PrintLast Go.Proofs.YtkkhcemkppmgdaaDoorW.PrintMore Go.Proofs.YtkkhcemkppmgdaaDoor.Base Go.Proofs.YtkkhcemkppmgdaaDoor.LFnPartsD
set_option linter.unusedVariables false
set_option linter.unusedSimpArgs false

/-! what the law asks of parts -/
theorem u8_bytes {l : List Int} (h : ∀ x ∈ l, (Lit.int .u8 x).wf = true) : bytesOk l := by
  intro x hx
  have := h x hx
  simp [Lit.wf, IntKind.min, IntKind.max, IntKind.bits, IntKind.signed] at this
  omega
theorem ne2 (x : Bool) : ¬ (x != x) = true := by simp
theorem law_j6 {x1 : List Int} (hb : bytesOk x1) : Ev (fun k => laws_FnParts.j6 k x1) true := by
  obtain ⟨a, i, ⟨K1, e1⟩, la, hi⟩ := drawSrcAt_ok hb
  obtain ⟨b, n, ⟨K2, e2⟩, lb⟩ := drawSteps_ok hb
  obtain ⟨c, m, ⟨K3, e3⟩, lc⟩ := drawAre_ok hb
  obtain ⟨K4, e4⟩ := implSrcAt_ok a i (by omega) (by omega)
  obtain ⟨K5, e5⟩ := specSrcAt_ok a i (by omega) (by omega)
  obtain ⟨K6, e6⟩ := implSteps_ok b n (by omega)
  obtain ⟨K7, e7⟩ := specSteps_ok b n (by omega)
  obtain ⟨K8, e8⟩ := implAreParts_ok c m (by omega)
  obtain ⟨K9, e9⟩ := specAreParts_ok c m (by omega)
  dsimp only at e1 e2 e3 e4 e5 e6 e7 e8 e9
  refine ⟨K1 + K2 + K3 + K4 + K5 + K6 + K7 + K8 + K9 + 1, fun k hk => ?_⟩
  obtain ⟨q, rfl⟩ : ∃ q, k = q + 1 := ⟨k - 1, by omega⟩
  dsimp only
  rw [laws_FnParts.j6, e1 q (by omega), Option.bind_some, e4 q (by omega), Option.bind_some, e5 q (by omega), Option.bind_some, e2 q (by omega), Option.bind_some, e6 q (by omega), Option.bind_some, e7 q (by omega), Option.bind_some, e3 q (by omega), Option.bind_some]
  rw [if_pos (by simp), if_pos rfl, if_pos rfl, if_pos (by simp), if_pos rfl, e8 q (by omega), Option.bind_some, e9 q (by omega), Option.bind_some]
  simp
theorem pIn_l0 (n : Int) (suf : List Int) : ∀ pre : List Int, (pre ++ suf).length ≤ 1048576 → Ev (fun k => laws_pIn.l0 k n (pre ++ suf) ((pre ++ suf).length : Int) (pre.length : Int)) (decide (n ∈ suf)) := by
  induction suf with
  | nil =>
    intro pre _
    refine ev_step (f := fun _ => some _) (Ev.now _) (fun k => ?_)
    rw [laws_pIn.l0, if_neg (by simp)]; simp
  | cons x suf ih =>
    intro pre hl
    have hl' : (pre.length : Int) < ((pre ++ x :: suf).length : Int) := by simp; omega
    have hlp : pre.length + (suf.length + 1) ≤ 1048576 := by simpa using hl
    by_cases c : x = n
    · refine ev_step (f := fun _ => some _) (Ev.now _) (fun k => ?_)
      rw [laws_pIn.l0, if_pos hl', if_pos (by omega), if_pos hl', rd_mid, if_pos c]; simp [c]
    · have h := ih (pre ++ [x]) (by simp at hl ⊢; omega)
      rw [snoc_app, snoc_leni] at h
      refine ev_step (ev_eq h (decide_eq_decide.2 (by simp [Ne.symm c]))) (fun k => ?_)
      rw [laws_pIn.l0, if_pos hl', if_pos (by omega), if_pos hl', rd_mid, if_neg c, wrapS (by omega) (by omega)]
theorem pIn_ok (l : List Int) (n : Int) (h : l.length ≤ 1048576) : Ev (fun k => laws_pIn.f k l n) (decide (n ∈ l)) := by
  have := pIn_l0 n l [] (by simpa using h)
  simp only [List.nil_append, List.length_nil, Int.natCast_zero] at this
  exact Ev.congr (fun _ => rfl) this
def upto (l : List S93) : Nat → Int
  | 0 => 0
  | n + 1 => upto l n + fromS (n : Int) l
theorem upto_ge (l : List S93) (h : l.all partOk = true) (n : Nat) : 0 ≤ upto l n ∧ upto l n ≤ n * total l := by
  induction n with
  | zero => simp [upto]
  | succ n ih =>
    have := fromS_ge (n : Int) h
    simp only [upto]
    have e : ((n + 1 : Nat) : Int) * total l = n * total l + total l := by rw [Int.natCast_succ, Int.add_mul, Int.one_mul]
    omega
theorem law_l1 {x1 : List Int} (hb : bytesOk x1) (u : List S93) (hg : partsGood u = true) (d : Nat) : ∀ i : Nat, i + d = 4 → Ev (fun k => laws_FnParts.l1 k x1 u (setOf (u.map (fun x => x.f0))) (total u) (upto u i) (i : Int)) true := by
  obtain ⟨g1, g2, g3, g4, g5⟩ := good_parts hg
  induction d with
  | zero =>
    intro i hi
    obtain rfl : i = 4 := by omega
    have hs := fromS_sum g1
    refine ev_step (law_j6 hb) (fun k => ?_)
    rw [laws_FnParts.l1, if_neg (by decide), if_pos (by
      have q0 : fromS ((0 : Nat) : Int) u = fromS 0 u := rfl
      have q1 : fromS ((1 : Nat) : Int) u = fromS 1 u := rfl
      have q2 : fromS ((2 : Nat) : Int) u = fromS 2 u := rfl
      have q3 : fromS ((3 : Nat) : Int) u = fromS 3 u := rfl
      simp only [upto]; omega)]
  | succ d ih =>
    intro i hi
    obtain ⟨f0, f1, f2⟩ := fromS_ge (i : Int) g1
    have hu := upto_ge u g1 i
    have hi4 : i ≤ 3 := by omega
    have hm : (i : Int) * total u ≤ 8000 := by
      have h1 : (i : Int) * total u ≤ 3 * total u := Int.mul_le_mul_of_nonneg_right (by omega) g3
      omega
    have hlen := setOf_len (u.map (fun x => x.f0))
    have hR : stepsR u (i : Int) = (fromS (i : Int) u, true) := if_pos ⟨hg, by omega, by omega⟩
    obtain ⟨K1, e1⟩ := implSteps_ok u (i : Int) (by omega)
    obtain ⟨K2, e2⟩ := specSteps_ok u (i : Int) (by omega)
    obtain ⟨K3, e3⟩ := pIn_ok (setOf (u.map (fun x => x.f0))) (i : Int) (by simp at hlen; omega)
    obtain ⟨K4, e4⟩ := ih (i + 1) (by omega)
    rw [hR] at e1 e2
    rw [show decide ((i : Int) ∈ setOf (u.map (fun x => x.f0))) = decide (fromS (i : Int) u > 0) from decide_eq_decide.2 (((setOf_sorted _).2 _).trans f2.symm)] at e3
    dsimp only at e1 e2 e3 e4
    refine ⟨K1 + K2 + K3 + K4 + 1, fun k hk => ?_⟩
    obtain ⟨q, rfl⟩ : ∃ q, k = q + 1 := ⟨k - 1, by omega⟩
    dsimp only
    rw [laws_FnParts.l1, if_pos (by omega), e1 q (by omega), Option.bind_some, e2 q (by omega), Option.bind_some, if_pos rfl, if_pos rfl, if_pos rfl, e3 q (by omega), Option.bind_some, if_neg (ne2 _), wrapS (x := upto u i + fromS (i : Int) u) (by omega) (by omega), wrapS (x := (i : Int) + 1) (by omega) (by omega)]
    exact e4 q (by omega)
theorem same_l0 (suf : List Int) : ∀ pre : List Int, (pre ++ suf).length ≤ 4000000 → Ev (fun k => laws_sameInts.l0 k (pre ++ suf) (pre ++ suf) ((pre ++ suf).length : Int) (pre.length : Int)) true := by
  induction suf with
  | nil =>
    intro pre _
    refine ev_step (f := fun _ => some _) (Ev.now _) (fun k => ?_)
    rw [laws_sameInts.l0, if_neg (by simp)]
  | cons x suf ih =>
    intro pre hl
    have h := ih (pre ++ [x]) (by simp at hl ⊢; omega)
    rw [snoc_app, snoc_leni] at h
    have hl' : (pre.length : Int) < ((pre ++ x :: suf).length : Int) := by simp; omega
    refine ev_step h (fun k => ?_)
    rw [laws_sameInts.l0, if_pos hl', if_pos (by omega), if_pos hl', if_pos hl', if_pos rfl, wrapS (by omega) (by simp at hl; omega)]
theorem same_ok (l : List Int) (h : l.length ≤ 4000000) : Ev (fun k => laws_sameInts.f k l l) true := by
  have := same_l0 l [] (by simpa using h)
  refine Ev.congr (fun k => ?_) this
  rw [laws_sameInts.f, if_pos rfl]
  rfl
theorem pSame_l0 (suf : List S93) : ∀ pre : List S93, (pre ++ suf).length ≤ 4000000 → Ev (fun k => laws_pSameParts.l0 k (pre ++ suf) (pre ++ suf) ((pre ++ suf).length : Int) (pre.length : Int)) true := by
  induction suf with
  | nil =>
    intro pre _
    refine ev_step (f := fun _ => some _) (Ev.now _) (fun k => ?_)
    rw [laws_pSameParts.l0, if_neg (by simp)]
  | cons x suf ih =>
    intro pre hl
    have h := ih (pre ++ [x]) (by simp at hl ⊢; omega)
    rw [snoc_app, snoc_leni] at h
    have hl' : (pre.length : Int) < ((pre ++ x :: suf).length : Int) := by simp; omega
    refine ev_step h (fun k => ?_)
    rw [laws_pSameParts.l0, if_pos hl', if_pos (by omega), if_pos hl', if_pos hl', if_neg (by simp), wrapS (by omega) (by simp at hl; omega)]
theorem pSame_ok (l : List S93) (h : l.length ≤ 4000000) : Ev (fun k => laws_pSameParts.f k l l) true := by
  have := pSame_l0 l [] (by simpa using h)
  refine Ev.congr (fun k => ?_) this
  rw [laws_pSameParts.f, if_pos rfl]
  rfl
theorem law_j3 {x1 : List Int} (hb : bytesOk x1) : Ev (fun k => laws_FnParts.j3 k x1) true := by
  obtain ⟨u, ⟨K1, e1⟩, lu⟩ := drawUsed_ok hb
  obtain ⟨K2, e2⟩ := implSrc_ok u (by omega)
  obtain ⟨K3, e3⟩ := specSrc_ok u (by omega)
  obtain ⟨K4, e4⟩ := implLength_ok u (by omega)
  obtain ⟨K5, e5⟩ := specLength_ok u (by omega)
  obtain ⟨K6, e6⟩ := implText_ok u (by omega)
  obtain ⟨K7, e7⟩ := specText_ok u (by omega)
  obtain ⟨K8, e8⟩ := implAreParts_ok u 4 (by omega)
  obtain ⟨K9, e9⟩ := same_ok (srcR u).1 (srcR_len u (by omega))
  have J6 := law_j6 hb
  rw [areParts4] at e8
  cases g : partsGood u with
  | false =>
    have hn : ¬ partsGood u = true := by rw [g]; simp
    have hs : srcR u = ([], false) := by rw [srcR, if_neg hn]
    have ht : textR u = (⟨#[]⟩, false) := by rw [textR, if_neg hn]
    have J : Ev (fun k => laws_FnParts.j4 k x1 u false [] 0 false) true := ev_step J6 (fun k => by rw [laws_FnParts.j4, if_neg (by simp), if_neg (by simp)])
    obtain ⟨K10, e10⟩ := J
    rw [hs] at e2 e3 e9
    rw [ht] at e6 e7
    rw [if_neg hn] at e4 e5
    rw [g] at e8
    dsimp only at e1 e2 e3 e4 e5 e6 e7 e8 e9 e10
    refine ⟨K1 + K2 + K3 + K4 + K5 + K6 + K7 + K8 + K9 + K10 + 1, fun k hk => ?_⟩
    obtain ⟨q, rfl⟩ : ∃ q, k = q + 1 := ⟨k - 1, by omega⟩
    dsimp only
    rw [laws_FnParts.j3, e1 q (by omega), Option.bind_some, e2 q (by omega), Option.bind_some, e3 q (by omega), Option.bind_some, e4 q (by omega), Option.bind_some, e5 q (by omega), Option.bind_some, e6 q (by omega), Option.bind_some, e7 q (by omega), Option.bind_some]
    dsimp only
    rw [if_neg (ne2 _), e9 q (by omega), Option.bind_some, if_pos rfl, if_neg (ne2 _), if_pos rfl, if_neg (ne2 _), if_pos rfl, if_neg (ne2 _), if_neg (ne2 _), e8 q (by omega), Option.bind_some]
    exact e10 q (by omega)
  | true =>
    have hs : srcR u = (setOf (u.map (fun x => x.f0)), true) := by rw [srcR, if_pos g]
    have ht : textR u = (⟨(u.flatMap impl_PartsText.line).toArray⟩, true) := by rw [textR, if_pos g]
    have J : Ev (fun k => laws_FnParts.j4 k x1 u true (setOf (u.map (fun x => x.f0))) (total u) false) true := ev_step (law_l1 hb u g 4 0 (by omega)) (fun k => by rw [laws_FnParts.j4, if_neg (by simp), if_pos rfl]; rfl)
    obtain ⟨K10, e10⟩ := J
    rw [hs] at e2 e3 e9
    rw [ht] at e6 e7
    rw [if_pos g] at e4 e5
    rw [g] at e8
    dsimp only at e1 e2 e3 e4 e5 e6 e7 e8 e9 e10
    refine ⟨K1 + K2 + K3 + K4 + K5 + K6 + K7 + K8 + K9 + K10 + 1, fun k hk => ?_⟩
    obtain ⟨q, rfl⟩ : ∃ q, k = q + 1 := ⟨k - 1, by omega⟩
    dsimp only
    rw [laws_FnParts.j3, e1 q (by omega), Option.bind_some, e2 q (by omega), Option.bind_some, e3 q (by omega), Option.bind_some, e4 q (by omega), Option.bind_some, e5 q (by omega), Option.bind_some, e6 q (by omega), Option.bind_some, e7 q (by omega), Option.bind_some]
    dsimp only
    rw [if_neg (ne2 _), e9 q (by omega), Option.bind_some, if_pos rfl, if_neg (ne2 _), if_pos rfl, if_neg (ne2 _), if_pos rfl, if_neg (ne2 _), if_neg (ne2 _), e8 q (by omega), Option.bind_some]
    exact e10 q (by omega)
theorem law_l0 {x1 : List Int} (hb : bytesOk x1) (l : List S93) (a b : Int) (hl : l.length ≤ 13) (hg : partsGood l = true) (h0 : 0 ≤ a) (h1 : a < b) (h2 : b ≤ total l) (d : Nat) : ∀ i : Nat, i + d = 11 → Ev (fun k => laws_FnParts.l0 k x1 l a b (cutL a b 0 l) (i : Int)) true := by
  obtain ⟨g1, g2, g3, g4, g5⟩ := good_parts hg
  obtain ⟨c1, c2⟩ := cut_good hg h0 h1 h2
  have cl := cutL_len a b l 0
  induction d with
  | zero =>
    intro i hi
    refine ev_step (law_j3 hb) (fun k => ?_)
    rw [laws_FnParts.l0, if_neg (by omega)]
  | succ d ih =>
    intro i hi
    have hi10 : (i : Int) ≤ 10 := by omega
    have hm0 : 0 ≤ (i : Int) * (b - a - 1) := Int.mul_nonneg (by omega) (by omega)
    have hm1 : (i : Int) * (b - a - 1) ≤ 10 * (b - a - 1) := Int.mul_le_mul_of_nonneg_right (by omega) (by omega)
    obtain ⟨m, hm⟩ : ∃ m, (i : Int) * (b - a - 1) = m := ⟨_, rfl⟩
    rw [hm] at hm0 hm1
    obtain ⟨s, hs⟩ : ∃ s, s = m / 10 := ⟨_, rfl⟩
    have s0 : 0 ≤ s := by omega
    have s1 : s ≤ b - a - 1 := by omega
    have ht : Int.tdiv m 10 = s := by rw [hs]; exact Int.tdiv_eq_ediv_of_nonneg hm0
    have w2 : wrap64 (a + s) = a + s := wrapS (by omega) (by omega)
    have w3 : wrap64 ((i : Int) + 1) = (i : Int) + 1 := wrapS (by clear w2; omega) (by clear w2; omega)
    have w : wrap64 (Int.tdiv (wrap64 ((i : Int) * (wrap64 ((wrap64 (b - a)) - 1)))) 10) = s := by
      rw [wrapS (x := b - a) (by clear w2 w3; omega) (by clear w2 w3; omega), wrapS (x := b - a - 1) (by clear w2 w3; omega) (by clear w2 w3; omega), hm, wrapS (x := m) (by clear w2 w3; omega) (by clear w2 w3; omega), ht, wrapS (by clear w2 w3; omega) (by clear w2 w3; omega)]
    have R1 : srcAtR (cutL a b 0 l) s = ((at_ l (a + s)).1, (at_ l (a + s)).2, true) := by
      rw [srcAtR, if_pos ⟨c1, s0, by clear w w2 w3; omega⟩, cutL_at a b h1 g1 0 s s0 (by clear w w2 w3; omega), show s + max 0 a - 0 = a + s by clear w w2 w3; omega]
    have R2 : srcAtR l (a + s) = ((at_ l (a + s)).1, (at_ l (a + s)).2, true) := by
      rw [srcAtR, if_pos ⟨hg, by clear w w2 w3; omega, by clear w w2 w3; omega⟩]
    obtain ⟨K1, e1⟩ := implSrcAt_ok (cutL a b 0 l) s (by clear w w2 w3; omega) (by clear w w2 w3; omega)
    obtain ⟨K2, e2⟩ := implSrcAt_ok l (a + s) (by clear w w2 w3; omega) (by clear w w2 w3; omega)
    obtain ⟨K3, e3⟩ := specSrcAt_ok l (a + s) (by clear w w2 w3; omega) (by clear w w2 w3; omega)
    obtain ⟨K4, e4⟩ := ih (i + 1) (by clear w w2 w3; omega)
    rw [R1] at e1
    rw [R2] at e2 e3
    dsimp only at e1 e2 e3 e4
    refine ⟨K1 + K2 + K3 + K4 + 1, fun k hk => ?_⟩
    obtain ⟨q, rfl⟩ : ∃ q, k = q + 1 := ⟨k - 1, by clear w w2 w3; omega⟩
    dsimp only
    rw [laws_FnParts.l0, if_pos hi10, w, w2, e1 q (by clear w w2 w3; omega), Option.bind_some, e2 q (by clear w w2 w3; omega), Option.bind_some, e3 q (by clear w w2 w3; omega), Option.bind_some]
    dsimp only
    rw [if_pos rfl, if_pos rfl, if_pos rfl, if_pos rfl, if_pos rfl, if_pos rfl, if_pos rfl, w3]
    exact e4 q (by clear w w2 w3; omega)
theorem law_j0 {x1 : List Int} (hb : bytesOk x1) (l : List S93) (a b : Int) (hl : l.length ≤ 13) : Ev (fun k => laws_FnParts.j0 k x1 l a b (cutR l a b).1 (cutR l a b).2 false) true := by
  by_cases c : partsGood l = true ∧ 0 ≤ a ∧ a < b ∧ b ≤ total l
  · obtain ⟨hg, h0, h1, h2⟩ := c
    obtain ⟨g1, g2, g3, g4, g5⟩ := good_parts hg
    obtain ⟨c1, c2⟩ := cut_good hg h0 h1 h2
    have cl := cutL_len a b l 0
    have R : cutR l a b = (cutL a b 0 l, true) := by rw [cutR, if_pos ⟨hg, h0, h1, h2⟩]
    have J1 : Ev (fun k => laws_FnParts.j1 k x1 l a b (cutL a b 0 l) false) true := ev_step (law_l0 hb l a b hl hg h0 h1 h2 11 0 (by omega)) (fun k => by rw [laws_FnParts.j1, if_neg (by simp)]; rfl)
    obtain ⟨K1, e1⟩ := J1
    obtain ⟨K2, e2⟩ := implLength_ok (cutL a b 0 l) (by omega)
    rw [if_pos c1] at e2
    have w : wrap64 (b - a) = total (cutL a b 0 l) := by rw [c2]; exact wrapS (by omega) (by omega)
    rw [R]
    dsimp only at e1 e2
    refine ⟨K1 + K2 + 1, fun k hk => ?_⟩
    obtain ⟨q, rfl⟩ : ∃ q, k = q + 1 := ⟨k - 1, by omega⟩
    dsimp only
    rw [laws_FnParts.j0, if_neg (by simp), if_pos rfl, e2 q (by omega), Option.bind_some]
    dsimp only
    rw [if_pos rfl, w, show (total (cutL a b 0 l) != total (cutL a b 0 l)) = false by simp]
    exact e1 q (by omega)
  · have R : cutR l a b = ([], false) := by rw [cutR, if_neg c]
    rw [R]
    refine ev_step (law_j3 hb) (fun k => ?_)
    dsimp only
    rw [laws_FnParts.j0, if_neg (by simp), if_neg (by simp)]
theorem big_ok (l0 l1 : List Int) : ∃ b, laws_big.f l0 l1 = some b := by
  unfold laws_big.f; split <;> exact ⟨_, rfl⟩
theorem FnParts : laws_FnParts.Pure := by
  intro l0 l1 hm0 hb0 hw0 hm1 hb1 hw1
  obtain ⟨big, hbig⟩ := big_ok l0 l1
  cases big with
  | true => exact ⟨0, by rw [laws_FnParts.f, hbig, Option.bind_some, if_pos rfl]⟩
  | false =>
    obtain ⟨l, a, b, ⟨K1, e1⟩, ll⟩ := drawCutEd_ok (u8_bytes hw0)
    obtain ⟨K2, e2⟩ := implCutEd_ok l a b (by omega)
    obtain ⟨K3, e3⟩ := specCutEd_ok l a b (by omega)
    have cl : (cutR l a b).1.length ≤ 4000000 := by
      have := cutL_len a b l 0
      unfold cutR; split <;> simp <;> omega
    obtain ⟨K4, e4⟩ := pSame_ok (cutR l a b).1 cl
    obtain ⟨K5, e5⟩ := law_j0 (u8_bytes hw1) l a b ll
    dsimp only at e1 e2 e3 e4 e5
    refine ⟨K1 + K2 + K3 + K4 + K5, ?_⟩
    generalize hK : K1 + K2 + K3 + K4 + K5 = k
    rw [laws_FnParts.f, hbig, Option.bind_some, if_neg (by simp), e1 k (by omega), Option.bind_some]
    dsimp only
    rw [e2 k (by omega), Option.bind_some, e3 k (by omega), Option.bind_some, if_neg (ne2 _), e4 k (by omega), Option.bind_some]
    exact e5 k (by omega)

end Go.Proofs.YtkkhcemkppmgdaaDoor.Pure
