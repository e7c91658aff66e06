/- For every input the law FnCopies answers true, after some number of rounds; the conditions are the input's own bounds. -/
import Derived.Test.YtplpjmhmochcfaaQFnCopiesx15
import Derived.Test.YtplpjmhmochcfaaBaseC
import Derived.Test.YtplpjmhmochcfaaLFnCopiesA
namespace Go.Proofs.Ytplpjmhmochcfaa.Pure
open Go Go.RowKit Go.Proofs.Ytplpjmhmochcfaa.QFnCopies Go.Proofs.YtplpjmhmochcfaaW.PrintWords Go.Proofs.YtplpjmhmochcfaaW.PrintLast Go.Proofs.YtplpjmhmochcfaaW.PrintMore Go.Proofs.Ytplpjmhmochcfaa.Base Go.Proofs.Ytplpjmhmochcfaa.LFnCopiesA
set_option linter.unusedVariables false
set_option linter.unusedSimpArgs false

/-! the law of copies, join by join -/
theorem u8_bytes {l : List Int} (h : ∀ x ∈ l, (Lit.int .u8 x).wf = true) : bytesOk l := by
  intro x hx
  have := h x hx
  simp [Lit.wf, IntKind.min, IntKind.max, IntKind.bits, IntKind.signed] at this
  omega
theorem ne2 (x : Bool) : ¬ (x != x) = true := by simp
theorem sameI_l0 (suf : List Int) : ∀ pre : List Int, (pre ++ suf).length ≤ 9223372036854775806 → Ev (fun k => laws_sameInts.l0 k (pre ++ suf) (pre ++ suf) ((pre ++ suf).length : Int) (pre.length : Int)) true := by
  induction suf with
  | nil =>
    intro pre _
    refine ev_step (f := fun _ => some _) (Ev.now _) (fun k => ?_)
    rw [laws_sameInts.l0, if_neg (by simp)]
  | cons x suf ih =>
    intro pre hl
    have h := ih (pre ++ [x]) (by simp at hl ⊢; omega)
    rw [snoc_app, snoc_leni] at h
    have hl' : (pre.length : Int) < ((pre ++ x :: suf).length : Int) := by simp; omega
    refine ev_step h (fun k => ?_)
    rw [laws_sameInts.l0, if_pos hl', if_pos (by omega), if_pos hl', if_pos hl', if_pos rfl, wrapS (by omega) (by simp at hl; omega)]
theorem sameInts_ok (l : List Int) (h : l.length ≤ 9223372036854775806) : Ev (fun k => laws_sameInts.f k l l) true := by
  have := sameI_l0 l [] (by simpa using h)
  refine Ev.congr (fun k => ?_) this
  rw [laws_sameInts.f, if_pos rfl]
  rfl
theorem pIn_l0 (v : Int) (suf : List Int) : ∀ pre : List Int, (pre ++ suf).length ≤ 1048576 → Ev (fun k => laws_pIn.l0 k v (pre ++ suf) ((pre ++ suf).length : Int) (pre.length : Int)) (decide (v ∈ suf)) := by
  induction suf with
  | nil =>
    intro pre _
    refine ev_step (f := fun _ => some _) (Ev.now _) (fun k => ?_)
    rw [laws_pIn.l0, if_neg (by simp)]; simp
  | cons x suf ih =>
    intro pre hl
    have h := ih (pre ++ [x]) (by simp at hl ⊢; omega)
    rw [snoc_app, snoc_leni] at h
    have hl' : (pre.length : Int) < ((pre ++ x :: suf).length : Int) := by simp; omega
    by_cases c : x = v
    · refine ev_step (f := fun _ => some _) (Ev.now _) (fun k => ?_)
      rw [laws_pIn.l0, if_pos hl', if_pos (by omega), if_pos hl', rd_mid, if_pos c]; simp [c]
    · refine ev_step (ev_eq h (by simp [show ¬ v = x from fun e => c e.symm])) (fun k => ?_)
      rw [laws_pIn.l0, if_pos hl', if_pos (by omega), if_pos hl', rd_mid, if_neg c, wrapS (by omega) (by simp at hl; omega)]
theorem pIn_ok (l : List Int) (v : Int) (h : l.length ≤ 1048576) : Ev (fun k => laws_pIn.f k l v) (decide (v ∈ l)) :=
  Ev.congr (fun _ => rfl) (pIn_l0 v l [] (by simpa using h))
theorem implDistance_ok (a b : List S42) (ha : a.length ≤ 1048576) (hb : b.length ≤ 1048576) (ga : good a = true) (gb : good b = true) : Ev (fun k => impl_DistanceOf.f k a b) (dist a b, true) := by
  obtain ⟨K1, e1⟩ := isSheet_ok a (by omega)
  obtain ⟨K2, e2⟩ := isSheet_ok b (by omega)
  have e3 := distanceOf_ok a b ha hb
  refine ⟨K1 + K2 + 1, fun k hk => ?_⟩
  have e1 := e1 k (by omega)
  have e2 := e2 k (by omega)
  dsimp only at e1 e2 ⊢
  rw [ga] at e1
  rw [gb] at e2
  simp only [impl_DistanceOf.f, e1, e2, e3, Option.bind_some, if_true]
theorem extend_same (s t a b : Int) : impl_ExtendChecksum.f s t a b = spec_ExtendChecksum.f s t a b := by
  obtain ⟨c, hc⟩ := isCk_some s
  simp only [spec_ExtendChecksum.f, impl_ExtendChecksum.f, ckIs_ok, hc, shHole_ok, isHole_ok, spec_ckExtend.f, impl_extendChecksum.f, spec_ckNumber.f, impl_holeNumber.f, Option.bind_some, Int.mul_comm t, Int.mul_comm a]
theorem extend_some (s t a b : Int) : ∃ r, spec_ExtendChecksum.f s t a b = some r := by
  obtain ⟨c, hc⟩ := isCk_some s
  simp only [spec_ExtendChecksum.f, ckIs_ok, hc, shHole_ok, spec_ckExtend.f, spec_ckNumber.f, Option.bind_some]
  cases c <;> cases holeOk t a b <;> simp
theorem number_same (t a b : Int) : impl_HoleNumber.f t a b = spec_HoleNumber.f t a b := by
  simp only [spec_HoleNumber.f, impl_HoleNumber.f, shHole_ok, isHole_ok, spec_ckNumber.f, impl_holeNumber.f, Option.bind_some, Int.mul_comm t, Int.mul_comm a]
theorem number_some (t a b : Int) : ∃ r, spec_HoleNumber.f t a b = some r := by
  simp only [spec_HoleNumber.f, shHole_ok, spec_ckNumber.f, Option.bind_some]
  cases holeOk t a b <;> simp
theorem law_end {x1 : List Int} (hb : bytesOk x1) : (spec_DrawExtendChecksum.f x1).bind (fun bt605 => (impl_ExtendChecksum.f bt605.1 bt605.2.1 bt605.2.2.1 bt605.2.2.2).bind fun bt610 => (spec_ExtendChecksum.f bt605.1 bt605.2.1 bt605.2.2.1 bt605.2.2.2).bind fun bt612 => (spec_DrawHoleNumber.f x1).bind fun bt614 => (impl_HoleNumber.f bt614.1 bt614.2.1 bt614.2.2).bind fun bt618 => (spec_HoleNumber.f bt614.1 bt614.2.1 bt614.2.2).bind fun bt620 => (if (bt610.2 == bt612.2) = true then (if bt610.1 = bt612.1 then (if (bt618.2 == bt620.2) = true then (some (bt618.1 == bt620.1)) else (some false)) else (some false)) else (some false))) = some true := by
  obtain ⟨u, p1, s1, e1, a1, b1⟩ := ckDraw_ok hb 0 0 (by omega) (by omega)
  obtain ⟨x, y, z, p2, s2, e2, _, _⟩ := anyHole_ok hb p1 s1 (by omega) (by omega)
  obtain ⟨x', y', z', p3, s3, e3, _, _⟩ := anyHole_ok hb 0 0 (by omega) (by omega)
  obtain ⟨r1, q1⟩ := extend_some u x y z
  obtain ⟨r2, q2⟩ := number_some x' y' z'
  have d1 : spec_DrawExtendChecksum.f x1 = some (u, x, y, z) := by rw [spec_DrawExtendChecksum.f, e1, Option.bind_some]; dsimp only; rw [e2, Option.bind_some]
  have d2 : spec_DrawHoleNumber.f x1 = some (x', y', z') := by rw [spec_DrawHoleNumber.f, e3, Option.bind_some]
  rw [d1, Option.bind_some]
  dsimp only
  rw [extend_same, q1, Option.bind_some, Option.bind_some, d2, Option.bind_some]
  dsimp only
  rw [number_same, q2, Option.bind_some, Option.bind_some, if_pos (by simp), if_pos rfl, if_pos (by simp)]
  simp
theorem law_l1 {x1 : List Int} (hb : bytesOk x1) (l : List S42) (hl : l.length ≤ 61) (s : Int) (suf : List (List S42)) : ∀ pre : List (List S42), (∀ z ∈ suf, good z = true ∧ sumOf 1 z = s ∧ dist l z = 2 ∧ z.length = l.length ∧ good l = true) → (pre ++ suf).length ≤ 4000000 →
    Ev (fun k => laws_FnCopies.l1 k x1 l s (pre ++ suf) ((pre ++ suf).length : Int) (pre.length : Int)) true := by
  induction suf with
  | nil =>
    intro pre _ _
    refine ev_step (f := fun _ => some true) (Ev.now _) (fun k => ?_)
    rw [laws_FnCopies.l1, if_neg (by simp)]
    exact law_end hb
  | cons z suf ih =>
    intro pre hz hp
    obtain ⟨z1, z2, z3, z4, z5⟩ := hz z (by simp)
    obtain ⟨K1, e1⟩ := implChecksumOf_ok z (by omega)
    obtain ⟨K2, e2⟩ := implDistance_ok l z (by omega) (by omega) z5 z1
    obtain ⟨K3, e3⟩ := isSheet_ok z (by omega)
    have h := ih (pre ++ [z]) (fun w q => hz w (by simp [q])) (by simp at hp ⊢; omega)
    rw [snoc_app, snoc_leni] at h
    obtain ⟨K4, e4⟩ := h
    have hl' : (pre.length : Int) < ((pre ++ z :: suf).length : Int) := by simp; omega
    refine ⟨K1 + K2 + K3 + K4 + 1, fun k hk => ?_⟩
    obtain ⟨q, rfl⟩ : ∃ q, k = q + 1 := ⟨k - 1, by omega⟩
    have e1 := e1 q (by omega)
    have e2 := e2 q (by omega)
    have e3 := e3 q (by omega)
    have e4 := e4 q (by omega)
    dsimp only at e1 e2 e3 e4 ⊢
    rw [z1, if_pos rfl, z2] at e1
    rw [z3] at e2
    rw [z1] at e3
    rw [laws_FnCopies.l1, if_pos hl', if_pos (by omega), if_pos hl', rdHH_mid, e1, Option.bind_some, e2, Option.bind_some, if_pos rfl, if_pos rfl, if_pos rfl, if_pos rfl, if_pos (by omega), e3, Option.bind_some, if_pos rfl, wrapS (by omega) (by simp at hp; omega)]
    exact e4
theorem law_j3 {x1 : List Int} (hb : bytesOk x1) (l : List S42) (hl : l.length ≤ 61) (s : Int) : Ev (fun k => laws_FnCopies.j3 k x1 l s (singleR l s).1 false) true := by
  have h := law_l1 hb l hl s (singleR l s).1 [] (single_is l s) (by have := (singleR_spec l s).1; simpa using (by omega : (singleR l s).1.length ≤ 4000000))
  refine ev_step h (fun k => ?_)
  rw [laws_FnCopies.j3, if_neg (by simp)]
  rfl
theorem law_j2 {x1 : List Int} (hb : bytesOk x1) : Ev (fun k => laws_FnCopies.j2 k x1) true := by
  obtain ⟨l, s, ⟨K1, e1⟩, hl⟩ := singleDraw_ok hb
  obtain ⟨K2, e2⟩ := implSingle_ok l s (by omega)
  obtain ⟨K3, e3⟩ := specSingle_ok l s (by omega)
  obtain ⟨K4, e4⟩ := sameSheets_ok (singleR l s).1 (by have := (singleR_spec l s).1; omega) (fun z hz => by have := (singleR_spec l s).2 z hz; omega)
  obtain ⟨K5, e5⟩ := law_j3 hb l hl s
  refine ⟨K1 + K2 + K3 + K4 + K5 + 1, fun k hk => ?_⟩
  obtain ⟨q, rfl⟩ : ∃ q, k = q + 1 := ⟨k - 1, by omega⟩
  have e1 := e1 q (by omega)
  have e2 := e2 q (by omega)
  have e3 := e3 q (by omega)
  have e4 := e4 q (by omega)
  have e5 := e5 q (by omega)
  dsimp only at e1 e2 e3 e4 e5 ⊢
  rw [laws_FnCopies.j2, e1, Option.bind_some]
  dsimp only
  rw [e2, Option.bind_some, e3, Option.bind_some, if_neg (ne2 _), e4, Option.bind_some]
  exact e5
theorem law_l0 {x1 : List Int} (hb : bytesOk x1) (A : List Int) (hA : A.length ≤ 1048576) (v : Int) (all : List (List S42)) (hg : ∀ x ∈ all, good x = true ∧ x.length ≤ 61) (hall : all.length ≤ 9) (hm : ∀ i : Int, i ∈ A ↔ ∃ n : Nat, n < all.length ∧ i = (n : Int) ∧ (sumsOf all).getD n 0 = v) (suf : List (List S42)) : ∀ pre : List (List S42), all = pre ++ suf →
    Ev (fun k => laws_FnCopies.l0 k x1 A v true (pre ++ suf) ((pre ++ suf).length : Int) (pre.length : Int)) true := by
  induction suf with
  | nil =>
    intro pre _
    refine ev_step (law_j2 hb) (fun k => ?_)
    rw [laws_FnCopies.l0, if_neg (by simp), if_pos rfl]
  | cons z suf ih =>
    intro pre he
    have hz := hg z (by rw [he]; simp)
    have hlen : (pre ++ z :: suf).length ≤ 9 := by rw [← he]; exact hall
    obtain ⟨K1, e1⟩ := implChecksumOf_ok z (by omega)
    obtain ⟨K2, e2⟩ := pIn_ok A (pre.length : Int) hA
    have h := ih (pre ++ [z]) (by rw [snoc_app]; exact he)
    rw [snoc_app, snoc_leni] at h
    obtain ⟨K4, e4⟩ := h
    have hl' : (pre.length : Int) < ((pre ++ z :: suf).length : Int) := by simp; omega
    have hs : (sumsOf all).getD pre.length 0 = sumOf 1 z := by
      rw [sumsOf_get all pre.length (by rw [he]; simp)]
      congr 1
      simp [he]
    have hmem : decide ((pre.length : Int) ∈ A) = (sumOf 1 z == v) := by
      by_cases c : sumOf 1 z = v
      · rw [decide_eq_true ((hm _).2 ⟨pre.length, by rw [he]; simp, rfl, by rw [hs]; exact c⟩)]; simp [c]
      · rw [decide_eq_false]
        · simp [c]
        · intro q
          obtain ⟨n, h1, h2, h3⟩ := (hm _).1 q
          have : n = pre.length := by omega
          subst this
          rw [hs] at h3; exact c h3
    refine ⟨K1 + K2 + K4 + 1, fun k hk => ?_⟩
    obtain ⟨q, rfl⟩ : ∃ q, k = q + 1 := ⟨k - 1, by omega⟩
    have e1 := e1 q (by omega)
    have e2 := e2 q (by omega)
    have e4 := e4 q (by omega)
    dsimp only at e1 e2 e4 ⊢
    rw [hz.1, if_pos rfl] at e1
    rw [hmem] at e2
    rw [laws_FnCopies.l0, if_pos hl', if_pos (by omega), if_pos hl', rdHH_mid, e1, Option.bind_some, if_pos rfl, e2, Option.bind_some, if_neg (ne2 _), wrapS (by omega) (by simp at hlen; omega)]
    exact e4
theorem law_j0 {x1 : List Int} (hb : bytesOk x1) (l : List (List S42)) (hl : l.length ≤ 10) (hx : ∀ x ∈ l, x.length ≤ 61) : Ev (fun k => laws_FnCopies.j0 k x1 l (agreeR l).2 (agreeR l).1 false) true := by
  by_cases g : (agreeR l).2 = true
  · obtain ⟨g1, g2, g3, v, hv, e⟩ := agreeR_true l g
    have hm : ∀ i : Int, i ∈ (agreeR l).1 ↔ ∃ n : Nat, n < l.length ∧ i = (n : Int) ∧ (sumsOf l).getD n 0 = v := by
      intro i
      rw [e, idxOf_mem]
      have : (sumsOf l).length = l.length := by unfold sumsOf; simp
      rw [this]
      simp
    have hne : (agreeR l).1 ≠ [] := by rw [e]; exact idxOf_ne v _ hv 0
    obtain ⟨i, A, hA⟩ : ∃ i A, (agreeR l).1 = i :: A := by
      cases h : (agreeR l).1 with
      | nil => exact absurd h hne
      | cons i A => exact ⟨i, A, rfl⟩
    obtain ⟨n, n1, n2, n3⟩ := (hm i).1 (by rw [hA]; simp)
    have hr0 : rd (agreeR l).1 0 = (n : Int) := by rw [hA, n2]; rfl
    have hr1 : rd_L3 l (n : Int) = l[n]'n1 := by
      rw [rd_L3, List.getD_eq_getElem?_getD, Int.toNat_natCast, List.getElem?_eq_getElem n1]; rfl
    have hgn := g1 _ (List.getElem_mem n1)
    have hsn : sumOf 1 (l[n]'n1) = v := by rw [← sumsOf_get l n n1]; exact n3
    obtain ⟨K1, e1⟩ := implChecksumOf_ok (l[n]'n1) (by have := hx _ (List.getElem_mem n1); omega)
    obtain ⟨K2, e2⟩ := law_l0 hb (agreeR l).1 (by have := agreeR_len l; omega) v l (fun x q => ⟨g1 x q, hx x q⟩) g3 hm l [] rfl
    have hp : (0 : Int) < ((agreeR l).1.length : Int) := by rw [hA, List.length_cons]; omega
    refine ⟨K1 + K2 + 1, fun k hk => ?_⟩
    obtain ⟨q, rfl⟩ : ∃ q, k = q + 1 := ⟨k - 1, by omega⟩
    have e1 := e1 q (by omega)
    have e2 := e2 q (by omega)
    dsimp only at e1 e2 ⊢
    rw [hgn, if_pos rfl, hsn] at e1
    rw [laws_FnCopies.j0, if_neg (by simp), if_pos g, if_neg (by omega), if_pos hp, hr0, if_pos (by omega), if_pos (by omega), hr1, e1, Option.bind_some]
    exact e2
  · refine ev_step (law_j2 hb) (fun k => ?_)
    rw [laws_FnCopies.j0, if_neg (by simp), if_neg g]
set_option maxHeartbeats 4000000 in
theorem FnCopies : laws_FnCopies.Pure := by
  intro l0 l1 hm0 hb0 hw0 hm1 hb1 hw1
  by_cases big : (l0.length : Int) > 1048576
  · exact ⟨0, by rw [laws_FnCopies.f, laws_big.f, if_pos big, Option.bind_some, if_pos rfl]⟩
  have eb : laws_big.f l0 l1 = some (decide ((l1.length : Int) > wrap64 (1048576 - (l0.length : Int)))) := by rw [laws_big.f, if_neg big]
  cases hbig : decide ((l1.length : Int) > wrap64 (1048576 - (l0.length : Int))) with
  | true => exact ⟨0, by rw [laws_FnCopies.f, eb, hbig, Option.bind_some, if_pos rfl]⟩
  | false =>
  rw [hbig] at eb
  obtain ⟨l, ⟨K1, e1⟩, hl, hx⟩ := agreeDraw_ok (u8_bytes hw0)
  obtain ⟨K2, e2⟩ := implAgree_ok l (by omega) (fun x q => by have := hx x q; omega)
  obtain ⟨K3, e3⟩ := specAgree_ok l (by omega) (fun x q => by have := hx x q; omega)
  obtain ⟨K4, e4⟩ := sameInts_ok (agreeR l).1 (by have := agreeR_len l; omega)
  obtain ⟨K5, e5⟩ := law_j0 (u8_bytes hw1) l hl hx
  dsimp only at e1 e2 e3 e4 e5
  refine ⟨K1 + K2 + K3 + K4 + K5, ?_⟩
  generalize hK : K1 + K2 + K3 + K4 + K5 = k
  rw [laws_FnCopies.f, eb, Option.bind_some, if_neg (by simp), e1 k (by omega), Option.bind_some, e2 k (by omega), Option.bind_some, e3 k (by omega), Option.bind_some, if_neg (ne2 _), e4 k (by omega), Option.bind_some]
  exact e5 k (by omega)

end Go.Proofs.Ytplpjmhmochcfaa.Pure
