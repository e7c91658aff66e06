/- Plain lemmas on what the printed functions of this law compute; each with the conditions that it names. -/
import Derived.Test.YtbbiihhaljigjaaLMakeEditionA
import Derived.Test.YtbbiihhaljigjaaQFnExactMakeEditionx5
import Derived.Test.YtbbiihhaljigjaaQFnExactMakeEditionx9
import Derived.Test.YtbbiihhaljigjaaQFnExactMakeEditionx10
import Derived.Test.YtbbiihhaljigjaaQFnExactMakeEditionx11
import Derived.Test.YtbbiihhaljigjaaQFnExactMakeEditionx12
import Derived.Test.YtbbiihhaljigjaaBaseM
namespace Go.Proofs.Ytbbiihhaljigjaa.LMakeEditionB
open Go Go.RowKit Go.Proofs.Ytbbiihhaljigjaa.QFnExactMakeEdition Go.Proofs.YtbbiihhaljigjaaW.PrintWords Go.Proofs.YtbbiihhaljigjaaW.PrintLast Go.Proofs.YtbbiihhaljigjaaW.PrintMore Go.Proofs.Ytbbiihhaljigjaa.Base Go.Proofs.Ytbbiihhaljigjaa.LMakeEditionA
set_option linter.unusedVariables false
set_option linter.unusedSimpArgs false

/-! the loops of the reference: cuts joined, part by part -/
theorem mx_eq (a b : Int) : mx a b = max a b := by unfold mx; split <;> omega
theorem mn_eq (a b : Int) : mn a b = min a b := by unfold mn; split <;> omega
theorem l1Most_max (a b : Int) : spec_l1Most.f a b = some (max a b) := by
  unfold spec_l1Most.f; split <;> (congr 1; omega)
theorem l1Least_min (a b : Int) : spec_l1Least.f a b = some (min a b) := by
  unfold spec_l1Least.f; split <;> (congr 1; omega)
theorem cutH_cons_in (x : S47) (l : List S47) (a b : Int) (c : max x.f1 a < min x.f2 b) : cutH (x :: l) a b = ⟨x.f0, max x.f1 a - a, min x.f2 b - a⟩ :: cutH l a b := by
  unfold cutH; rw [List.filterMap_cons_some (by rw [if_pos c])]
theorem cutH_cons_out (x : S47) (l : List S47) (a b : Int) (c : ¬ max x.f1 a < min x.f2 b) : cutH (x :: l) a b = cutH l a b := by
  unfold cutH; rw [List.filterMap_cons_none (by rw [if_neg c])]
theorem shCut_l0 (a b : Int) (ha : 0 ≤ a ∧ a ≤ 2000) (hb : 0 ≤ b ∧ b ≤ 2000) (suf : List S47) : ∀ (pre out : List S47), (pre ++ suf).length ≤ 1000000 → out.length ≤ pre.length → (∀ x ∈ suf, holeOk x.f0 x.f1 x.f2 = true) →
    Ev (fun k => spec_shCut.l0 k a b out (pre ++ suf) ((pre ++ suf).length : Int) (pre.length : Int)) (sortedR (out ++ cutH suf a b)).1 := by
  induction suf with
  | nil =>
    intro pre out hl ho _
    have hl2 : pre.length ≤ 1000000 := by simpa using hl
    obtain ⟨K, e⟩ := shSorted_ok out (by omega)
    refine ⟨K + 1, fun k hk => ?_⟩
    obtain ⟨m, rfl⟩ : ∃ m, k = m + 1 := ⟨k - 1, by omega⟩
    have e1 := e m (by omega)
    dsimp only at e1 ⊢
    rw [spec_shCut.l0, if_neg (by simp), e1]
    simp [cutH]
  | cons x suf ih =>
    intro pre out hl ho hv
    have hx := holeOk_bounds (hv x List.mem_cons_self)
    have hlp : pre.length ≤ 1000000 := by simp at hl; omega
    have hl' : (pre.length : Int) < ((pre ++ x :: suf).length : Int) := by simp; omega
    have hw : wrap64 ((pre.length : Int) + 1) = (pre.length : Int) + 1 := wrapS (by omega) (by omega)
    by_cases c : max x.f1 a < min x.f2 b
    · have h := ih (pre ++ [x]) (out ++ [⟨x.f0, max x.f1 a - a, min x.f2 b - a⟩]) (by simp at hl ⊢; omega) (by simp; omega) (fun y hy => hv y (List.mem_cons_of_mem _ hy))
      rw [snoc_app, snoc_leni] at h
      refine ev_step (ev_eq h (by rw [cutH_cons_in x suf a b c, snoc_app])) (fun k => ?_)
      rw [spec_shCut.l0, if_pos hl', if_pos (by omega), if_pos hl', rdH_mid, l1Most_max]
      simp only [Option.bind_some]
      rw [l1Least_min]
      simp only [Option.bind_some]
      rw [if_pos c, if_pos (by omega), hw, show wrap64 (max x.f1 a - a) = max x.f1 a - a from wrapS (by omega) (by omega), show wrap64 (min x.f2 b - a) = min x.f2 b - a from wrapS (by omega) (by omega)]
    · have h := ih (pre ++ [x]) out (by simp at hl ⊢; omega) (by simp; omega) (fun y hy => hv y (List.mem_cons_of_mem _ hy))
      rw [snoc_app, snoc_leni] at h
      refine ev_step (ev_eq h (by rw [cutH_cons_out x suf a b c])) (fun k => ?_)
      rw [spec_shCut.l0, if_pos hl', if_pos (by omega), if_pos hl', rdH_mid, l1Most_max]
      simp only [Option.bind_some]
      rw [l1Least_min]
      simp only [Option.bind_some]
      rw [if_neg c, hw]
theorem cut_sheet (l : List S47) (a b : Int) (hl : good l = true) (ha : 0 ≤ a) (hb : b ≤ 2000) : good (srt (cutH l a b)) = true := by
  have hg := (good_iff l).1 hl
  obtain ⟨c1, c2⟩ := cutH_good l a b ha hb hg.1 (apart_of_good l hl)
  exact good_of_apart (cutH l a b) (fun x hx => (c1 x hx).2.2) c2 (Nat.le_trans (List.length_filterMap_le _ _) hg.2.2)
theorem shCut_ok (l : List S47) (a b : Int) (hl : good l = true) (ha : 0 ≤ a ∧ a ≤ 2000) (hb : 0 ≤ b ∧ b ≤ 2000) : Ev (fun k => spec_shCut.f k l a b) (srt (cutH l a b)) := by
  have hg := (good_iff l).1 hl
  have h := shCut_l0 a b ha hb l [] [] (by have := hg.2.2; simp; omega) (by simp) hg.1
  refine Ev.congr (f := fun k => spec_shCut.l0 k a b [] l (l.length : Int) 0) (fun _ => rfl) (ev_eq (by simpa using h) ?_)
  rw [sortedR, if_pos (cut_sheet l a b hl ha.1 hb.2)]
theorem join_eq (x : S47) : ∀ l : List S47, spec_MakeEdition.join l x = joinH l x
  | [] => rfl
  | y :: l => by rw [spec_MakeEdition.join, joinH, join_eq x l]
theorem joinAll_len (at_ : Int) : ∀ (cs l : List S47), (joinAll l at_ cs).length ≤ l.length + cs.length
  | [], l => by simp [joinAll]
  | c :: cs, l => by
    have h := joinAll_len at_ cs (joinH l (shiftH at_ c))
    have h2 := joinH_len l (shiftH at_ c)
    show (joinAll (joinH l (shiftH at_ c)) at_ cs).length ≤ _
    simp only [List.length_cons]; omega
theorem specEd_l1 (l : List (List S47)) (p : List S44) (n : Int) (i : Nat) (hi : i ≤ 100) (y : S44) (hy : 0 ≤ y.f1 ∧ y.f1 < y.f2 ∧ y.f2 ≤ 2000) (at_ : Int) (hat : 0 ≤ at_ ∧ at_ ≤ 2000) (R : List S47 × Bool) (M : Nat) (hM : M < 5864062014805) (suf : List S47) : ∀ (pre all : List S47), (pre ++ suf).length ≤ 60 → all.length + suf.length ≤ M → (∀ c ∈ suf, holeOk c.f0 c.f1 c.f2 = true) →
    Ev (fun k => spec_MakeEdition.l0 k l (joinAll all at_ suf) (at_ + (y.f2 - y.f1)) p n ((i + 1 : Nat) : Int)) R →
    Ev (fun k => spec_MakeEdition.l1 k l all at_ p n (i : Int) (pre ++ suf) ((pre ++ suf).length : Int) (pre.length : Int) y.f0 y.f1 y.f2) R := by
  induction suf with
  | nil =>
    intro pre all _ _ _ h
    refine ev_step h (fun k => ?_)
    rw [spec_MakeEdition.l1, if_neg (by simp), show wrap64 (y.f2 - y.f1) = y.f2 - y.f1 from wrapS (by omega) (by omega), show wrap64 (at_ + (y.f2 - y.f1)) = at_ + (y.f2 - y.f1) from wrapS (by omega) (by omega), show wrap64 ((i : Int) + 1) = ((i + 1 : Nat) : Int) from by rw [wrapS (by omega) (by omega)]; omega]
    rfl
  | cons c suf ih =>
    intro pre all hl hal hv h
    have hc := holeOk_bounds (hv c List.mem_cons_self)
    have hlp : pre.length ≤ 60 := by simp at hl; omega
    have hl' : (pre.length : Int) < ((pre ++ c :: suf).length : Int) := by simp; omega
    have hw : wrap64 ((pre.length : Int) + 1) = (pre.length : Int) + 1 := wrapS (by omega) (by omega)
    have hp0 : (0 : Int) ≤ (pre.length : Int) := Int.natCast_nonneg _
    have w1 : wrap64 (c.f1 + at_) = c.f1 + at_ := wrapS (by omega) (by omega)
    have w2 : wrap64 (c.f2 + at_) = c.f2 + at_ := wrapS (by omega) (by omega)
    have hal1 : all.length + suf.length + 1 ≤ M := by rw [Nat.add_assoc]; exact hal
    have hal3 : all.length < 5864062014805 := Nat.lt_of_le_of_lt (Nat.le_trans (Nat.le_add_right _ _) hal) hM
    have hj : (joinH all (shiftH at_ c)).length + suf.length ≤ M := Nat.le_trans (Nat.add_le_add_right (joinH_len all (shiftH at_ c)) _) (by rw [Nat.add_right_comm]; exact hal1)
    have h2 := ih (pre ++ [c]) (joinH all (shiftH at_ c)) (by simp at hl ⊢; omega) hj (fun y hy => hv y (List.mem_cons_of_mem _ hy)) h
    rw [snoc_app, snoc_leni] at h2
    refine ev_step h2 (fun k => ?_)
    rw [spec_MakeEdition.l1, if_pos hl', if_pos hp0, if_pos hl', rdH_mid, if_pos hal3, hw, join_eq, w1, w2]
    rfl
def edAll (l : List (List S47)) : List S44 → List S47 → Int → List S47
  | [], all, _ => all
  | y :: ps, all, at_ => edAll l ps (joinAll all at_ (srt (cutH (rd_L6 l y.f0) y.f1 y.f2))) (at_ + (y.f2 - y.f1))
def sumP : List S44 → Int
  | [] => 0
  | y :: ps => (y.f2 - y.f1) + sumP ps
def PartIn (l : List (List S47)) (y : S44) : Prop := 0 ≤ y.f0 ∧ y.f0 < (l.length : Int) ∧ 0 ≤ y.f1 ∧ y.f1 < y.f2 ∧ y.f2 ≤ 2000
theorem sumP_nn (l : List (List S47)) : ∀ ps : List S44, (∀ y ∈ ps, PartIn l y) → 0 ≤ sumP ps
  | [], _ => Int.le_refl 0
  | y :: ps, h => by
    have h1 := sumP_nn l ps (fun z hz => h z (List.mem_cons_of_mem _ hz))
    have h2 := h y List.mem_cons_self
    unfold PartIn at h2
    rw [sumP]; omega
theorem row_in (l : List (List S47)) (i : Int) (h0 : 0 ≤ i) (h1 : i < (l.length : Int)) : rd_L6 l i ∈ l := by
  have c : i.toNat < l.length := by omega
  have e : rd_L6 l i = l[i.toNat] := by simp [rd_L6, List.getD_eq_getElem?_getD, List.getElem?_eq_getElem c]
  rw [e]; exact List.getElem_mem c
theorem specEd_l0 (l : List (List S47)) (hg : ∀ r ∈ l, good r = true) (suf : List S44) : ∀ (pre : List S44) (all : List S47) (at_ : Int), (pre ++ suf).length ≤ 12 → (∀ y ∈ suf, PartIn l y) → all.length ≤ 60 * pre.length → 0 ≤ at_ → at_ + sumP suf ≤ 2000 →
    Ev (fun k => spec_MakeEdition.l0 k l all at_ (pre ++ suf) ((pre ++ suf).length : Int) (pre.length : Int)) (sortedR (edAll l suf all at_)) := by
  induction suf with
  | nil =>
    intro pre all at_ hl _ ha _ _
    have hl2 : pre.length ≤ 12 := by simpa using hl
    obtain ⟨K, e⟩ := shSorted_ok all (by omega)
    refine ⟨K + 1, fun k hk => ?_⟩
    obtain ⟨m, rfl⟩ : ∃ m, k = m + 1 := ⟨k - 1, by omega⟩
    have e1 := e m (by omega)
    dsimp only at e1 ⊢
    rw [spec_MakeEdition.l0, if_neg (by simp), e1]
    rfl
  | cons y suf ih =>
    intro pre all at_ hl hp ha h0 hs
    have hy := hp y List.mem_cons_self
    unfold PartIn at hy
    have hsn := sumP_nn l suf (fun z hz => hp z (List.mem_cons_of_mem _ hz))
    rw [sumP] at hs
    have hlp : pre.length ≤ 12 := by simp at hl; omega
    have hr := hg _ (row_in l y.f0 hy.1 hy.2.1)
    obtain ⟨r, hre⟩ : ∃ r, r = rd_L6 l y.f0 := ⟨_, rfl⟩
    rw [← hre] at hr
    have hcs := (good_iff _).1 (cut_sheet r y.f1 y.f2 hr hy.2.2.1 hy.2.2.2.2)
    obtain ⟨K1, e1⟩ := shCut_ok r y.f1 y.f2 hr (by omega) (by omega)
    have hjl := joinAll_len at_ (srt (cutH r y.f1 y.f2)) all
    have h := ih (pre ++ [y]) (joinAll all at_ (srt (cutH r y.f1 y.f2))) (at_ + (y.f2 - y.f1)) (by simp at hl ⊢; omega) (fun z hz => hp z (List.mem_cons_of_mem _ hz)) (by have := hcs.2.2; simp; omega) (by omega) (by omega)
    rw [snoc_app, snoc_leni] at h
    have h2 := specEd_l1 l (pre ++ y :: suf) ((pre ++ y :: suf).length : Int) pre.length (by omega) y ⟨hy.2.2.1, hy.2.2.2.1, hy.2.2.2.2⟩ at_ (by omega) (sortedR (edAll l suf (joinAll all at_ (srt (cutH r y.f1 y.f2))) (at_ + (y.f2 - y.f1)))) 1000 (by decide) (srt (cutH r y.f1 y.f2)) [] all (by simpa using hcs.2.2) (by have := hcs.2.2; omega) hcs.1 (by
      rw [show ((pre.length + 1 : Nat) : Int) = (pre.length : Int) + 1 by omega]; exact h)
    obtain ⟨K2, e2⟩ := h2
    have hl' : (pre.length : Int) < ((pre ++ y :: suf).length : Int) := by simp; omega
    refine ⟨K1 + K2 + 1, fun k hk => ?_⟩
    obtain ⟨m, rfl⟩ : ∃ m, k = m + 1 := ⟨k - 1, by omega⟩
    have f1 := e1 m (by omega)
    have f2 := e2 m (by omega)
    dsimp only at f1 f2 ⊢
    rw [spec_MakeEdition.l0, if_pos hl', if_pos (by omega), if_pos hl', rdP_mid, if_pos hy.1, if_pos hy.2.1, ← hre, f1]
    simp only [Option.bind_some]
    rw [edAll, ← hre]
    simpa using f2
/-! the loops of the program: steps painted, one by one -/
def units (t e : Int) : Nat → List S47
  | 0 => []
  | d + 1 => ⟨t, e, e + 1⟩ :: units t (e + 1) d
def unitsOf (at_ a b : Int) (x : S47) : List S47 := units x.f0 (at_ + max x.f1 a - a) (min x.f2 b - max x.f1 a).toNat
theorem cov_units (t u s : Int) : ∀ (d : Nat) (e : Int), cov (units t e d) u s = decide (t = u ∧ e ≤ s ∧ s < e + d)
  | 0, e => by
    rw [units]
    exact (decide_eq_false (by omega)).symm
  | d + 1, e => by
    rw [units, cov_cons, cov_units t u s d (e + 1), Bool.eq_iff_iff, Bool.or_eq_true, decide_eq_true_eq, decide_eq_true_eq, decide_eq_true_eq]
    dsimp only
    omega
theorem cov_unitsOf (at_ a b u s : Int) (x : S47) : cov (unitsOf at_ a b x) u s = cov [paintH at_ a b x] u s := by
  rw [unitsOf, cov_units, cov_cons, paintH, Bool.eq_iff_iff, Bool.or_eq_true, decide_eq_true_eq, decide_eq_true_eq]
  dsimp only
  have e : cov ([] : List S47) u s = false := rfl
  rw [e]
  simp only [Bool.false_eq_true, or_false]
  omega
theorem cov_flat (at_ a b u s : Int) : ∀ l : List S47, cov (l.flatMap (unitsOf at_ a b)) u s = cov (l.map (paintH at_ a b)) u s
  | [] => rfl
  | x :: l => by
    rw [List.flatMap_cons, List.map_cons, cov_app, cov_flat at_ a b u s l, cov_unitsOf, cov_cons, cov_cons _ (l.map _)]
    simp [cov]
set_option linter.unusedSectionVars false
theorem implEd_l2 (l : List (List S47)) (p : List S44) (n : Int) (i : Nat) (hi : i ≤ 100) (y : S44) (hy : 0 ≤ y.f1 ∧ y.f1 < y.f2 ∧ y.f2 ≤ 2000) (at_ : Int) (hat : 0 ≤ at_ ∧ at_ + (y.f2 - y.f1) ≤ 2000) (R : List S47 × Bool) (r : List S47) (j : Nat) (hj : j ≤ 100) (x : S47) (hx : holeOk x.f0 x.f1 x.f2 = true) (d : Nat) : ∀ (s : Int) (pt : List S47), (s + d = min x.f2 y.f2 ∨ (d = 0 ∧ min x.f2 y.f2 ≤ s)) → y.f1 ≤ s → s ≤ 4000 →
    Ev (fun k => impl_MakeEdition.l1 k l (pt ++ units x.f0 (at_ + s - y.f1) d) at_ p n (i : Int) r (r.length : Int) ((j : Int) + 1) y.f0 y.f1 y.f2) R →
    Ev (fun k => impl_MakeEdition.l2 k l pt at_ s p n (i : Int) r (r.length : Int) (j : Int) y.f0 y.f1 y.f2 x.f0 x.f1 x.f2) R := by
  have hb := holeOk_bounds hx
  induction d with
  | zero =>
    intro s pt hs h1 h2 h
    refine ev_step h (fun k => ?_)
    rw [impl_MakeEdition.l2, mn_eq, if_neg (by omega), show wrap64 ((j : Int) + 1) = (j : Int) + 1 from wrapS (by omega) (by omega), units, List.append_nil]
  | succ d ih =>
    intro s pt hs h1 h2 h
    have h3 := ih (s + 1) (pt ++ [⟨x.f0, at_ + s - y.f1, at_ + s - y.f1 + 1⟩]) (by omega) (by omega) (by omega) (by
      rw [show at_ + (s + 1) - y.f1 = at_ + s - y.f1 + 1 by omega, snoc_app]; exact h)
    refine ev_step h3 (fun k => ?_)
    rw [impl_MakeEdition.l2, mn_eq, if_pos (by omega), if_pos (by omega), if_pos (by omega), show wrap64 (at_ + s) = at_ + s from wrapS (by omega) (by omega), show wrap64 (at_ + s - y.f1) = at_ + s - y.f1 from wrapS (by omega) (by omega), if_pos (by omega), if_pos (by omega), show wrap64 (s + 1) = s + 1 from wrapS (by omega) (by omega)]
theorem implEd_l1 (l : List (List S47)) (p : List S44) (n : Int) (i : Nat) (hi : i ≤ 100) (y : S44) (hy : 0 ≤ y.f1 ∧ y.f1 < y.f2 ∧ y.f2 ≤ 2000) (at_ : Int) (hat : 0 ≤ at_ ∧ at_ + (y.f2 - y.f1) ≤ 2000) (R : List S47 × Bool) (suf : List S47) : ∀ (pre pt : List S47), (pre ++ suf).length ≤ 60 → (∀ c ∈ suf, holeOk c.f0 c.f1 c.f2 = true) →
    Ev (fun k => impl_MakeEdition.l0 k l (pt ++ suf.flatMap (unitsOf at_ y.f1 y.f2)) (at_ + (y.f2 - y.f1)) p n ((i + 1 : Nat) : Int)) R →
    Ev (fun k => impl_MakeEdition.l1 k l pt at_ p n (i : Int) (pre ++ suf) ((pre ++ suf).length : Int) (pre.length : Int) y.f0 y.f1 y.f2) R := by
  induction suf with
  | nil =>
    intro pre pt _ _ h
    refine ev_step h (fun k => ?_)
    rw [impl_MakeEdition.l1, if_neg (by simp), show wrap64 (y.f2 - y.f1) = y.f2 - y.f1 from wrapS (by omega) (by omega), show wrap64 (at_ + (y.f2 - y.f1)) = at_ + (y.f2 - y.f1) from wrapS (by omega) (by omega), show wrap64 ((i : Int) + 1) = ((i + 1 : Nat) : Int) from by rw [wrapS (by omega) (by omega)]; omega]
    simp
  | cons x suf ih =>
    intro pre pt hl hv h
    have hx := hv x List.mem_cons_self
    have hb := holeOk_bounds hx
    have hlp : pre.length ≤ 60 := by simp at hl; omega
    have hl' : (pre.length : Int) < ((pre ++ x :: suf).length : Int) := by simp; omega
    have h2 := ih (pre ++ [x]) (pt ++ unitsOf at_ y.f1 y.f2 x) (by simp at hl ⊢; omega) (fun z hz => hv z (List.mem_cons_of_mem _ hz)) (by
      rw [List.append_assoc, ← List.flatMap_cons]; exact h)
    rw [snoc_app, snoc_leni] at h2
    have h3 := implEd_l2 l p n i hi y hy at_ hat R (pre ++ x :: suf) pre.length (by omega) x hx (min x.f2 y.f2 - max x.f1 y.f1).toNat (max x.f1 y.f1) pt (by omega) (by omega) (by omega) h2
    refine ev_step h3 (fun k => ?_)
    rw [impl_MakeEdition.l1, if_pos hl', if_pos (by omega), if_pos hl', rdH_mid, mx_eq]
def edUn (l : List (List S47)) : List S44 → List S47 → Int → List S47
  | [], pt, _ => pt
  | y :: ps, pt, at_ => edUn l ps (pt ++ (rd_L6 l y.f0).flatMap (unitsOf at_ y.f1 y.f2)) (at_ + (y.f2 - y.f1))
theorem implEd_l0 (l : List (List S47)) (hg : ∀ r ∈ l, good r = true) (R : List S47 × Bool) (suf : List S44) : ∀ (pre : List S44) (pt : List S47) (at_ : Int), (pre ++ suf).length ≤ 12 → (∀ y ∈ suf, PartIn l y) → 0 ≤ at_ → at_ + sumP suf ≤ 2000 →
    Ev (fun k => impl_MakeEdition.sg.f (edUn l suf pt at_) k) R →
    Ev (fun k => impl_MakeEdition.l0 k l pt at_ (pre ++ suf) ((pre ++ suf).length : Int) (pre.length : Int)) R := by
  induction suf with
  | nil =>
    intro pre pt at_ hl _ _ _ h
    refine ev_step h (fun k => ?_)
    rw [impl_MakeEdition.l0, if_neg (by simp)]
    rfl
  | cons y suf ih =>
    intro pre pt at_ hl hp h0 hs h
    have hy := hp y List.mem_cons_self
    unfold PartIn at hy
    have hsn := sumP_nn l suf (fun z hz => hp z (List.mem_cons_of_mem _ hz))
    rw [sumP] at hs
    have hlp : pre.length ≤ 12 := by simp at hl; omega
    have hr := (good_iff _).1 (hg _ (row_in l y.f0 hy.1 hy.2.1))
    have h1 := ih (pre ++ [y]) (pt ++ (rd_L6 l y.f0).flatMap (unitsOf at_ y.f1 y.f2)) (at_ + (y.f2 - y.f1)) (by simp at hl ⊢; omega) (fun z hz => hp z (List.mem_cons_of_mem _ hz)) (by omega) (by omega) h
    rw [snoc_app, snoc_leni] at h1
    have h2 := implEd_l1 l (pre ++ y :: suf) ((pre ++ y :: suf).length : Int) pre.length (by omega) y ⟨hy.2.2.1, hy.2.2.2.1, hy.2.2.2.2⟩ at_ (by omega) R (rd_L6 l y.f0) [] pt (by simpa using hr.2.2) hr.1 (by
      rw [show ((pre.length + 1 : Nat) : Int) = (pre.length : Int) + 1 by omega]; exact h1)
    have hl' : (pre.length : Int) < ((pre ++ y :: suf).length : Int) := by simp; omega
    refine ev_step h2 (fun k => ?_)
    rw [impl_MakeEdition.l0, if_pos hl', if_pos (by omega), if_pos hl', rdP_mid, if_pos hy.1, if_pos hy.2.1]
    simp
theorem ed_same (l : List (List S47)) (hg : ∀ r ∈ l, good r = true) : ∀ (suf : List S44) (all pt : List S47) (at_ : Int), EdInv all pt at_ → (∀ y ∈ suf, PartIn l y) → at_ + sumP suf ≤ 2000 → ∃ m, EdInv (edAll l suf all at_) (edUn l suf pt at_) m
  | [], _, _, at_, h, _, _ => ⟨at_, h⟩
  | y :: suf, all, pt, at_, h, hp, hs => by
    have hy := hp y List.mem_cons_self
    unfold PartIn at hy
    have hsn := sumP_nn l suf (fun z hz => hp z (List.mem_cons_of_mem _ hz))
    rw [sumP] at hs
    have h1 := (h.step (hg _ (row_in l y.f0 hy.1 hy.2.1)) hy.2.2.1 hy.2.2.2.2 hy.2.2.2.1 (by omega)).2
    have h2 : EdInv (joinAll all at_ (srt (cutH (rd_L6 l y.f0) y.f1 y.f2))) (pt ++ (rd_L6 l y.f0).flatMap (unitsOf at_ y.f1 y.f2)) (at_ + (y.f2 - y.f1)) :=
      ⟨h1.a0, h1.ok, h1.ap, h1.le, fun t s => by rw [h1.cv, cov_app, cov_app, cov_flat]⟩
    exact ed_same l hg suf _ _ _ h2 (fun z hz => hp z (List.mem_cons_of_mem _ hz)) (by omega)
theorem edAll_len (l : List (List S47)) (hg : ∀ r ∈ l, good r = true) : ∀ (suf : List S44) (all : List S47) (at_ : Int), (∀ y ∈ suf, PartIn l y) → (edAll l suf all at_).length ≤ all.length + 60 * suf.length
  | [], all, _, _ => by rw [edAll]; simp
  | y :: suf, all, at_, hp => by
    have hy := hp y List.mem_cons_self
    unfold PartIn at hy
    have h1 := edAll_len l hg suf (joinAll all at_ (srt (cutH (rd_L6 l y.f0) y.f1 y.f2))) (at_ + (y.f2 - y.f1)) (fun z hz => hp z (List.mem_cons_of_mem _ hz))
    have h2 := joinAll_len at_ (srt (cutH (rd_L6 l y.f0) y.f1 y.f2)) all
    have h3 := ((good_iff _).1 (cut_sheet (rd_L6 l y.f0) y.f1 y.f2 (hg _ (row_in l y.f0 hy.1 hy.2.1)) hy.2.2.1 hy.2.2.2.2)).2.2
    rw [edAll, List.length_cons]
    omega

end Go.Proofs.Ytbbiihhaljigjaa.LMakeEditionB
