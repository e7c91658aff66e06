/- For every input the law FnExactMakeEdition answers true, after some number of rounds; the conditions are the input's own bounds. -/
import Derived.Test.YtbbiihhaljigjaaLMakeEditionC
import Derived.Test.YtbbiihhaljigjaaLMakeEditionB
import Derived.Test.YtbbiihhaljigjaaLMakeEditionA
import Derived.Test.YtbbiihhaljigjaaQFnExactMakeEditionx13
import Derived.Test.YtbbiihhaljigjaaBaseM
namespace Go.Proofs.Ytbbiihhaljigjaa.LMakeEdition
open Go Go.RowKit Go.Proofs.Ytbbiihhaljigjaa.QFnExactMakeEdition Go.Proofs.YtbbiihhaljigjaaW.PrintWords Go.Proofs.YtbbiihhaljigjaaW.PrintLast Go.Proofs.YtbbiihhaljigjaaW.PrintMore Go.Proofs.Ytbbiihhaljigjaa.Base Go.Proofs.Ytbbiihhaljigjaa.LMakeEditionA Go.Proofs.Ytbbiihhaljigjaa.LMakeEditionB Go.Proofs.Ytbbiihhaljigjaa.LMakeEditionC
set_option linter.unusedVariables false
set_option linter.unusedSimpArgs false

/-! marks of holes -/
def mholes : Nat → Int → List S47
  | 0, _ => []
  | d + 1, a => (⟨a, a + 1, a + 1 + 1⟩ : S47) :: mholes d (a + 1 + 1 + 1)
theorem mholes_len (d : Nat) : ∀ a, (mholes d a).length = d := by
  induction d with
  | zero => intro a; rfl
  | succ d ih => intro a; simp [mholes, ih]
theorem markHoleS_l0 (suf : List S47) : ∀ (pre : List S47) (a : Int), (pre ++ suf).length ≤ 9000000 → 0 ≤ a → a ≤ 1000000000 + 3 * pre.length →
    Ev (fun k => laws_markHoleS.l0 k (pre ++ suf) a (pre.length : Int)) (a + 3 * suf.length, pre ++ mholes suf.length a) := by
  induction suf with
  | nil =>
    intro pre a _ _ _
    refine ev_step (f := fun _ => some _) (Ev.now _) (fun k => ?_)
    rw [laws_markHoleS.l0, if_neg (by simp)]; simp [mholes]
  | cons x suf ih =>
    intro pre a hl h0 h1
    have hlp : pre.length ≤ 9000000 := by simp at hl; omega
    have w1 : wrap64 (a + 1) = a + 1 := wrapS (by omega) (by omega)
    have w2 : wrap64 (a + 1 + 1) = a + 1 + 1 := wrapS (by omega) (by omega)
    have w3 : wrap64 (a + 1 + 1 + 1) = a + 1 + 1 + 1 := wrapS (by omega) (by omega)
    have w5 : wrap64 ((pre.length : Int) + 1) = (pre.length : Int) + 1 := wrapS (by omega) (by omega)
    have sR : ∀ y z : S47, (pre ++ y :: suf).set ((pre.length : Int)).toNat z = pre ++ z :: suf := fun y z => set_mid _ _ _ _ _ (by simp)
    have hl' : (pre.length : Int) < ((pre ++ x :: suf).length : Int) := by simp; omega
    have h := ih (pre ++ [(⟨a, a + 1, a + 1 + 1⟩ : S47)]) (a + 1 + 1 + 1) (by simp at hl ⊢; omega) (by omega) (by simp; omega)
    rw [snoc_app, snoc_app, snoc_leni] at h
    refine ev_step (ev_eq h ?_) (fun k => ?_)
    · simp only [mholes, List.length_cons]
      congr 1
      omega
    · rw [laws_markHoleS.l0, if_pos hl', if_pos (by omega)]
      simp only [rdH_mid, sR, w1, w2, w3, w5, Option.bind_some]
theorem markHoleS_all (l : List S47) (a : Int) (hl : l.length ≤ 9000000) (h0 : 0 ≤ a) (h1 : a ≤ 1000000000) : Ev (fun k => laws_markHoleS.f k l a) (a + 3 * l.length, mholes l.length a) :=
  Ev.congr (f := fun k => laws_markHoleS.l0 k l a 0) (fun _ => rfl) (by simpa using markHoleS_l0 l [] a (by simpa using hl) h0 (by simpa using h1))
theorem heldHoleS_l0 (d : Nat) : ∀ (pre : List S47) (a : Int), pre.length + d ≤ 9000000 → 0 ≤ a → a ≤ 1000000000 + 3 * pre.length →
    Ev (fun k => laws_heldHoleS.l0 k (pre ++ mholes d a) a (pre.length : Int)) (a + 3 * d) := by
  induction d with
  | zero =>
    intro pre a _ _ _
    refine ev_step (f := fun _ => some _) (Ev.now _) (fun k => ?_)
    rw [laws_heldHoleS.l0, if_neg (by simp [mholes])]; simp
  | succ d ih =>
    intro pre a hl h0 h1
    have w1 : wrap64 (a + 1) = a + 1 := wrapS (by omega) (by omega)
    have w2 : wrap64 (a + 1 + 1) = a + 1 + 1 := wrapS (by omega) (by omega)
    have w3 : wrap64 (a + 1 + 1 + 1) = a + 1 + 1 + 1 := wrapS (by omega) (by omega)
    have w5 : wrap64 ((pre.length : Int) + 1) = (pre.length : Int) + 1 := wrapS (by omega) (by omega)
    have h := ih (pre ++ [(⟨a, a + 1, a + 1 + 1⟩ : S47)]) (a + 1 + 1 + 1) (by simp; omega) (by omega) (by simp; omega)
    rw [snoc_app, snoc_leni] at h
    have hl' : (pre.length : Int) < ((pre ++ mholes (d + 1) a).length : Int) := by simp [mholes_len]; omega
    refine ev_step (ev_eq h (by omega)) (fun k => ?_)
    rw [laws_heldHoleS.l0, if_pos hl', if_pos (by omega)]
    simp only [mholes, rdH_mid, w1, w2, w3, w5, if_true]
theorem heldHoleS_all (d : Nat) (a : Int) (hl : d ≤ 9000000) (h0 : 0 ≤ a) (h1 : a ≤ 1000000000) : Ev (fun k => laws_heldHoleS.f k (mholes d a) a) (a + 3 * d) :=
  Ev.congr (f := fun k => laws_heldHoleS.l0 k (mholes d a) a 0) (fun _ => rfl) (by simpa using heldHoleS_l0 d [] a (by simpa using hl) h0 (by simpa using h1))

/-! marks of rows of rows of holes -/
def tot : List (List S47) → Int
  | [] => 0
  | x :: l => (x.length : Int) + tot l
theorem tot_nn (l : List (List S47)) : 0 ≤ tot l := by
  induction l with
  | nil => exact Int.le_refl _
  | cons x l ih => rw [tot]; omega
def marksSS : List (List S47) → Int → List (List S47)
  | [], _ => []
  | x :: l, a => mholes x.length a :: marksSS l (a + 3 * x.length)
theorem marksSS_len (l : List (List S47)) : ∀ a, (marksSS l a).length = l.length := by
  induction l with
  | nil => intro a; rfl
  | cons x l ih => intro a; simp [marksSS, ih]
theorem markHoleSS_l0 (suf : List (List S47)) : ∀ (pre : List (List S47)) (a : Int), (pre ++ suf).length ≤ 9000000 → 0 ≤ a → a + 3 * tot suf ≤ 20000000 → (∀ x ∈ suf, x.length ≤ 9000000) →
    Ev (fun k => laws_markHoleSS.l0 k (pre ++ suf) a (pre.length : Int)) (a + 3 * tot suf, pre ++ marksSS suf a) := by
  induction suf with
  | nil =>
    intro pre a _ _ _ _
    refine ev_step (f := fun _ => some _) (Ev.now _) (fun k => ?_)
    rw [laws_markHoleSS.l0, if_neg (by simp)]; simp [tot, marksSS]
  | cons x suf ih =>
    intro pre a hl h0 h1 hx
    rw [tot] at h1
    have ht := tot_nn suf
    have hlp : pre.length + 1 ≤ 9000000 := by simp at hl; omega
    have hl' : (pre.length : Int) < ((pre ++ x :: suf).length : Int) := by simp; omega
    have hw : wrap64 ((pre.length : Int) + 1) = (pre.length : Int) + 1 := wrapS (by omega) (by omega)
    have hg : (pre ++ x :: suf).getD ((pre.length : Int)).toNat [] = x := getD_mid _ _ _ _ _ (by simp)
    have hs : ∀ y, (pre ++ x :: suf).set ((pre.length : Int)).toNat y = pre ++ y :: suf := fun y => set_mid _ _ _ _ _ (by simp)
    obtain ⟨K1, e1⟩ := markHoleS_all x a (hx x List.mem_cons_self) h0 (by omega)
    have h := ih (pre ++ [mholes x.length a]) (a + 3 * x.length) (by simp at hl ⊢; omega) (by omega) (by omega) (fun y hy => hx y (List.mem_cons_of_mem _ hy))
    rw [snoc_app, snoc_app, snoc_leni] at h
    obtain ⟨K2, e2⟩ := h
    dsimp only at e1 e2
    have et : a + 3 * tot (x :: suf) = a + 3 * (x.length : Int) + 3 * tot suf := by rw [tot]; omega
    refine ⟨K1 + K2 + 1, fun k hk => ?_⟩
    obtain ⟨m, rfl⟩ : ∃ m, k = m + 1 := ⟨k - 1, by omega⟩
    dsimp only
    rw [laws_markHoleSS.l0, if_pos hl', if_pos (by omega), hg, e1 m (by omega)]
    simp only [Option.bind_some]
    rw [hs, hw, e2 m (by omega), et]; rfl
theorem markHoleSS_all (l : List (List S47)) (a : Int) (hl : l.length ≤ 9000000) (h0 : 0 ≤ a) (h1 : a + 3 * tot l ≤ 20000000) (hx : ∀ x ∈ l, x.length ≤ 9000000) : Ev (fun k => laws_markHoleSS.f k l a) (a + 3 * tot l, marksSS l a) :=
  Ev.congr (f := fun k => laws_markHoleSS.l0 k l a 0) (fun _ => rfl) (by simpa using markHoleSS_l0 l [] a (by simpa using hl) h0 h1 hx)

/-! marks of parts -/
def mparts : Nat → Int → List S44
  | 0, _ => []
  | d + 1, a => (⟨a, a + 1, a + 1 + 1⟩ : S44) :: mparts d (a + 1 + 1 + 1)
theorem mparts_len (d : Nat) : ∀ a, (mparts d a).length = d := by
  induction d with
  | zero => intro a; rfl
  | succ d ih => intro a; simp [mparts, ih]
theorem markPartS_l0 (suf : List S44) : ∀ (pre : List S44) (a : Int), (pre ++ suf).length ≤ 9000000 → 0 ≤ a → a ≤ 1000000000 + 3 * pre.length →
    Ev (fun k => laws_markPartS.l0 k (pre ++ suf) a (pre.length : Int)) (a + 3 * suf.length, pre ++ mparts suf.length a) := by
  induction suf with
  | nil =>
    intro pre a _ _ _
    refine ev_step (f := fun _ => some _) (Ev.now _) (fun k => ?_)
    rw [laws_markPartS.l0, if_neg (by simp)]; simp [mparts]
  | cons x suf ih =>
    intro pre a hl h0 h1
    have hlp : pre.length ≤ 9000000 := by simp at hl; omega
    have w1 : wrap64 (a + 1) = a + 1 := wrapS (by omega) (by omega)
    have w2 : wrap64 (a + 1 + 1) = a + 1 + 1 := wrapS (by omega) (by omega)
    have w3 : wrap64 (a + 1 + 1 + 1) = a + 1 + 1 + 1 := wrapS (by omega) (by omega)
    have w5 : wrap64 ((pre.length : Int) + 1) = (pre.length : Int) + 1 := wrapS (by omega) (by omega)
    have sR : ∀ y z : S44, (pre ++ y :: suf).set ((pre.length : Int)).toNat z = pre ++ z :: suf := fun y z => set_mid _ _ _ _ _ (by simp)
    have hl' : (pre.length : Int) < ((pre ++ x :: suf).length : Int) := by simp; omega
    have h := ih (pre ++ [(⟨a, a + 1, a + 1 + 1⟩ : S44)]) (a + 1 + 1 + 1) (by simp at hl ⊢; omega) (by omega) (by simp; omega)
    rw [snoc_app, snoc_app, snoc_leni] at h
    refine ev_step (ev_eq h ?_) (fun k => ?_)
    · simp only [mparts, List.length_cons]
      congr 1
      omega
    · rw [laws_markPartS.l0, if_pos hl', if_pos (by omega)]
      simp only [rdP_mid, sR, w1, w2, w3, w5, Option.bind_some]
theorem markPartS_all (l : List S44) (a : Int) (hl : l.length ≤ 9000000) (h0 : 0 ≤ a) (h1 : a ≤ 1000000000) : Ev (fun k => laws_markPartS.f k l a) (a + 3 * l.length, mparts l.length a) :=
  Ev.congr (f := fun k => laws_markPartS.l0 k l a 0) (fun _ => rfl) (by simpa using markPartS_l0 l [] a (by simpa using hl) h0 (by simpa using h1))

theorem tot_map (l : List (List S65)) : tot (l.map (List.map toH)) = totL l := by
  induction l with
  | nil => rfl
  | cons x l ih => rw [List.map_cons, tot, totL, ih, List.length_map]
theorem FnExactMakeEdition (l : List (List S65)) (p : List S52) (hb : l.length * 24 ≤ 140737488351232) (hw : ∀ y ∈ l, (y.length * 24 ≤ 140737488351232) ∧ ∀ z ∈ y, ((Lit.int .i64 z.f0).wf = true) ∧ ((Lit.int .i64 z.f1).wf = true) ∧ ((Lit.int .i64 z.f2).wf = true)) (hpb : p.length * 24 ≤ 140737488351232) (hpw : ∀ y ∈ p, ((Lit.int .i64 y.f0).wf = true) ∧ ((Lit.int .i64 y.f1).wf = true) ∧ ((Lit.int .i64 y.f2).wf = true)) : ∃ k, laws_FnExactMakeEdition.f k l p = some true := by
  obtain ⟨v, ⟨K0, e0⟩, hvn, hv⟩ := szHoleSS_ok l 1048576 (by omega) (by omega) (by omega) (fun x hx => by have := (hw x hx).1; omega)
  dsimp only at e0
  by_cases c : v < 0
  · exact ⟨K0, by simp (disch := omega) only [laws_FnExactMakeEdition.f, e0, Option.bind_some, c, if_true, if_false]⟩
  obtain ⟨hl, hs, hT⟩ := hv c
  have ez := szPartS_ok p v (by omega) hvn (by omega)
  by_cases d : v - (p.length : Int) < 0
  · rw [if_pos d] at ez
    exact ⟨K0, by simp (disch := omega) only [laws_FnExactMakeEdition.f, e0, ez, Option.bind_some, c, if_true, if_false, show (-1 : Int) < 0 by omega]⟩
  rw [if_neg d] at ez
  have hp : p.length ≤ 1048576 := by omega
  obtain ⟨p2, hpe⟩ : ∃ p2, p2 = p.map toP := ⟨_, rfl⟩
  obtain ⟨l2, hle⟩ : ∃ l2, l2 = l.map (List.map toH) := ⟨_, rfl⟩
  have hp2 : p2.length ≤ 1048576 := by rw [hpe]; simpa using hp
  have hl2 : l2.length ≤ 1048576 := by rw [hle]; simpa using hl
  have hs2 : ∀ x ∈ l2, x.length ≤ 1048576 := fun x hx => by
    rw [hle] at hx
    obtain ⟨y, hy, rfl⟩ := List.mem_map.1 hx
    simpa using hs y hy
  have hT2 : tot l2 ≤ 1048576 := by rw [hle, tot_map]; exact hT
  have hTn := tot_nn l2
  have hr := edR_len l2 p2
  obtain ⟨K1, e1⟩ := toHoleSS_copy l hl hs
  obtain ⟨K2, e2⟩ := specEd_ok l2 p2 hl2 hs2 hp2
  obtain ⟨K3, e3⟩ := implEd_ok l2 p2 hl2 hs2 hp2
  obtain ⟨K4, e4⟩ := eqHoleSS_same l2 hl2 hs2
  obtain ⟨K5, e5⟩ := toPartS_copy p hp
  obtain ⟨K6, e6⟩ := eqPartS_same p2 (by omega)
  obtain ⟨K7, e7⟩ := eqHoleS_same (edR l2 p2).1 (by omega)
  obtain ⟨K8, e8⟩ := markHoleSS_all l2 1 (by omega) (by omega) (by omega) (fun x hx => by have := hs2 x hx; omega)
  obtain ⟨K9, e9⟩ := markPartS_all p2 (1 + 3 * tot l2) (by omega) (by omega) (by omega)
  obtain ⟨K10, e10⟩ := markHoleS_all (edR l2 p2).1 1 (by omega) (by omega) (by omega)
  obtain ⟨K11, e11⟩ := heldHoleS_all (edR l2 p2).1.length 1 (by omega) (by omega) (by omega)
  have n2 : ¬ (1 + 3 * tot l2 + 3 * (p2.length : Int)) < 0 := by omega
  have n3 : ¬ (1 + 3 * ((edR l2 p2).1.length : Int)) < 0 := by omega
  rw [← hle] at e1
  rw [← hpe] at e5
  clear hle hpe
  dsimp only at e1 e2 e3 e4 e5 e6 e7 e8 e9 e10 e11
  refine ⟨K0 + K1 + K2 + K3 + K4 + K5 + K6 + K7 + K8 + K9 + K10 + K11 + 6, ?_⟩
  simp (disch := omega) only [laws_FnExactMakeEdition.f, e0, ez, e1, e2, e3, e4, e5, e6, e7, e8, e9, e10, e11, n2, n3, c, d, if_false, if_true, Option.bind_some, bnot_ne, Bool.false_eq_true, eq_self]
  simp (disch := omega) only [laws_FnExactMakeEdition.j0, e0, ez, e1, e2, e3, e4, e5, e6, e7, e8, e9, e10, e11, n2, n3, c, d, if_false, if_true, Option.bind_some, bnot_ne, Bool.false_eq_true, eq_self]
  simp (disch := omega) only [laws_FnExactMakeEdition.j1, e0, ez, e1, e2, e3, e4, e5, e6, e7, e8, e9, e10, e11, n2, n3, c, d, if_false, if_true, Option.bind_some, bnot_ne, Bool.false_eq_true, eq_self]
  simp (disch := omega) only [laws_FnExactMakeEdition.j2, e0, ez, e1, e2, e3, e4, e5, e6, e7, e8, e9, e10, e11, n2, n3, c, d, if_false, if_true, Option.bind_some, bnot_ne, Bool.false_eq_true, eq_self]

end Go.Proofs.Ytbbiihhaljigjaa.LMakeEdition
