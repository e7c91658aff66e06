/- For every two lists of ints the law FnExactDifferentTracks answers true, after some number of rounds; the conditions are the lists' own bounds. -/
import Derived.Test.YtlcobkldkcdhbaaPFnExactDifferentTracksx3
import Derived.Test.YtlcobkldkcdhbaaBase
namespace Go.Proofs.Ytlcobkldkcdhbaa.LDifferentTracks
open Go Go.RowKit Go.Proofs.Ytlcobkldkcdhbaa.PFnExactDifferentTracks Go.Proofs.YtlcobkldkcdhbaaW.PrintWords Go.Proofs.YtlcobkldkcdhbaaW.PrintLast Go.Proofs.YtlcobkldkcdhbaaW.PrintMore Go.Proofs.Ytlcobkldkcdhbaa.Base
set_option linter.unusedVariables false
set_option linter.unusedSimpArgs false

/-! slices of ints: copied, held against each other, marked -/
theorem eqIntS_l0 (suf : List Int) : ∀ pre : List Int, (pre ++ suf).length ≤ 9223372036854775806 → Ev (fun k => laws_eqIntS.l0 k (pre ++ suf) (pre ++ suf) (pre.length : Int)) true := by
  induction suf with
  | nil =>
    intro pre _
    refine ev_step ev_const (fun k => ?_)
    rw [laws_eqIntS.l0, if_neg (by simp)]
  | cons x suf ih =>
    intro pre hl
    have h := ih (pre ++ [x]) (by simp at hl ⊢; omega)
    rw [snoc_app, snoc_leni] at h
    have hl' : (pre.length : Int) < ((pre ++ x :: suf).length : Int) := by simp; omega
    refine ev_step h (fun k => ?_)
    rw [laws_eqIntS.l0, if_pos hl', if_pos (by omega), if_pos hl', if_pos rfl, wrapS (by omega) (by simp at hl; omega)]

theorem eqIntS_same (l : List Int) (h : l.length ≤ 9223372036854775806) : Ev (fun k => laws_eqIntS.f k l l) true := by
  have := eqIntS_l0 l [] (by simpa using h)
  refine Ev.congr (fun k => ?_) this
  simp [laws_eqIntS.f]

theorem toIntS_l0 (suf : List Int) : ∀ pre : List Int, (pre ++ suf).length ≤ 9223372036854775806 → Ev (fun k => laws_toIntS.l0 k (pre ++ suf) (pre ++ List.replicate suf.length 0) (pre.length : Int)) (pre ++ suf) := by
  induction suf with
  | nil =>
    intro pre _
    refine ev_step ev_const (fun k => ?_)
    rw [laws_toIntS.l0, if_neg (by simp)]
    simp
  | cons x suf ih =>
    intro pre hl
    have h := ih (pre ++ [x]) (by simp at hl ⊢; omega)
    rw [snoc_app, snoc_app, snoc_leni] at h
    have hl' : (pre.length : Int) < ((pre ++ x :: suf).length : Int) := by simp; omega
    refine ev_step h (fun k => ?_)
    rw [laws_toIntS.l0, if_pos hl', if_pos (by omega), if_pos (by simp; omega), rd_mid, wrapS (by omega) (by simp at hl; omega), List.length_cons, List.replicate_succ, set_mid _ _ _ _ _ (by simp)]

theorem toIntS_copy (l : List Int) (h : l.length ≤ 1048576) : Ev (fun k => laws_toIntS.f k l) l := by
  have := toIntS_l0 l [] (by simp; omega)
  refine Ev.congr (fun k => ?_) this
  rw [laws_toIntS.f, if_pos (by omega), if_pos (by omega)]
  simp

/-- a, a + 1, .. -/
def countUp : Int → Nat → List Int
  | _, 0 => []
  | a, n + 1 => a :: countUp (a + 1) n
theorem countUp_length (n : Nat) : ∀ a, (countUp a n).length = n := by
  induction n with
  | zero => intro a; rfl
  | succ n ih => intro a; simp [countUp, ih]

theorem markIntS_l0 (suf : List Int) : ∀ (pre : List Int) (a : Int), (pre ++ suf).length ≤ 1048576000 → 0 ≤ a → a + suf.length ≤ 4000000000000 → Ev (fun k => laws_markIntS.l0 k (pre ++ suf) a (pre.length : Int)) (a + suf.length, pre ++ countUp a suf.length) := by
  induction suf with
  | nil =>
    intro pre a _ _ _
    refine ev_step ev_const (fun k => ?_)
    rw [laws_markIntS.l0, if_neg (by simp)]
    simp [countUp]
  | cons x suf ih =>
    intro pre a hl h0 h1
    simp only [List.length_cons] at h1
    have h := ih (pre ++ [a]) (a + 1) (by simp at hl ⊢; omega) (by omega) (by omega)
    rw [snoc_app, snoc_app, snoc_leni] at h
    have hl' : (pre.length : Int) < ((pre ++ x :: suf).length : Int) := by simp; omega
    refine ev_step (ev_eq h ?_) (fun k => ?_)
    · simp only [List.length_cons, countUp, Prod.mk.injEq, and_true]; omega
    · rw [laws_markIntS.l0, if_pos hl', if_pos (by omega), wrapS (x := (pre.length : Int) + 1) (by omega) (by simp at hl; omega), wrapS (x := a + 1) (by omega) (by omega), set_mid _ _ _ _ _ (by simp)]

theorem markIntS_marks (l : List Int) (a : Int) (hl : l.length ≤ 1048576000) (h0 : 0 ≤ a) (h1 : a ≤ 1000000000000) : Ev (fun k => laws_markIntS.f k l a) (a + l.length, countUp a l.length) := by
  have := markIntS_l0 l [] a (by simpa using hl) h0 (by omega)
  refine Ev.congr (f := fun k => laws_markIntS.l0 k l a 0) (fun k => rfl) (by simpa using this)

theorem heldIntS_l0 (n : Nat) : ∀ (pre : List Int) (a : Int), pre.length + n ≤ 1048576000 → 0 ≤ a → a + n ≤ 4000000000000 → Ev (fun k => laws_heldIntS.l0 k (pre ++ countUp a n) a (pre.length : Int)) (a + n) := by
  induction n with
  | zero =>
    intro pre a _ _ _
    refine ev_step ev_const (fun k => ?_)
    rw [laws_heldIntS.l0, if_neg (by simp [countUp])]
    simp
  | succ n ih =>
    intro pre a hl h0 h1
    have h := ih (pre ++ [a]) (a + 1) (by simp; omega) (by omega) (by omega)
    rw [snoc_app, snoc_leni] at h
    refine ev_step (ev_eq h (by omega)) (fun k => ?_)
    rw [laws_heldIntS.l0, countUp, if_pos (by simp; omega), if_pos (by omega), rd_mid, if_pos rfl, wrapS (x := (pre.length : Int) + 1) (by omega) (by omega), wrapS (x := a + 1) (by omega) (by omega)]

theorem heldIntS_marked (n : Nat) (a : Int) (hl : n ≤ 1048576000) (h0 : 0 ≤ a) (h1 : a ≤ 1000000000000) : Ev (fun k => laws_heldIntS.f k (countUp a n) a) (a + n) := by
  have := heldIntS_l0 n [] a (by simpa using hl) h0 (by omega)
  refine Ev.congr (f := fun k => laws_heldIntS.l0 k (countUp a n) a 0) (fun k => rfl) (by simpa using this)

theorem l1All_l0 (lo hi : Int) (suf : List Int) : ∀ pre : List Int, (pre ++ suf).length ≤ 9223372036854775806 →
    Ev (fun k => spec_l1All.l0 k lo hi (pre ++ suf) ((pre ++ suf).length : Int) (pre.length : Int)) (suf.all fun x => decide (lo ≤ x ∧ x ≤ hi)) := by
  induction suf with
  | nil =>
    intro pre _
    refine ev_step (Ev.now _) (fun k => ?_)
    rw [spec_l1All.l0, if_neg (by simp)]
    rfl
  | cons x suf ih =>
    intro pre hl
    have h := ih (pre ++ [x]) (by simp at hl ⊢; omega)
    rw [snoc_app, snoc_leni] at h
    have hl' : (pre.length : Int) < ((pre ++ x :: suf).length : Int) := by simp; omega
    have hw : wrap64 ((pre.length : Int) + 1) = (pre.length : Int) + 1 := wrapS (by omega) (by simp at hl; omega)
    by_cases h1 : lo ≤ x ∧ x ≤ hi
    · refine ev_step (ev_eq h (by simp [h1])) (fun k => ?_)
      rw [spec_l1All.l0, if_pos hl', if_pos (by omega), if_pos hl', rd_mid, hw]
      simp [spec_l1In.f, h1]
    · refine ev_step (f := fun _ => some _) (Ev.now _) (fun k => ?_)
      rw [spec_l1All.l0, if_pos hl', if_pos (by omega), if_pos hl', rd_mid, hw]
      by_cases h2 : lo ≤ x
      · have h3 : ¬ x ≤ hi := fun h3 => h1 ⟨h2, h3⟩
        simp [spec_l1In.f, h2, h3]
      · simp [spec_l1In.f, h2]
theorem l1All_ok (l : List Int) (lo hi : Int) (h : l.length ≤ 9223372036854775806) : Ev (fun k => spec_l1All.f k l lo hi) (l.all fun x => decide (lo ≤ x ∧ x ≤ hi)) :=
  Ev.congr (fun _ => rfl) (l1All_l0 lo hi l [] (by simpa using h))

def tracksOk (l : List Int) : Bool := (l.all fun x => decide (0 ≤ x ∧ x ≤ 1000002)) && decide (l.length = 20)
theorem ckTracks_ok (l : List Int) (h : l.length ≤ 9223372036854775806) : Ev (fun k => spec_ckTracks.f k l) (tracksOk l) := by
  by_cases h2 : l.length = 20
  · refine Ev.congr (fun k => ?_) (ev_eq (l1All_ok l 0 1000002 h) ?_)
    · rw [spec_ckTracks.f, if_pos (by omega)]; simp
    · simp [tracksOk, h2]
  · refine Ev.congr (f := fun _ => some (tracksOk l)) (fun k => ?_) (Ev.now _)
    rw [spec_ckTracks.f, if_neg (by omega)]
    simp [tracksOk, h2]

theorem areTracks_l0 (l : List Int) (suf : List Int) : ∀ pre : List Int, (pre ++ suf).length ≤ 9223372036854775806 →
    Ev (fun k => impl_areTrackChecksums.l0 k l (pre ++ suf) ((pre ++ suf).length : Int) (pre.length : Int)) ((suf.all fun x => decide (0 ≤ x ∧ x ≤ 1000002)) && decide (l.length = 20)) := by
  induction suf with
  | nil =>
    intro pre _
    refine ev_step (f := fun _ => some _) (Ev.now _) (fun k => ?_)
    rw [impl_areTrackChecksums.l0, if_neg (by simp)]
    have e : ((l.length : Int) == 20) = decide (l.length = 20) := by
      by_cases h : l.length = 20
      · simp [h]
      · simp [h]; omega
    rw [e]; simp
  | cons x suf ih =>
    intro pre hl
    have h := ih (pre ++ [x]) (by simp at hl ⊢; omega)
    rw [snoc_app, snoc_leni] at h
    have hl' : (pre.length : Int) < ((pre ++ x :: suf).length : Int) := by simp; omega
    have hw : wrap64 ((pre.length : Int) + 1) = (pre.length : Int) + 1 := wrapS (by omega) (by simp at hl; omega)
    by_cases h1 : 0 ≤ x ∧ x ≤ 1000002
    · refine ev_step (ev_eq h (by simp [h1])) (fun k => ?_)
      rw [impl_areTrackChecksums.l0, if_pos hl', if_pos (by omega), if_pos hl', rd_mid, hw]
      simp [impl_isChecksum.f, h1, show x < 1000003 by omega]
    · refine ev_step (f := fun _ => some _) (Ev.now _) (fun k => ?_)
      rw [impl_areTrackChecksums.l0, if_pos hl', if_pos (by omega), if_pos hl', rd_mid, hw]
      by_cases h2 : 0 ≤ x
      · have h3 : ¬ x ≤ 1000002 := fun h3 => h1 ⟨h2, h3⟩
        simp [impl_isChecksum.f, h2, h3, show ¬ x < 1000003 by omega]
      · simp [impl_isChecksum.f, h2]
theorem areTracks_ok (l : List Int) (h : l.length ≤ 9223372036854775806) : Ev (fun k => impl_areTrackChecksums.f k l) (tracksOk l) :=
  Ev.congr (fun _ => rfl) (areTracks_l0 l l [] (by simpa using h))

/-- The tracks from number n on at which two lists part. -/
def partAt : Nat → List Int → List Int → List Int
  | n, x :: a, y :: b => if x = y then partAt (n + 1) a b else (n : Int) :: partAt (n + 1) a b
  | _, _, _ => []

theorem specDiff_l0 (n : Nat) (a : List Int) : ∀ (b pa pb out : List Int), pa.length = n → pb.length = n → a.length = b.length → (pa ++ a).length ≤ 1048576 → out.length ≤ n →
    ∀ m, m = n → Ev (fun k => spec_DifferentTracks.l0 k (pb ++ b) out (pa ++ a) ((pa ++ a).length : Int) (m : Int)) (out ++ partAt n a b, true) := by
  induction a generalizing n with
  | nil =>
    intro b pa pb out hpa hpb hab hl ho m hm
    refine ev_step (f := fun _ => some _) (Ev.now _) (fun k => ?_)
    rw [spec_DifferentTracks.l0, if_neg (by simp; omega)]
    simp [partAt]
  | cons x a ih =>
    intro b pa pb out hpa hpb hab hl ho m hm
    cases b with
    | nil => simp at hab
    | cons y b =>
      subst hm
      have hl' : (m : Int) < ((pa ++ x :: a).length : Int) := by simp; omega
      have hl2 : (m : Int) < ((pb ++ y :: b).length : Int) := by simp; omega
      have hw : wrap64 ((m : Int) + 1) = ((m + 1 : Nat) : Int) := by rw [wrapS (by omega) (by simp at hl; omega)]; simp
      have e1 : rd (pa ++ x :: a) (m : Int) = x := by rw [← hpa]; exact rd_mid _ _ _
      have e2 : rd (pb ++ y :: b) (m : Int) = y := by rw [← hpb]; exact rd_mid _ _ _
      simp only [List.length_cons, Nat.add_right_cancel_iff] at hab
      by_cases h : x = y
      · have h1 := ih (m + 1) b (pa ++ [x]) (pb ++ [y]) out (by simp [hpa]) (by simp [hpb]) hab (by simp at hl ⊢; omega) (by omega) (m + 1) rfl
        rw [snoc_app, snoc_app] at h1
        refine ev_step (ev_eq h1 (by simp [partAt, h])) (fun k => ?_)
        rw [spec_DifferentTracks.l0, if_pos hl', if_pos (by omega), if_pos hl', if_pos hl2, e1, e2, if_pos h, hw]
      · have h1 := ih (m + 1) b (pa ++ [x]) (pb ++ [y]) (out ++ [(m : Int)]) (by simp [hpa]) (by simp [hpb]) hab (by simp at hl ⊢; omega) (by simp; omega) (m + 1) rfl
        rw [snoc_app, snoc_app] at h1
        refine ev_step (ev_eq h1 (by simp [partAt, h])) (fun k => ?_)
        rw [spec_DifferentTracks.l0, if_pos hl', if_pos (by omega), if_pos hl', if_pos hl2, e1, e2, if_neg h, if_pos (by simp at hl; omega), hw]

theorem implDiff_l0 (n : Nat) (a : List Int) : ∀ (b pa pb out : List Int), pa.length = n → pb.length = n → a.length = b.length → (pa ++ a).length ≤ 1048576 → out.length ≤ n →
    ∀ m, m = n → Ev (fun k => impl_DifferentTracks.l0 k (pa ++ a) (pb ++ b) out ((pa ++ a).length : Int) (m : Int)) (out ++ partAt n a b, true) := by
  induction a generalizing n with
  | nil =>
    intro b pa pb out hpa hpb hab hl ho m hm
    refine ev_step (f := fun _ => some _) (Ev.now _) (fun k => ?_)
    rw [impl_DifferentTracks.l0, if_neg (by simp; omega)]
    simp [partAt]
  | cons x a ih =>
    intro b pa pb out hpa hpb hab hl ho m hm
    cases b with
    | nil => simp at hab
    | cons y b =>
      subst hm
      have hl' : (m : Int) < ((pa ++ x :: a).length : Int) := by simp; omega
      have hl2 : (m : Int) < ((pb ++ y :: b).length : Int) := by simp; omega
      have hw : wrap64 ((m : Int) + 1) = ((m + 1 : Nat) : Int) := by rw [wrapS (by omega) (by simp at hl; omega)]; simp
      have e1 : rd (pa ++ x :: a) (m : Int) = x := by rw [← hpa]; exact rd_mid _ _ _
      have e2 : rd (pb ++ y :: b) (m : Int) = y := by rw [← hpb]; exact rd_mid _ _ _
      simp only [List.length_cons, Nat.add_right_cancel_iff] at hab
      by_cases h : x = y
      · have h1 := ih (m + 1) b (pa ++ [x]) (pb ++ [y]) out (by simp [hpa]) (by simp [hpb]) hab (by simp at hl ⊢; omega) (by omega) (m + 1) rfl
        rw [snoc_app, snoc_app] at h1
        refine ev_step (ev_eq h1 (by simp [partAt, h])) (fun k => ?_)
        rw [impl_DifferentTracks.l0, if_pos hl', if_pos (by omega), if_pos hl', if_pos hl2, e1, e2, if_pos h, hw]
      · have h1 := ih (m + 1) b (pa ++ [x]) (pb ++ [y]) (out ++ [(m : Int)]) (by simp [hpa]) (by simp [hpb]) hab (by simp at hl ⊢; omega) (by simp; omega) (m + 1) rfl
        rw [snoc_app, snoc_app] at h1
        refine ev_step (ev_eq h1 (by simp [partAt, h])) (fun k => ?_)
        rw [impl_DifferentTracks.l0, if_pos hl', if_pos (by omega), if_pos hl', if_pos hl2, e1, e2, if_neg h, if_pos (by simp at hl; omega), hw]

def diffs (a b : List Int) : List Int × Bool := if (tracksOk a && tracksOk b) = true then (partAt 0 a b, true) else ([], false)
theorem tracks_len {l : List Int} (h : tracksOk l = true) : l.length = 20 := by
  simp only [tracksOk, Bool.and_eq_true, decide_eq_true_eq] at h; exact h.2
theorem partAt_len (a : List Int) : ∀ (n : Nat) (b : List Int), (partAt n a b).length ≤ a.length := by
  induction a with
  | nil => intro n b; simp [partAt]
  | cons x a ih =>
    intro n b
    cases b with
    | nil => simp [partAt]
    | cons y b =>
      simp only [partAt]
      have := ih (n + 1) b
      split <;> simp <;> omega

theorem specDiff_ok (a b : List Int) (ha : a.length ≤ 1048576) (hb : b.length ≤ 1048576) : Ev (fun k => spec_DifferentTracks.f k a b) (diffs a b) := by
  refine Ev.bind (ckTracks_ok a (by omega)) ?_
  cases h1 : tracksOk a with
  | false =>
    simp only [Bool.false_eq_true, if_false]
    refine ev_step (f := fun _ => some _) (Ev.now _) (fun k => ?_)
    rw [spec_DifferentTracks.j0, if_pos rfl]
    simp [diffs, h1]
  | true =>
    simp only [if_true]
    refine Ev.bind (ckTracks_ok b (by omega)) ?_
    cases h2 : tracksOk b with
    | false =>
      refine ev_step (f := fun _ => some _) (Ev.now _) (fun k => ?_)
      rw [spec_DifferentTracks.j0]
      simp [diffs, h2]
    | true =>
      have h := specDiff_l0 0 a b [] [] [] rfl rfl (by rw [tracks_len h1, tracks_len h2]) (by simpa using ha) (by simp) 0 rfl
      refine ev_step (ev_eq h (by simp [diffs, h1, h2])) (fun k => ?_)
      rw [spec_DifferentTracks.j0]
      simp

theorem implDiff_ok (a b : List Int) (ha : a.length ≤ 1048576) (hb : b.length ≤ 1048576) : Ev (fun k => impl_DifferentTracks.f k a b) (diffs a b) := by
  refine Ev.bind (areTracks_ok a (by omega)) ?_
  cases h1 : tracksOk a with
  | false =>
    simp only [Bool.false_eq_true, if_false]
    refine ev_step (f := fun _ => some _) (Ev.now _) (fun k => ?_)
    rw [impl_DifferentTracks.j0, if_pos rfl]
    simp [diffs, h1]
  | true =>
    simp only [if_true]
    refine Ev.bind (areTracks_ok b (by omega)) ?_
    cases h2 : tracksOk b with
    | false =>
      refine ev_step (f := fun _ => some _) (Ev.now _) (fun k => ?_)
      rw [impl_DifferentTracks.j0]
      simp [diffs, h2]
    | true =>
      have h := implDiff_l0 0 a b [] [] [] rfl rfl (by rw [tracks_len h1, tracks_len h2]) (by simpa using ha) (by simp) 0 rfl
      refine ev_step (ev_eq h (by simp [diffs, h1, h2])) (fun k => ?_)
      rw [impl_DifferentTracks.j0]
      simp

theorem FnExactDifferentTracks (a b : List Int) (_ha : a.length * 8 ≤ 140737488351232) (_hga : ∀ y ∈ a, (Lit.int .i64 y).wf = true) (_hb : b.length * 8 ≤ 140737488351232) (_hgb : ∀ y ∈ b, (Lit.int .i64 y).wf = true) : ∃ k, laws_FnExactDifferentTracks.f k a b = some true := by
  by_cases ha : (a.length : Int) > 1048576
  · exact ⟨0, by rw [laws_FnExactDifferentTracks.f, if_pos ha]⟩
  by_cases hb : (b.length : Int) > 1048576
  · exact ⟨0, by rw [laws_FnExactDifferentTracks.f, if_neg ha, if_pos hb]⟩
  have hd : (diffs a b).1.length ≤ 1048576 := by
    unfold diffs
    split
    · have := partAt_len a 0 b
      simp only
      omega
    · simp
  obtain ⟨K1, h1⟩ := toIntS_copy a (by omega)
  obtain ⟨K2, h2⟩ := toIntS_copy b (by omega)
  obtain ⟨K3, h3⟩ := specDiff_ok a b (by omega) (by omega)
  obtain ⟨K4, h4⟩ := implDiff_ok a b (by omega) (by omega)
  obtain ⟨K5, h5⟩ := eqIntS_same (diffs a b).1 (by omega)
  obtain ⟨K6, h6⟩ := eqIntS_same a (by omega)
  obtain ⟨K7, h7⟩ := eqIntS_same b (by omega)
  obtain ⟨K8, h8⟩ := markIntS_marks a 1 (by omega) (by omega) (by omega)
  obtain ⟨K9, h9⟩ := markIntS_marks b (1 + a.length) (by omega) (by omega) (by omega)
  obtain ⟨K10, h10⟩ := markIntS_marks (diffs a b).1 1 (by omega) (by omega) (by omega)
  obtain ⟨K11, h11⟩ := heldIntS_marked (diffs a b).1.length 1 (by omega) (by omega) (by omega)
  dsimp only at h1 h2 h3 h4 h5 h6 h7 h8 h9 h10 h11
  have n1 : ¬ (1 + (a.length : Int) + (b.length : Int)) < 0 := by omega
  have n2 : ¬ (1 + ((diffs a b).1.length : Int)) < 0 := by omega
  refine ⟨K1 + K2 + K3 + K4 + K5 + K6 + K7 + K8 + K9 + K10 + K11 + 5, ?_⟩
  simp (disch := omega) only [laws_FnExactDifferentTracks.f, ha, hb, if_false, h1, h2, h3, h4, h5, Option.bind_some, if_true, bnot_ne]
  simp (disch := omega) only [laws_FnExactDifferentTracks.j0, h1, h2, h5, h6, h7, h8, h9, n1, if_false, if_true, Option.bind_some, bnot_ne, Bool.false_eq_true]
  simp (disch := omega) only [laws_FnExactDifferentTracks.j1, h1, h2, h4, h5, h10, h11, n2, if_false, if_true, Option.bind_some, bnot_ne, Bool.false_eq_true]
  simp (disch := omega) only [laws_FnExactDifferentTracks.j2, h11, n2, if_false, if_true, Option.bind_some, bnot_ne, Bool.false_eq_true]

end Go.Proofs.Ytlcobkldkcdhbaa.LDifferentTracks
