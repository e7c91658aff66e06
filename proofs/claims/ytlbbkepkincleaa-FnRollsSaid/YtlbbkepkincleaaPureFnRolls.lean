/- For every input the law FnRolls answers true, after some number of rounds; the conditions are the input's own bounds. -/
import Derived.Test.YtlbbkepkincleaaQFnRollsx12
import Derived.Test.YtlbbkepkincleaaBaseFnRolls
import Derived.Test.YtlbbkepkincleaaLFnRollsD
namespace Go.Proofs.Ytlbbkepkincleaa.Pure
open Go Go.RowKit Go.Proofs.Ytlbbkepkincleaa.QFnRolls Go.Proofs.YtlbbkepkincleaaW.PrintWords Go.Proofs.YtlbbkepkincleaaW.PrintLast Go.Proofs.YtlbbkepkincleaaW.PrintMore Go.Proofs.Ytlbbkepkincleaa.Base Go.Proofs.Ytlbbkepkincleaa.LFnRollsD
set_option linter.unusedVariables false
set_option linter.unusedSimpArgs false

/-! two lists that are one -/
theorem qInts_l0 (suf : List Int) : ∀ pre : List Int, (pre ++ suf).length ≤ 9223372036854775806 → Ev (fun k => laws_qInts.l0 k (pre ++ suf) (pre ++ suf) ((pre ++ suf).length : Int) (pre.length : Int)) true := by
  induction suf with
  | nil =>
    intro pre _
    refine ev_step ev_const (fun k => ?_)
    rw [laws_qInts.l0, if_neg (by simp)]
  | cons x suf ih =>
    intro pre hl
    have h := ih (pre ++ [x]) (by simp at hl ⊢; omega)
    rw [snoc_app, snoc_leni] at h
    have hl' : (pre.length : Int) < ((pre ++ x :: suf).length : Int) := by simp; omega
    refine ev_step h (fun k => ?_)
    rw [laws_qInts.l0, if_pos hl', if_pos (by omega), if_pos hl', if_pos hl', if_pos rfl, wrapS (by omega) (by simp at hl; omega)]
theorem qInts_same (l : List Int) (h : l.length ≤ 9223372036854775806) : Ev (fun k => laws_qInts.f k l l) true := by
  have := qInts_l0 l [] (by simpa using h)
  refine Ev.congr (fun k => ?_) this
  rw [laws_qInts.f, if_pos rfl]
  rfl

/-! what the law asks of rolls -/
theorem u8_bytes {l : List Int} (h : ∀ x ∈ l, (Lit.int .u8 x).wf = true) : bytesOk l := by
  intro x hx
  have := h x hx
  simp [Lit.wf, IntKind.min, IntKind.max, IntKind.bits, IntKind.signed] at this
  omega
theorem ne2 (x : Bool) : ¬ (x != x) = true := by simp
theorem tiny_size {l : List S29} (h : ∀ x ∈ l, tiny x) : ∀ x ∈ l, x.f0.size ≤ 1048576 ∧ x.f1.size ≤ 1048576 := by
  intro x hx
  have := h x hx
  unfold tiny at this
  omega
theorem qRolls_l0 (suf : List S29) : ∀ pre : List S29, (pre ++ suf).length ≤ 9223372036854775806 → Ev (fun k => laws_qRolls.l0 k (pre ++ suf) (pre ++ suf) ((pre ++ suf).length : Int) (pre.length : Int)) true := by
  induction suf with
  | nil =>
    intro pre _
    refine ev_step ev_const (fun k => ?_)
    rw [laws_qRolls.l0, if_neg (by simp)]
  | cons x suf ih =>
    intro pre hl
    have h := ih (pre ++ [x]) (by simp at hl ⊢; omega)
    rw [snoc_app, snoc_leni] at h
    have hl' : (pre.length : Int) < ((pre ++ x :: suf).length : Int) := by simp; omega
    refine ev_step h (fun k => ?_)
    rw [laws_qRolls.l0, if_pos hl', if_pos (by omega), if_pos hl', if_pos hl', if_neg (by simp), wrapS (by omega) (by simp at hl; omega)]
theorem qRolls_same (l : List S29) (h : l.length ≤ 9223372036854775806) : Ev (fun k => laws_qRolls.f k l l) true := by
  have := qRolls_l0 l [] (by simpa using h)
  refine Ev.congr (fun k => ?_) this
  rw [laws_qRolls.f, if_pos rfl]
  rfl
theorem find_of {l : List S29} (hg : good l = true) (m : Int) (h0 : 0 ≤ m) (h1 : m < l.length) : findR l (rd_T29 l m).f0 = (m, true) := by
  unfold findR
  rw [idx_at hg m h0 h1, if_pos ⟨hg, (good_at hg m h0 h1).1, by omega⟩]
def dn (i k : Int) : Int := if k < i then k else k - 1
theorem up_dn (i k : Int) (h : k ≠ i) : upR i (dn i k) = k := by
  unfold upR dn
  by_cases c : k < i
  · rw [if_pos c, if_pos c]
  · rw [if_neg c, if_neg (by omega)]; omega
theorem law_l0 (l : List S29) (i : Int) (h0 : 0 ≤ i) (h1 : i < l.length) (hg : good l = true) (d : Nat) : ∀ k : Nat, k + d = l.length →
    Ev (fun n => laws_FnRolls.l0 n l i (dropL l i 0 l) (dropL l i 0 l) l (l.length : Int) (k : Int)) true := by
  have hgl := good_len hg
  have hdg := drop_good l i h0 h1 hg
  have hdl := drop_len l i h0 h1
  induction d with
  | zero =>
    intro k hk
    refine ev_step (f := fun _ => some true) (Ev.now _) (fun n => ?_)
    rw [laws_FnRolls.l0, if_neg (by omega)]
  | succ d ih =>
    intro k hk
    have IH := ih (k + 1) (by omega)
    have hw : wrap64 ((k : Int) + 1) = ((k + 1 : Nat) : Int) := by rw [wrapS (by omega) (by omega)]; omega
    by_cases c : (k : Int) = i
    · refine ev_step IH (fun n => ?_)
      rw [laws_FnRolls.l0, if_pos (by omega), if_pos (by omega), if_pos (by omega), if_pos c, hw]
    · have n0 : 0 ≤ dn i (k : Int) := by unfold dn; split <;> omega
      have n1 : dn i (k : Int) < (l.length : Int) - 1 := by unfold dn; split <;> omega
      have hr := drop_rd l i h0 h1 (dn i (k : Int)) n0 n1
      rw [up_dn i (k : Int) c] at hr
      have hf := find_of hdg (dn i (k : Int)) n0 (by omega)
      obtain ⟨f0, f1, f2, f3⟩ := dropX_f l i (rd_T29 l (k : Int))
      obtain ⟨a1, a2, a3, a4, a5, a6⟩ := good_at hg (k : Int) (by omega) (by omega)
      obtain ⟨_, _, _, _, b5, b6⟩ := good_at hg i h0 h1
      have z0 := word_size a1
      have hx := hr
      rw [hr, f0] at hf
      rw [← hr] at f1 f2 f3
      generalize hX : rd_T29 l (k : Int) = x at *
      have J : Ev (fun n => laws_FnRolls.j5 n l i (dropL l i 0 l) (dropL l i 0 l) (dn i (k : Int)) l (l.length : Int) (k : Int) false x.f0 x.f1 x.f2 x.f3) true := by
        refine ev_step IH (fun n => ?_)
        rw [laws_FnRolls.j5, if_neg (by simp)]
        by_cases e : x.f3 = i
        · rw [if_pos e] at f3
          rw [if_pos e, if_pos h0, if_pos h1, if_pos n0, if_pos (by omega), f3, if_neg (ne2 _)]
          by_cases g : (rd_T29 l i).f3 ≥ 0
          · have t1 : (rd_T29 (dropL l i 0 l) (rd_T29 l i).f3).f0 = (rd_T29 l (rd_T29 l i).f3).f0 := by
              rw [drop_rd l i h0 h1 _ g (by omega), (dropX_f l i _).1, show upR i (rd_T29 l i).f3 = (rd_T29 l i).f3 from if_pos (by omega)]
            rw [if_pos g, if_pos g, if_pos (by omega), if_pos g, if_pos (by omega), if_pos (by rw [t1]), hw]
          · rw [if_neg g, hw]
        · rw [if_neg e] at f3
          rw [if_neg e, if_pos n0, if_pos (by omega)]
          by_cases u : x.f3 > i
          · rw [if_pos u] at f3
            rw [f3, show decide (x.f3 - 1 < 0) = decide (x.f3 < 0) from decide_eq_decide.2 (by omega), if_neg (ne2 _), if_pos (by omega), if_pos (by omega), if_pos (by omega), if_pos (by omega), if_pos (by omega)]
            have t1 : (rd_T29 (dropL l i 0 l) (x.f3 - 1)).f0 = (rd_T29 l x.f3).f0 := by
              rw [drop_rd l i h0 h1 _ (by omega) (by omega), (dropX_f l i _).1, show upR i (x.f3 - 1) = x.f3 from (if_neg (by omega)).trans (by omega)]
            rw [if_pos (by rw [t1]), hw]
          · rw [if_neg u] at f3
            rw [f3, if_neg (ne2 _)]
            by_cases g : x.f3 ≥ 0
            · have t1 : (rd_T29 (dropL l i 0 l) x.f3).f0 = (rd_T29 l x.f3).f0 := by
                rw [drop_rd l i h0 h1 _ g (by omega), (dropX_f l i _).1, show upR i x.f3 = x.f3 from if_pos (by omega)]
              rw [if_pos g, if_pos g, if_pos (by omega), if_pos g, if_pos (by omega), if_pos (by rw [t1]), hw]
            · rw [if_neg g, hw]
      obtain ⟨K1, e1⟩ := implFindRoll_ok (dropL l i 0 l) x.f0 (by omega) (good_size hdg) (by omega)
      obtain ⟨K2, e2⟩ := specFindRoll_ok (dropL l i 0 l) x.f0 (by omega) (good_size hdg) (by omega)
      obtain ⟨K3, e3⟩ := J
      rw [hf] at e1 e2
      dsimp only at e1 e2 e3
      refine ⟨K1 + K2 + K3 + 1, fun n hn => ?_⟩
      obtain ⟨m, rfl⟩ : ∃ m, n = m + 1 := ⟨n - 1, by omega⟩
      dsimp only
      rw [laws_FnRolls.l0, if_pos (by omega), if_pos (by omega), if_pos (by omega), if_neg c, hX, e1 m (by omega), Option.bind_some, e2 m (by omega), Option.bind_some]
      rw [if_pos rfl, if_pos rfl, if_pos rfl, if_pos n0, if_pos (by omega), f1, f2, if_pos rfl, show (x.f2 != x.f2) = false from by simp]
      exact e3 m (by omega)
theorem drop_yes {l : List S29} {i : Int} (h : (dropR l i).2 = true) : good l = true ∧ 0 ≤ i ∧ i < l.length ∧ dropR l i = (dropL l i 0 l, true) := by
  unfold dropR at h ⊢
  by_cases c : hasRoll l i = true
  · rw [if_pos c]
    exact ⟨(hasRoll_of c).1, (hasRoll_of c).2.1, (hasRoll_of c).2.2, rfl⟩
  · rw [if_neg c] at h; cases h
theorem law_j2 (l : List S29) (i : Int) (hl : l.length ≤ 31) : Ev (fun k => laws_FnRolls.j2 k l i (dropR l i).1 (dropR l i).2 (dropR l i).1 false) true := by
  by_cases c : (dropR l i).2 = true
  · obtain ⟨hg, h0, h1, e⟩ := drop_yes c
    have hdl := drop_len l i h0 h1
    have hdg := drop_good l i h0 h1 hg
    obtain ⟨K1, e1⟩ := isCat_ok (dropL l i 0 l) (by omega) (good_size hdg)
    obtain ⟨K2, e2⟩ := law_l0 l i h0 h1 hg l.length 0 (by omega)
    rw [hdg] at e1
    rw [e]
    dsimp only at e1 e2 ⊢
    refine ⟨K1 + K2 + 3, fun n hn => ?_⟩
    obtain ⟨m, rfl⟩ : ∃ m, n = m + 2 := ⟨n - 2, by omega⟩
    dsimp only
    rw [laws_FnRolls.j2, if_neg (by simp), if_pos rfl, if_pos (by rw [wrapS (by omega) (by omega)]; exact hdl), e1 (m + 1) (by omega), Option.bind_some]
    show laws_FnRolls.j3 (m + 1) l i (dropL l i 0 l) (dropL l i 0 l) false = _
    rw [laws_FnRolls.j3, if_neg (by simp)]
    exact e2 m (by omega)
  · refine ev_step (f := fun _ => some true) (Ev.now _) (fun k => ?_)
    rw [laws_FnRolls.j2, if_neg (by simp), if_neg c]
theorem find_yes {l : List S29} {t : ByteArray} (h : (findR l t).2 = true) : 0 ≤ (findR l t).1 ∧ (findR l t).1 < l.length ∧ (rd_T29 l (findR l t).1).f0.toList = t.toList := by
  unfold findR at h ⊢
  by_cases c : good l = true ∧ wordOk t = true ∧ ¬ impl_findRoll.idx t 0 l < 0
  · rw [if_pos c]
    have := idx_hit t l []
    simp only [List.nil_append, List.length_nil] at this
    exact this c.2.2
  · rw [if_neg c] at h; cases h
theorem law_j1 (l : List S29) (i : Int) (hl : l.length ≤ 31) (c : List S29) (t : ByteArray) : Ev (fun k => laws_FnRolls.j1 k l i (dropR l i).1 (dropR l i).2 (dropR l i).1 c t (findR c t).2 (findR c t).1) true := by
  have h2 := law_j2 l i hl
  refine ev_step h2 (fun k => ?_)
  by_cases g : (findR c t).2 = true
  · obtain ⟨f0, f1, f2⟩ := find_yes g
    rw [laws_FnRolls.j1, if_pos g, if_pos f0, if_pos f1, f2, show (t.toList != t.toList) = false from by simp]
  · rw [laws_FnRolls.j1, if_neg g]
theorem add_yes {l : List S29} {x : S29} (h : (addR l x).2 = true) : good l = true ∧ good (l ++ [x]) = true ∧ addR l x = (l ++ [x], true) := by
  unfold addR at h ⊢
  by_cases c : good l = true
  · rw [if_pos c] at h ⊢
    by_cases d : good (l ++ [x]) = true
    · rw [if_pos d]; exact ⟨c, d, rfl⟩
    · rw [if_neg d] at h; cases h
  · rw [if_neg c] at h; cases h
theorem drop_last (l : List S29) (x : S29) (hg : good (l ++ [x]) = true) : dropR (l ++ [x]) (l.length : Int) = (l, true) := by
  have hh : hasRoll (l ++ [x]) (l.length : Int) = true := by
    simp [hasRoll, hg]; omega
  unfold dropR
  rw [if_pos hh]
  have hm := dropL_mid (l ++ [x]) (l.length : Int) x [] l 0 (by omega)
  rw [hm, List.append_nil]
  have : l.map (dropX (l ++ [x]) (l.length : Int)) = l := by
    apply List.ext_getElem (by simp)
    intro n h1 h2
    rw [List.getElem_map]
    have ha := (good_at hg (n : Int) (by omega) (by simp; omega)).2.2.2.2.1
    rw [rdR_app _ _ _ (by omega) (by omega), rdR_get l n h2] at ha
    have h3 : (l[n]).f3 < (l.length : Int) := by omega
    unfold dropX
    rw [if_neg (by omega), if_neg (by omega)]
  rw [this]
theorem law_j0 (l : List S29) (i : Int) (hl : l.length ≤ 31) (a : List S29) (ha : a.length ≤ 31) (c : List S29) (t : ByteArray) (x0 x1 : ByteArray) (x2 x3 : Int) :
    Ev (fun k => laws_FnRolls.j0 k l i (dropR l i).1 (dropR l i).2 (dropR l i).1 a (addR a ⟨x0, x1, x2, x3⟩).1 (addR a ⟨x0, x1, x2, x3⟩).2 c t (findR c t).2 (findR c t).1 false x0 x1 x2 x3) true := by
  have h1 := law_j1 l i hl c t
  by_cases g : (addR a ⟨x0, x1, x2, x3⟩).2 = true
  · obtain ⟨_, hg, e⟩ := add_yes g
    have hb : (a ++ [(⟨x0, x1, x2, x3⟩ : S29)]).length ≤ 32 := by simp; omega
    have hx : rd_T29 (a ++ [(⟨x0, x1, x2, x3⟩ : S29)]) (a.length : Int) = ⟨x0, x1, x2, x3⟩ := rdR_mid a [] _
    have hf := find_of hg (a.length : Int) (by omega) (by simp; omega)
    have z := good_at hg (a.length : Int) (by omega) (by simp; omega)
    rw [hx] at hf z
    dsimp only at hf
    have zs := word_size z.1
    dsimp only at zs
    obtain ⟨K1, e1⟩ := implFindRoll_ok (a ++ [(⟨x0, x1, x2, x3⟩ : S29)]) x0 (by omega) (good_size hg) (by omega)
    obtain ⟨K2, e2⟩ := implDropRoll_ok (a ++ [(⟨x0, x1, x2, x3⟩ : S29)]) (a.length : Int) (by omega) (good_size hg)
    obtain ⟨K3, e3⟩ := qRolls_same a (by omega)
    obtain ⟨K4, e4⟩ := isCat_ok (a ++ [(⟨x0, x1, x2, x3⟩ : S29)]) (by omega) (good_size hg)
    obtain ⟨K5, e5⟩ := h1
    rw [hf] at e1
    rw [drop_last a _ hg] at e2
    rw [hg] at e4
    rw [e]
    dsimp only at e1 e2 e3 e4 e5 ⊢
    refine ⟨K1 + K2 + K3 + K4 + K5 + 1, fun n hn => ?_⟩
    obtain ⟨m, rfl⟩ : ∃ m, n = m + 1 := ⟨n - 1, by omega⟩
    dsimp only
    rw [laws_FnRolls.j0, if_neg (by simp), if_pos rfl, e1 m (by omega), Option.bind_some, e2 m (by omega), Option.bind_some, if_pos rfl, if_pos rfl, if_pos rfl, e3 m (by omega), Option.bind_some, if_pos rfl, e4 m (by omega), Option.bind_some, if_pos rfl]
    exact e5 m (by omega)
  · refine ev_step h1 (fun k => ?_)
    rw [laws_FnRolls.j0, if_neg (by simp), if_neg g]
set_option maxHeartbeats 4000000 in
theorem FnRolls : laws_FnRolls.Pure := by
  intro l0 l1 hm0 hb0 hw0 hm1 hb1 hw1
  by_cases big : wrap64 ((l0.length : Int) + (l1.length : Int)) > 1048576
  · exact ⟨0, by rw [laws_FnRolls.f, if_pos big]⟩
  obtain ⟨l, i, ⟨K1, e1⟩, ll, lz⟩ := drawDrop_ok (u8_bytes hw0)
  obtain ⟨a, x0, x1, x2, x3, ⟨K2, e2⟩, al, az, z0, z1⟩ := drawAdd_ok (u8_bytes hw1)
  obtain ⟨c, t, ⟨K3, e3⟩, cl, cz, tz⟩ := drawFind_ok (u8_bytes hw1)
  obtain ⟨b, n, ⟨K4, e4⟩, bl, bz⟩ := drawCopies_ok (u8_bytes hw1)
  obtain ⟨K5, e5⟩ := implDropRoll_ok l i (by omega) (tiny_size lz)
  obtain ⟨K6, e6⟩ := specDropRoll_ok l i (by omega) (tiny_size lz)
  obtain ⟨K7, e7⟩ := implAdd_ok a x0 x1 x2 x3 (by omega) (tiny_size az) (by omega) (by omega)
  obtain ⟨K8, e8⟩ := specAdd_ok a x0 x1 x2 x3 (by omega) (tiny_size az) (by omega) (by omega)
  obtain ⟨K9, e9⟩ := implFindRoll_ok c t (by omega) (tiny_size cz) (by omega)
  obtain ⟨K10, e10⟩ := specFindRoll_ok c t (by omega) (tiny_size cz) (by omega)
  obtain ⟨K11, e11⟩ := implCopiesOf_ok b n (by omega) (tiny_size bz)
  obtain ⟨K12, e12⟩ := specCopiesOf_ok b n (by omega) (tiny_size bz)
  obtain ⟨K13, e13⟩ := qRolls_same (dropR l i).1 (by have := dropR_len l i (by omega); omega)
  obtain ⟨K14, e14⟩ := qRolls_same (addR a ⟨x0, x1, x2, x3⟩).1 (by have := addR_len a ⟨x0, x1, x2, x3⟩ (by omega); omega)
  obtain ⟨K15, e15⟩ := qInts_same (copiesR b n).1 (by have := copiesR_len b n (by omega); omega)
  obtain ⟨K16, e16⟩ := law_j0 l i ll a al c t x0 x1 x2 x3
  dsimp only at e1 e2 e3 e4 e5 e6 e7 e8 e9 e10 e11 e12 e13 e14 e15 e16
  refine ⟨K1 + K2 + K3 + K4 + K5 + K6 + K7 + K8 + K9 + K10 + K11 + K12 + K13 + K14 + K15 + K16, ?_⟩
  generalize hK : K1 + K2 + K3 + K4 + K5 + K6 + K7 + K8 + K9 + K10 + K11 + K12 + K13 + K14 + K15 + K16 = k
  rw [laws_FnRolls.f, if_neg big, e1 k (by omega), Option.bind_some, e5 k (by omega), Option.bind_some, e6 k (by omega), Option.bind_some, e2 k (by omega), Option.bind_some, e7 k (by omega), Option.bind_some, e8 k (by omega), Option.bind_some, e3 k (by omega), Option.bind_some, e9 k (by omega), Option.bind_some, e10 k (by omega), Option.bind_some, e4 k (by omega), Option.bind_some, e11 k (by omega), Option.bind_some, e12 k (by omega), Option.bind_some]
  rw [if_neg (ne2 _), e13 k (by omega), Option.bind_some, if_pos rfl, if_neg (ne2 _), e14 k (by omega), Option.bind_some, if_pos rfl, if_neg (ne2 _), if_pos rfl, if_neg (ne2 _), e15 k (by omega), Option.bind_some]
  exact e16 k (by omega)

end Go.Proofs.Ytlbbkepkincleaa.Pure
