/- For every input the law FnChecksums answers true, after some number of rounds; the conditions are the input's own bounds. -/
import Derived.Test.YtpbffmjjhmllbaaDoorQFnChecksumsx14
import Derived.Test.YtpbffmjjhmllbaaDoorBaseH
import Derived.Test.YtpbffmjjhmllbaaDoorLFnChecksumsB
namespace Go.Proofs.YtpbffmjjhmllbaaDoor.Pure
open Go Go.RowKit Go.Proofs.YtpbffmjjhmllbaaDoor.QFnChecksums Go.Proofs.YtpbffmjjhmllbaaDoorW.PrintWords Go.Proofs.YtpbffmjjhmllbaaDoorW.PrintLast Go.Proofs.YtpbffmjjhmllbaaDoorW.PrintMore Go.Proofs.YtpbffmjjhmllbaaDoor.Base Go.Proofs.YtpbffmjjhmllbaaDoor.LFnChecksumsA Go.Proofs.YtpbffmjjhmllbaaDoor.LFnChecksumsB
set_option linter.unusedVariables false
set_option linter.unusedSimpArgs false

/-! the law of checksums, join by join -/
theorem u8_bytes {l : List Int} (h : ∀ x ∈ l, (Lit.int .u8 x).wf = true) : bytesOk l := by
  intro x hx
  have := h x hx
  simp [Lit.wf, IntKind.min, IntKind.max, IntKind.bits, IntKind.signed] at this
  omega
theorem ne2 (x : Bool) : ¬ (x != x) = true := by simp
theorem sameI_l0 (suf : List Int) : ∀ pre : List Int, (pre ++ suf).length ≤ 9223372036854775806 → Ev (fun k => laws_sameInts.l0 k (pre ++ suf) (pre ++ suf) ((pre ++ suf).length : Int) (pre.length : Int)) true := by
  induction suf with
  | nil =>
    intro pre _
    refine ev_step (f := fun _ => some _) (Ev.now _) (fun k => ?_)
    rw [laws_sameInts.l0, if_neg (by simp)]
  | cons x suf ih =>
    intro pre hl
    have h := ih (pre ++ [x]) (by simp at hl ⊢; omega)
    rw [snoc_app, snoc_leni] at h
    have hl' : (pre.length : Int) < ((pre ++ x :: suf).length : Int) := by simp; omega
    refine ev_step h (fun k => ?_)
    rw [laws_sameInts.l0, if_pos hl', if_pos (by omega), if_pos hl', if_pos hl', if_pos rfl, wrapS (by omega) (by simp at hl; omega)]
theorem sameInts_ok (l : List Int) (h : l.length ≤ 9223372036854775806) : Ev (fun k => laws_sameInts.f k l l) true := by
  have := sameI_l0 l [] (by simpa using h)
  refine Ev.congr (fun k => ?_) this
  rw [laws_sameInts.f, if_pos rfl]
  rfl
theorem law_j6 {x1 : List Int} (hb : bytesOk x1) : Ev (fun k => laws_FnChecksums.j6 k x1) true := by
  obtain ⟨a, b, ⟨K1, e1⟩, ha, hb'⟩ := drawTracks_ok hb
  obtain ⟨K2, e2⟩ := implDiff_ok a b (by omega) (by omega)
  obtain ⟨K3, e3⟩ := specDiff_ok a b (by omega) (by omega)
  obtain ⟨n, e4, hn⟩ := drawNumber_ok hb
  obtain ⟨⟨r1, r2, r3, r4⟩, e5, e6⟩ := holeOf_same n hn
  obtain ⟨t, ⟨K4, e7⟩, ht⟩ := drawRead_ok hb
  obtain ⟨⟨q1, q2⟩, ⟨K5, e8⟩, ⟨K6, e9⟩⟩ := readCk_same t ht
  obtain ⟨v, e10⟩ := drawText_ok hb
  have e11 := implText_ok v
  obtain ⟨K7, e12⟩ := specText_ok v
  have hd : (diffs a b).1.length ≤ 20 := by
    unfold diffs
    split
    · have := partAt_len a 0 b
      simp only
      omega
    · simp
  obtain ⟨K8, e13⟩ := sameInts_ok (diffs a b).1 (by omega)
  refine ⟨K1 + K2 + K3 + K4 + K5 + K6 + K7 + K8 + 1, fun k hk => ?_⟩
  obtain ⟨q, rfl⟩ : ∃ q, k = q + 1 := ⟨k - 1, by omega⟩
  have e1 := e1 q (by omega)
  have e2 := e2 q (by omega)
  have e3 := e3 q (by omega)
  have e7 := e7 q (by omega)
  have e8 := e8 q (by omega)
  have e9 := e9 q (by omega)
  have e12 := e12 q (by omega)
  have e13 := e13 q (by omega)
  dsimp only at e1 e2 e3 e7 e8 e9 e12 e13 ⊢
  rw [laws_FnChecksums.j6, e1, Option.bind_some]
  dsimp only
  rw [e2, Option.bind_some, e3, Option.bind_some, e4, Option.bind_some, e5, Option.bind_some, e6, Option.bind_some, e7, Option.bind_some, e8, Option.bind_some, e9, Option.bind_some, e10, Option.bind_some, e11, Option.bind_some, e12, Option.bind_some]
  rw [if_pos (by simp), e13, Option.bind_some, if_pos rfl, if_pos (by simp), if_pos (by simp), if_pos (by simp), if_pos rfl, if_pos (by simp)]
  simp
theorem law_l2 {x1 : List Int} (l : List S33) (t n : Int) (T : List Int) (m : Int) (R : Bool) (next : Ev (fun k => laws_FnChecksums.l1 k x1 l T m (wrap64 (t + 1))) R) (suf : List S33) : ∀ (pre : List S33) (u : Bool), (pre ++ suf).length ≤ 1048576 → (u = false → (∀ x ∈ suf, x.f0 ≠ t) → n = 1) →
    Ev (fun k => laws_FnChecksums.l2 k x1 l t n u T m t (pre ++ suf) ((pre ++ suf).length : Int) (pre.length : Int)) R := by
  induction suf with
  | nil =>
    intro pre u _ h
    cases u with
    | true => exact ev_step next (fun k => by rw [laws_FnChecksums.l2, if_neg (by simp), if_pos rfl])
    | false => exact ev_step next (fun k => by rw [laws_FnChecksums.l2, if_neg (by simp), if_neg (by simp), if_pos (h rfl (by simp))])
  | cons x suf ih =>
    intro pre u hl h
    have hl' : (pre.length : Int) < ((pre ++ x :: suf).length : Int) := by simp; omega
    have hw : wrap64 ((pre.length : Int) + 1) = (pre.length : Int) + 1 := wrapS (by omega) (by simp at hl; omega)
    cases u with
    | true =>
      have h2 := ih (pre ++ [x]) true (by simp at hl ⊢; omega) (by simp)
      rw [snoc_app, snoc_leni] at h2
      exact ev_step h2 (fun k => by rw [laws_FnChecksums.l2, if_pos hl', if_pos (by omega), if_pos hl', if_pos rfl, hw])
    | false =>
      have h2 := ih (pre ++ [x]) (x.f0 == t) (by simp at hl ⊢; omega) (fun e q => h rfl (fun y hy => by
        rcases List.mem_cons.1 hy with rfl | z
        · exact fun e2 => by rw [e2] at e; simp at e
        · exact q y z))
      rw [snoc_app, snoc_leni] at h2
      exact ev_step h2 (fun k => by rw [laws_FnChecksums.l2, if_pos hl', if_pos (by omega), if_pos hl', if_neg (by simp), rdH_mid, hw])
theorem law_l1 {x1 : List Int} (hb : bytesOk x1) (l : List S33) (g : good l = true) (suf : List Int) : ∀ pre : List Int, pre ++ suf = trackSums l 20 0 →
    Ev (fun k => laws_FnChecksums.l1 k x1 l (pre ++ suf) ((pre ++ suf).length : Int) (pre.length : Int)) true := by
  have hlen := trackSums_len l 20 0
  have hl60 := good_len l g
  induction suf with
  | nil =>
    intro pre _
    exact ev_step (law_j6 hb) (fun k => by rw [laws_FnChecksums.l1, if_neg (by simp)])
  | cons x suf ih =>
    intro pre he
    have hp : (pre ++ x :: suf).length = 20 := by rw [he]; exact hlen
    have hp2 : pre.length < 20 := by simp at hp; omega
    have h := ih (pre ++ [x]) (by rw [snoc_app]; exact he)
    rw [snoc_app, snoc_leni] at h
    have hl' : (pre.length : Int) < ((pre ++ x :: suf).length : Int) := by simp; omega
    have hw : wrap64 ((pre.length : Int) + 1) = (pre.length : Int) + 1 := wrapS (by omega) (by omega)
    have hx : x = sumOf 1 (ownOf (pre.length : Int) l) := by
      have := trackSums_get l 20 0 pre.length hp2
      rw [← he, List.getD_eq_getElem?_getD, List.getElem?_append_right (Nat.le_refl _)] at this
      simpa using this
    have hb2 := trackSums_all l ((good_iff l).1 g).1 20 0 x (by rw [← he]; simp)
    have h2 := law_l2 (x1 := x1) l (pre.length : Int) x (pre ++ x :: suf) ((pre ++ x :: suf).length : Int) true (by rw [hw]; exact h) l [] false (by simp; omega) (fun _ q => by
      have : ownOf (pre.length : Int) l = [] := by
        unfold ownOf
        refine List.filter_eq_nil_iff.2 (fun y hy => ?_)
        have := q y hy
        simp [impl_TrackChecksums.out, this]
      rw [hx, this]; rfl)
    simp only [List.nil_append, List.length_nil, Int.natCast_zero] at h2
    have h4 : Ev (fun k => laws_FnChecksums.j4 k x1 l (pre.length : Int) x (pre ++ x :: suf) ((pre ++ x :: suf).length : Int) (pre.length : Int) false) true := ev_step h2 (fun k => by rw [laws_FnChecksums.j4, if_neg (by simp)])
    refine ev_step h4 (fun k => ?_)
    rw [laws_FnChecksums.l1, if_pos hl', if_pos (by omega), if_pos hl', rd_mid, if_neg (by omega), decide_eq_false (by omega)]
theorem law_j2 {x1 : List Int} (hb : bytesOk x1) (l : List S33) (g : good l = true) : Ev (fun k => laws_FnChecksums.j2 k x1 l (trackSums l 20 0) false) true := by
  have h := law_l1 hb l g (trackSums l 20 0) [] (by simp)
  exact ev_step h (fun k => by rw [laws_FnChecksums.j2, if_neg (by simp)]; rfl)
theorem law_l0 {x1 : List Int} (hb : bytesOk x1) (l : List S33) (g : good l = true) (suf : List S33) : ∀ (pre : List S33) (now : Int), pre ++ suf = l → 0 ≤ now → now ≤ 1000002 → sumOf now suf = sumOf 1 l →
    Ev (fun k => laws_FnChecksums.l0 k x1 l (sumOf 1 l) (sumOf 1 l) (trackSums l 20 0) (trackSums l 20 0) now (pre ++ suf) ((pre ++ suf).length : Int) (pre.length : Int)) true := by
  have hl60 := good_len l g
  have hok := ((good_iff l).1 g).1
  induction suf with
  | nil =>
    intro pre now _ _ _ hs
    have hn : now = sumOf 1 l := hs
    obtain ⟨c0, c1⟩ := sumOf_lt l 1 (by omega) (by omega) hok
    obtain ⟨n, hN⟩ : ∃ n : Nat, sumOf 1 l = n := ⟨(sumOf 1 l).toNat, by omega⟩
    obtain ⟨K1, e1⟩ := read_back n (by omega)
    obtain ⟨K2, e2⟩ := implDiff_ok (trackSums l 20 0) (trackSums l 20 0) (by rw [trackSums_len]; omega) (by rw [trackSums_len]; omega)
    obtain ⟨K3, e3⟩ := law_j2 hb l g
    have hd : diffs (trackSums l 20 0) (trackSums l 20 0) = ([], true) := by rw [diffs, tracks_good l g, partAt_self]; rfl
    rw [hd] at e2
    have e4 : impl_ChecksumText.f (n : Int) = some ((⟨(DoorLib.tailDigits 7 n).toArray⟩ : ByteArray), true) := by rw [implText_ok, ckR, if_pos (by omega)]; rfl
    have hz := ck_size n
    have h20 : (((trackSums l 20 0).length : Int) != 20) = false := by rw [trackSums_len]; rfl
    rw [hn, hN]
    refine ⟨K1 + K2 + K3 + 1, fun k hk => ?_⟩
    obtain ⟨q, rfl⟩ : ∃ q, k = q + 1 := ⟨k - 1, by omega⟩
    have e1 := e1 q (by omega)
    have e2 := e2 q (by omega)
    have e3 := e3 q (by omega)
    dsimp only at e1 e2 e3 ⊢
    rw [laws_FnChecksums.l0, if_neg (by simp), e4, Option.bind_some]
    dsimp only
    rw [e1, Option.bind_some, e2, Option.bind_some, if_pos rfl, if_pos rfl, hz, if_pos (show ((7 : Nat) : Int) = 7 from rfl), if_pos rfl, if_pos rfl, if_pos rfl, if_neg (by simp), h20]
    exact e3
  | cons x suf ih =>
    intro pre now he h0 h1 hs
    have hlen : (pre ++ x :: suf).length ≤ 60 := by rw [he]; exact hl60
    have gx := hok x (by rw [← he]; simp)
    obtain ⟨c0, c1⟩ := ck_lt now x.f0 x.f1 x.f2 h0 h1 gx
    have h := ih (pre ++ [x]) (ck now x.f0 x.f1 x.f2) (by rw [snoc_app]; exact he) c0 c1 (by rw [← hs]; rfl)
    rw [snoc_app, snoc_leni] at h
    have hl' : (pre.length : Int) < ((pre ++ x :: suf).length : Int) := by simp; omega
    have hw : wrap64 ((pre.length : Int) + 1) = (pre.length : Int) + 1 := wrapS (by omega) (by omega)
    obtain ⟨n1, n2, n3⟩ := number_ok x.f0 x.f1 x.f2 gx
    have e1 := extend_yes now x.f0 x.f1 x.f2 h0 h1 gx
    refine ev_step h (fun k => ?_)
    rw [laws_FnChecksums.l0, if_pos hl', if_pos (by omega), if_pos hl', rdH_mid, extend_same, e1, Option.bind_some, Option.bind_some, n2, Option.bind_some, n1, Option.bind_some]
    dsimp only
    rw [n3, Option.bind_some, if_pos rfl, if_pos rfl, if_pos rfl, if_pos rfl, if_pos rfl, if_pos rfl, if_pos rfl, if_neg (by simp), hw]
theorem law_j0 {x1 : List Int} (hb : bytesOk x1) (l : List S33) : Ev (fun k => laws_FnChecksums.j0 k x1 l (if good l = true then (sumOf 1 l, true) else (0, false)).1 (if good l = true then (sumOf 1 l, true) else (0, false)).2 (if good l = true then (sumOf 1 l, true) else (0, false)).1 (tracksR l).1 (tracksR l).1 false) true := by
  by_cases g : good l = true
  · have t1 : tracksR l = (trackSums l 20 0, true) := by rw [tracksR, if_pos g]
    have h := law_l0 hb l g l [] 1 rfl (by omega) (by omega) rfl
    rw [if_pos g, t1]
    refine ev_step h (fun k => ?_)
    rw [laws_FnChecksums.j0, if_neg (by simp), if_pos rfl]
    rfl
  · rw [if_neg g]
    refine ev_step (law_j6 hb) (fun k => ?_)
    rw [laws_FnChecksums.j0, if_neg (by simp), if_neg (by simp)]
set_option maxHeartbeats 4000000 in
theorem FnChecksums : laws_FnChecksums.Pure := by
  intro l0 l1 hm0 hb0 hw0 hm1 hb1 hw1
  by_cases big : (l0.length : Int) > 1048576
  · exact ⟨0, by rw [laws_FnChecksums.f, laws_big.f, if_pos big, Option.bind_some, if_pos rfl]⟩
  have eb : laws_big.f l0 l1 = some (decide ((l1.length : Int) > wrap64 (1048576 - (l0.length : Int)))) := by rw [laws_big.f, if_neg big]
  cases hbig : decide ((l1.length : Int) > wrap64 (1048576 - (l0.length : Int))) with
  | true => exact ⟨0, by rw [laws_FnChecksums.f, eb, hbig, Option.bind_some, if_pos rfl]⟩
  | false =>
  rw [hbig] at eb
  obtain ⟨l, ⟨K1, e1⟩, hl⟩ := drawSum_ok (u8_bytes hw0)
  obtain ⟨K2, e2⟩ := implChecksumOf_ok l (by omega)
  obtain ⟨K3, e3⟩ := specChecksumOf_ok l (by omega)
  obtain ⟨K4, e4⟩ := implTracks_ok l (by omega)
  obtain ⟨K5, e5⟩ := specTracks_ok l (by omega)
  obtain ⟨K6, e6⟩ := sameInts_ok (tracksR l).1 (by have := tracksR_len l; omega)
  obtain ⟨K7, e7⟩ := law_j0 (u8_bytes hw1) l
  have hsame : (tracksR l).2 = (if good l = true then (sumOf 1 l, true) else ((0 : Int), false)).2 := by
    unfold tracksR
    by_cases g : good l = true
    · rw [if_pos g, if_pos g]
    · rw [if_neg g, if_neg g]
  dsimp only at e1 e2 e3 e4 e5 e6 e7
  refine ⟨K1 + K2 + K3 + K4 + K5 + K6 + K7, ?_⟩
  generalize hK : K1 + K2 + K3 + K4 + K5 + K6 + K7 = k
  rw [laws_FnChecksums.f, eb, Option.bind_some, if_neg (by simp), e1 k (by omega), Option.bind_some, e2 k (by omega), Option.bind_some, e3 k (by omega), Option.bind_some, e4 k (by omega), Option.bind_some, e5 k (by omega), Option.bind_some, if_neg (ne2 _), if_pos rfl, if_neg (ne2 _), e6 k (by omega), Option.bind_some, if_pos rfl, hsame, show ∀ x : Bool, (x != x) = false from fun x => by simp]
  exact e7 k (by omega)

end Go.Proofs.YtpbffmjjhmllbaaDoor.Pure
