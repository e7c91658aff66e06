/- Plain lemmas on what the printed functions of this law compute; each with the conditions that it names. -/
import Derived.Test.YtpbffmjjhmllbaaDoorQFnChecksumsx12
import Derived.Test.YtpbffmjjhmllbaaDoorQFnChecksumsx13
import Derived.Test.YtpbffmjjhmllbaaDoorBaseH
import Derived.Test.YtpbffmjjhmllbaaDoorLFnChecksumsA
namespace Go.Proofs.YtpbffmjjhmllbaaDoor.LFnChecksumsB
open Go Go.RowKit Go.Proofs.YtpbffmjjhmllbaaDoor.QFnChecksums Go.Proofs.YtpbffmjjhmllbaaDoorW.PrintWords Go.Proofs.YtpbffmjjhmllbaaDoorW.PrintLast Go.Proofs.YtpbffmjjhmllbaaDoorW.PrintMore Go.Proofs.YtpbffmjjhmllbaaDoor.Base Go.Proofs.YtpbffmjjhmllbaaDoor.LFnChecksumsA
set_option linter.unusedVariables false
set_option linter.unusedSimpArgs false

/-! the draws of checksums -/
theorem rdB_mem {xs : List ByteArray} (r : Int) (h0 : 0 ≤ r) (h1 : r < xs.length) : rdOf ByteArray.empty xs r ∈ xs := by
  obtain ⟨n, rfl⟩ : ∃ n : Nat, r = n := ⟨r.toNat, by omega⟩
  rw [rdOf, List.getD_eq_getElem?_getD, Int.toNat_natCast, List.getElem?_eq_getElem (by omega)]
  exact List.getElem_mem _
theorem of_ok {l : List Int} (hb : bytesOk l) (p s : Int) (xs : List ByteArray) (hx : 1 ≤ xs.length) (h0 : 0 ≤ p) (h2 : p ≤ 3000000000000000000) : ∃ r p' s', spec_l1Cur_of.f l p s xs = some (r, p', s') ∧ r ∈ xs ∧ p ≤ p' ∧ p' ≤ p + 2 := by
  obtain ⟨r, p', s', e, r0, r1, q0, q1⟩ := pick_ok hb p s (xs.length : Int) h0 h2
  have r1 := r1 (by omega)
  refine ⟨rdOf ByteArray.empty xs r, p', s', ?_, rdB_mem r r0 r1, q0, q1.1⟩
  rw [spec_l1Cur_of.f, e]
  simp only [Option.bind_some]
  rw [if_pos r0, if_pos r1]
theorem ext_size (s : ByteArray) (a b : Nat) : (s.extract a b).size ≤ s.size := by
  rw [ByteArray.size_extract]; omega
theorem one_num (x : Int) : (strOfNums [x]).size = 1 := by
  simp [strOfNums, ByteArray.size]
theorem spoilt_l0 {l : List Int} (hb : bytesOk l) (al : ByteArray) (ha : 1 ≤ al.size) (ha2 : al.size ≤ 1000) (d : Nat) : ∀ (t : ByteArray) (p s : Int), d ≤ 100 → t.size ≤ 1000 - 2 * d → 0 ≤ p → p + 10 * d ≤ 100000000000000000 →
    ∃ r p' s', Ev (fun k => spec_l1Cur_spoilt.l0 k t al (d : Int) l p s) (r, p', s') ∧ r.size ≤ 1000 := by
  have stop : ∀ (t : ByteArray) (n p s : Int), Ev (fun k => spec_l1Cur_spoilt.j1 k t al n false l p s) (t, p, s) := fun t n p s => ev_step (f := fun _ => some _) (Ev.now _) (fun k => by rw [spec_l1Cur_spoilt.j1, if_neg (by simp)])
  induction d with
  | zero =>
    intro t p s hd ht h0 h2
    exact ⟨t, p, s, ev_step (stop t _ p s) (fun k => by rw [spec_l1Cur_spoilt.l0, if_neg (by omega)]), by omega⟩
  | succ d ih =>
    intro t p s hd ht h0 h2
    by_cases hs : (t.size : Int) > 0
    · obtain ⟨i, p1, s1, e1, i0, i1, a1, b1⟩ := pick_ok hb p s (t.size : Int) h0 (by omega)
      have i1 := i1 (by omega)
      obtain ⟨j, p2, s2, e2, j0, j1, a2, b2⟩ := pick_ok hb p1 s1 (al.size : Int) (by omega) (by omega)
      have j1 := j1 (by omega)
      obtain ⟨c, p3, s3, e3, c0, c1, a3, b3⟩ := pick_ok hb p2 s2 3 (by omega) (by omega)
      have hw : wrap64 (((d + 1 : Nat) : Int) - 1) = (d : Int) := by rw [wrapS (by omega) (by omega)]; omega
      have hwi : wrap64 (i + 1) = i + 1 := wrapS (by omega) (by omega)
      have hn := one_num (bt al j)
      have x1 := ext_size t 0 i.toNat
      have x2 := ext_size t i.toNat t.size
      have x3 := ext_size t (i + 1).toNat t.size
      have y1 : (t.extract 0 i.toNat).size = i.toNat := by rw [ByteArray.size_extract]; omega
      have y2 : (t.extract i.toNat t.size).size = t.size - i.toNat := by rw [ByteArray.size_extract]; omega
      have y3 : (t.extract (i + 1).toNat t.size).size = t.size - (i + 1).toNat := by rw [ByteArray.size_extract]; omega
      by_cases c2 : c = 0
      · obtain ⟨r, p', s', e4, hr⟩ := ih (((t.extract 0 (i : Int).toNat) ++ (strOfNums [bt al j])) ++ (t.extract (i : Int).toNat t.size)) p3 s3 (by omega) (by rw [ByteArray.size_append, ByteArray.size_append]; omega) (by omega) (by omega)
        refine ⟨r, p', s', ev_step (ev_step e4 (fun k => ?_)) (fun k => by rw [spec_l1Cur_spoilt.l0, if_pos (by omega), decide_eq_true hs]), hr⟩
        rw [spec_l1Cur_spoilt.j1, if_pos rfl, e1, Option.bind_some]
        dsimp only
        rw [e2, Option.bind_some, if_pos j0, if_pos j1]
        simp only [Option.bind_some]
        rw [e3, Option.bind_some, if_pos c2, if_pos i0, if_pos (by omega), if_pos (by omega), if_pos (by rw [ByteArray.size_append]; omega), hw]
      · by_cases c3 : c = 1
        · obtain ⟨r, p', s', e4, hr⟩ := ih (((t.extract 0 (i : Int).toNat) ++ (strOfNums [bt al j])) ++ (t.extract (i + 1 : Int).toNat t.size)) p3 s3 (by omega) (by rw [ByteArray.size_append, ByteArray.size_append]; omega) (by omega) (by omega)
          refine ⟨r, p', s', ev_step (ev_step e4 (fun k => ?_)) (fun k => by rw [spec_l1Cur_spoilt.l0, if_pos (by omega), decide_eq_true hs]), hr⟩
          rw [spec_l1Cur_spoilt.j1, if_pos rfl, e1, Option.bind_some]
          dsimp only
          rw [e2, Option.bind_some, if_pos j0, if_pos j1]
          simp only [Option.bind_some]
          rw [e3, Option.bind_some, if_neg c2, if_pos c3, if_pos i0, if_pos (by omega), if_pos (by omega), hwi, if_pos (by omega), if_pos (by omega), if_pos (by rw [ByteArray.size_append]; omega), hw]
        · obtain ⟨r, p', s', e4, hr⟩ := ih ((t.extract 0 (i : Int).toNat) ++ (t.extract (i + 1 : Int).toNat t.size)) p3 s3 (by omega) (by rw [ByteArray.size_append]; omega) (by omega) (by omega)
          refine ⟨r, p', s', ev_step (ev_step e4 (fun k => ?_)) (fun k => by rw [spec_l1Cur_spoilt.l0, if_pos (by omega), decide_eq_true hs]), hr⟩
          rw [spec_l1Cur_spoilt.j1, if_pos rfl, e1, Option.bind_some]
          dsimp only
          rw [e2, Option.bind_some, if_pos j0, if_pos j1]
          simp only [Option.bind_some]
          rw [e3, Option.bind_some, if_neg c2, if_neg c3, if_pos i0, if_pos (by omega), hwi, if_pos (by omega), if_pos (by omega), if_pos (by omega), hw]
    · refine ⟨t, p, s, ev_step (stop t ((d + 1 : Nat) : Int) p s) (fun k => ?_), by omega⟩
      rw [spec_l1Cur_spoilt.l0, if_pos (by omega), decide_eq_false hs]
theorem spoilt_ok {l : List Int} (hb : bytesOk l) (al t : ByteArray) (ha : 1 ≤ al.size) (ha2 : al.size ≤ 1000) (ht : t.size ≤ 900) (p s : Int) (h0 : 0 ≤ p) (h2 : p ≤ 10000000000000000) : ∃ r p' s', Ev (fun k => spec_l1Cur_spoilt.f k l p s t al) (r, p', s') ∧ r.size ≤ 1000 := by
  obtain ⟨n, p1, s1, e1, n0, n1, a1, b1⟩ := pick_ok hb p s 2 h0 (by omega)
  have n1 := n1 (by omega)
  obtain ⟨d, hd⟩ : ∃ d : Nat, wrap64 (1 + n) = (d : Int) := ⟨(1 + n).toNat, by rw [wrapS (by omega) (by omega)]; omega⟩
  have hd2 : d ≤ 2 := by rw [wrapS (by omega) (by omega)] at hd; omega
  obtain ⟨r, p', s', e2, hr⟩ := spoilt_l0 hb al ha ha2 d t p1 s1 (by omega) (by omega) (by omega) (by omega)
  refine ⟨r, p', s', Ev.congr (fun k => ?_) e2, hr⟩
  rw [spec_l1Cur_spoilt.f, e1, Option.bind_some]
  dsimp only
  rw [hd]
theorem ckDraw_ok {l : List Int} (hb : bytesOk l) (p s : Int) (h0 : 0 ≤ p) (h2 : p ≤ 100000000000000000) : ∃ r p' s', spec_l1Cur_checksum.f l p s = some (r, p', s') ∧ p ≤ p' ∧ p' ≤ p + 6 := by
  obtain ⟨x, p1, s1, e1, _, _, a1, b1⟩ := pick_ok hb p s 60000 h0 (by omega)
  obtain ⟨y, p2, s2, e2, _, a2, b2⟩ := among_ok hb p1 s1 [1000003, (-1)] (by simp) (by omega) (by omega)
  obtain ⟨z, p3, s3, e3, _, a3, b3⟩ := among_ok hb p2 s2 [0, 1, 31, x, 1000002, y] (by simp) (by omega) (by omega)
  refine ⟨z, p3, s3, ?_, by omega, by omega⟩
  rw [spec_l1Cur_checksum.f, e1, Option.bind_some]
  dsimp only
  rw [e2, Option.bind_some]
  dsimp only
  rw [e3, Option.bind_some]
theorem drawSum_ok {l : List Int} (hb : bytesOk l) : ∃ r, Ev (fun k => spec_DrawChecksumOf.f k l) r ∧ r.length ≤ 61 := by
  obtain ⟨r, p, s, e, hr, _, _⟩ := anySheet_ok hb 0 0 (by omega) (by omega)
  exact ⟨r, Ev.bind e (ev_of_eq (fun _ => rfl)), hr⟩
theorem wrap_lt (x : Int) : -9223372036854775808 ≤ wrap64 x ∧ wrap64 x ≤ 9223372036854775807 := by unfold wrap64; omega
theorem drawNumber_ok {l : List Int} (hb : bytesOk l) : ∃ n, spec_DrawHoleOfNumber.f l = some n ∧ -9223372036854775808 ≤ n ∧ n ≤ 9223372036854775807 := by
  obtain ⟨a, b, c, p1, s1, e1, a1, b1⟩ := hole_ok hb 0 0 (by omega) (by omega)
  obtain ⟨u, p2, s2, e2, _, _, a2, b2⟩ := pick_ok hb p1 s1 5 (by omega) (by omega)
  obtain ⟨v, p3, s3, e3, v0, v1, a3, b3⟩ := pick_ok hb p2 s2 60000 (by omega) (by omega)
  have v1 := v1 (by omega)
  obtain ⟨t, ht⟩ : ∃ t, t = wrap64 (wrap64 (wrap64 (4004001 * a) + wrap64 (2001 * b)) + c) := ⟨_, rfl⟩
  have e4 : spec_ckNumber.f a b c = some t := by rw [ht]; rfl
  obtain ⟨n, p4, s4, e5, hn, _, _⟩ := among_ok hb p3 s3 [t, t, wrap64 ((wrap64 (t + u)) - 2), 0, 1, (-1), 80080020, v] (by simp) (by omega) (by omega)
  refine ⟨n, ?_, ?_⟩
  · rw [spec_DrawHoleOfNumber.f, e1, Option.bind_some]
    dsimp only
    rw [e4, Option.bind_some, e2, Option.bind_some]
    dsimp only
    rw [e3, Option.bind_some]
    dsimp only
    rw [e5, Option.bind_some]
  · have w1 := wrap_lt (wrap64 (wrap64 (4004001 * a) + wrap64 (2001 * b)) + c)
    rw [← ht] at w1
    have w2 := wrap_lt ((wrap64 (t + u)) - 2)
    simp only [List.mem_cons, List.not_mem_nil, or_false] at hn
    rcases hn with rfl | rfl | rfl | rfl | rfl | rfl | rfl | rfl <;> omega
theorem drawText_ok {l : List Int} (hb : bytesOk l) : ∃ n, spec_DrawChecksumText.f l = some n := by
  obtain ⟨z, p, s, e, _, _⟩ := ckDraw_ok hb 0 0 (by omega) (by omega)
  exact ⟨z, by rw [spec_DrawChecksumText.f, e, Option.bind_some]⟩
theorem drawRead_ok {l : List Int} (hb : bytesOk l) : ∃ t, Ev (fun k => spec_DrawReadChecksum.f k l) t ∧ t.size ≤ 1048576 := by
  obtain ⟨z, p1, s1, e1, a1, b1⟩ := ckDraw_ok hb 0 0 (by omega) (by omega)
  have e2 := ckIs_is z
  by_cases h : 0 ≤ z ∧ z < 1000003
  · obtain ⟨n, rfl⟩ : ∃ n : Nat, z = n := ⟨z.toNat, by omega⟩
    obtain ⟨K1, e3⟩ := cktext_ev n (by omega)
    have hz := ck_size n
    obtain ⟨c, p2, s2, e4, a2, b2⟩ := one_ok hb p1 s1 3 (by omega) (by omega)
    cases c with
    | true =>
      obtain ⟨r, p3, s3, ⟨K2, e5⟩, hr⟩ := spoilt_ok hb (⟨#[48, 49, 57, 120]⟩ : ByteArray) (⟨(DoorLib.tailDigits 7 n).toArray⟩ : ByteArray) (by show 1 ≤ 4; omega) (by show 4 ≤ 1000; omega) (by omega) p2 s2 (by omega) (by omega)
      refine ⟨r, ⟨K1 + K2, fun k hk => ?_⟩, by omega⟩
      have e3 := e3 k (by omega)
      have e5 := e5 k (by omega)
      dsimp only at e3 e5 ⊢
      rw [spec_DrawReadChecksum.f, e1, Option.bind_some]
      dsimp only
      rw [e2, decide_eq_true h, Option.bind_some, if_pos rfl, e3, Option.bind_some, e4, Option.bind_some, if_pos rfl, e5, Option.bind_some]
    | false =>
      refine ⟨_, ⟨K1, fun k hk => ?_⟩, by rw [hz]; omega⟩
      have e3 := e3 k (by omega)
      dsimp only at e3 ⊢
      rw [spec_DrawReadChecksum.f, e1, Option.bind_some]
      dsimp only
      rw [e2, decide_eq_true h, Option.bind_some, if_pos rfl, e3, Option.bind_some, e4, Option.bind_some, if_neg (by simp)]
  · obtain ⟨r, p2, s2, e3, hr, _, _⟩ := of_ok hb p1 s1 [(⟨#[]⟩ : ByteArray), (⟨#[49]⟩ : ByteArray), (⟨#[49, 48, 48, 48, 48, 48, 51]⟩ : ByteArray), (⟨#[48, 48, 48, 48, 48, 48, 48, 49]⟩ : ByteArray), (⟨#[48, 48, 48, 48, 48, 48, 120]⟩ : ByteArray), (⟨#[49, 48, 48, 48, 48, 48, 50]⟩ : ByteArray)] (by simp) (by omega) (by omega)
    refine ⟨r, ev_of_eq (fun k => ?_), ?_⟩
    · rw [spec_DrawReadChecksum.f, e1, Option.bind_some]
      dsimp only
      rw [e2, decide_eq_false h, Option.bind_some, if_neg (by simp), e3, Option.bind_some]
    · simp only [List.mem_cons, List.not_mem_nil, or_false] at hr
      rcases hr with rfl | rfl | rfl | rfl | rfl | rfl <;> (simp [ByteArray.size])
theorem drawTracks_ok {l : List Int} (hb : bytesOk l) : ∃ a b, Ev (fun k => spec_DrawDifferentTracks.f k l) (a, b) ∧ a.length ≤ 20 ∧ b.length ≤ 20 := by
  obtain ⟨x, p1, s1, ⟨K1, e1⟩, ⟨hx, gx⟩, a1, b1⟩ := sheet_ok hb 0 0 (by omega) (by omega)
  obtain ⟨y, p2, s2, ⟨K2, e2⟩, ⟨hy, gy⟩, a2, b2⟩ := changed_ok hb p1 s1 x (by omega) (by omega) (by omega)
  have gy := gy gx
  obtain ⟨K3, e3⟩ := specTracks_ok x (by omega)
  obtain ⟨K4, e4⟩ := specTracks_ok y (by omega)
  have t1 : tracksR x = (trackSums x 20 0, true) := by rw [tracksR, if_pos gx]
  have t2 : tracksR y = (trackSums y 20 0, true) := by rw [tracksR, if_pos gy]
  have l1 := trackSums_len x 20 0
  have l2 := trackSums_len y 20 0
  rw [t1] at e3
  rw [t2] at e4
  generalize trackSums x 20 0 = A at e3 l1
  generalize trackSums y 20 0 = B at e4 l2
  obtain ⟨c, p3, s3, e5, _, _, a3, b3⟩ := pick_ok hb p2 s2 16 (by omega) (by omega)
  obtain ⟨z, p4, s4, e6, _, _⟩ := ckDraw_ok hb p3 s3 (by omega) (by omega)
  have start : ∀ k, K1 + K2 + K3 + K4 ≤ k → spec_DrawDifferentTracks.f k l = (if c = 0 then (if 1 ≤ (A.length : Int) then (some ((A.drop (1 : Int).toNat), B)) else (none)) else (if c = 1 then (some (A, B.set (0 : Int).toNat z)) else (some (A, B)))) := by
    intro k hk
    have e1 := e1 k (by omega)
    have e2 := e2 k (by omega)
    have e3 := e3 k (by omega)
    have e4 := e4 k (by omega)
    dsimp only at e1 e2 e3 e4
    rw [spec_DrawDifferentTracks.f, e1, Option.bind_some]
    dsimp only
    rw [e3, Option.bind_some]
    dsimp only
    rw [e2, Option.bind_some]
    dsimp only
    rw [e4, Option.bind_some]
    dsimp only
    rw [e5, Option.bind_some, e6, Option.bind_some, if_pos (show (0 : Int) < (B.length : Int) by omega)]
  by_cases c0 : c = 0
  · refine ⟨A.drop (1 : Int).toNat, B, ⟨K1 + K2 + K3 + K4, fun k hk => ?_⟩, by simp; omega, by omega⟩
    dsimp only
    rw [start k hk, if_pos c0, if_pos (by omega)]
  · by_cases c1 : c = 1
    · refine ⟨A, B.set (0 : Int).toNat z, ⟨K1 + K2 + K3 + K4, fun k hk => ?_⟩, by omega, by simp; omega⟩
      dsimp only
      rw [start k hk, if_neg c0, if_pos c1]
    · refine ⟨A, B, ⟨K1 + K2 + K3 + K4, fun k hk => ?_⟩, by omega, by omega⟩
      dsimp only
      rw [start k hk, if_neg c0, if_neg c1]

end Go.Proofs.YtpbffmjjhmllbaaDoor.LFnChecksumsB
