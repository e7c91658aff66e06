/- Written by a program of this session (the kit's printer, with leaf contracts proved by hand put in): what each Go function computes, and that the call computes it. No condition but those that each theorem names. -/
import Derived.Test.YtkkhcemkppmgdaaDoorQFnPartsx0
import Derived.Test.YtkkhcemkppmgdaaDoorQFnPartsx4
namespace Go.Proofs.YtkkhcemkppmgdaaDoor.QFnParts
open Go.RowKit Go.Proofs.YtkkhcemkppmgdaaDoorW.PrintWords Go.Proofs.YtkkhcemkppmgdaaDoorW.PrintLast Go.Proofs.YtkkhcemkppmgdaaDoorW.PrintMore
attribute [local go_sem] max2_int min2_int max_two min_two max_three min_three max_four min_four   -- for this text's walks alone
set_option linter.unusedVariables false
set_option linter.unusedSimpArgs false

/-! ### impl_PartsText: function 39 (by hand: a text in a strings.Builder) -/
def impl_PartsText.line (x : S93) : List UInt8 := DoorLib.wordsOf [x.f0, x.f1, x.f2] ++ [10]
def impl_PartsText.ok (x : S93) : Bool := decide (-9223372036854775808 ≤ x.f0 ∧ x.f0 ≤ 9223372036854775807) && decide (-9223372036854775808 ≤ x.f1 ∧ x.f1 ≤ 9223372036854775807) && decide (-9223372036854775808 ≤ x.f2 ∧ x.f2 ≤ 9223372036854775807)
def impl_PartsText.f (k : Nat) (l0 : List S93) : Option (ByteArray × Bool) := (impl_isEdition.f k l0).bind fun t => (if t = true then (if l0.all impl_PartsText.ok = true then (if l0.length ≤ 1000000 then (some (⟨(l0.flatMap impl_PartsText.line).toArray⟩, true)) else none) else none) else (some ((⟨#[]⟩ : ByteArray), false)))
theorem impl_PartsText.mono : ∀ a0 k, LeO (impl_PartsText.f k a0) (impl_PartsText.f (k + 1) a0) := by
 intro a0 k
 unfold impl_PartsText.f
 repeat' first
  |(with_reducible exact impl_isEdition.mono _ _)
  |(with_reducible exact LeO.refl _)
  |(with_reducible exact LeO.none _)
  |(with_reducible refine LeO.ite ?_ ?_)
  |(with_reducible refine LeO.bind ?_ (fun _ => ?_))
theorem impl_PartsText.line_len (x : S93) (h : impl_PartsText.ok x = true) : (impl_PartsText.line x).length ≤ 67 := by
 simp only [impl_PartsText.ok, Bool.and_eq_true, decide_eq_true_eq] at h
 have := DoorLib.len_words [x.f0, x.f1, x.f2] (by simp) (by
  intro n hn
  simp only [List.mem_cons, List.not_mem_nil, or_false] at hn
  rcases hn with rfl | rfl | rfl
  ·exact h.1.1
  ·exact h.1.2
  ·exact h.2)
 rw [impl_PartsText.line, List.length_append]
 simp only [List.length_cons, List.length_nil]
 omega
theorem impl_PartsText.text_len (l : List S93) (h : l.all impl_PartsText.ok = true) : (l.flatMap impl_PartsText.line).length ≤ 67 * l.length := by
 induction l with
 | nil => simp
 | cons x r ih =>
  simp only [List.all_cons, Bool.and_eq_true] at h
  have := ih h.2
  have := impl_PartsText.line_len x h.1
  simp only [List.flatMap_cons, List.length_append, List.length_cons]
  omega
theorem impl_PartsText.cell_below {w W : World} {p : Addr} {v : Value} (h : w.cell? p = some v) (hb : Below w.heap.size w W) : W.cell? p = some v := (hb.cell (World.block_lt_of_cell? w p h)).trans h
set_option maxHeartbeats 8000000 in
set_option maxRecDepth 100000 in
theorem impl_PartsText.calls (k : Nat) (A0 : Option Addr) (c0 : Nat) (l0 : List S93) (r1 : ByteArray) (r2 : Bool) (w : World) (hr0 : Kd.C k93 w A0 l0.length l0) (hc0 : l0.length ≤ c0) (htab : DoorLib.Tab w) (h : impl_PartsText.f k l0 = some (r1, r2)) :
 Calls Tryd.prog 39 #[.slice A0 l0.length c0] w fun e w' => e = .returned (.tuple #[.string r1, .bool r2]) ∧ Below w.heap.size w w' := by
 have HR0 := Aside0.mk hr0
 have H := Option.bind_eq_some_iff.mp h
 clear h
 obtain ⟨t, a0, H⟩ := H
 by_cases ht : t = true
 ·subst ht
  simp only [if_true] at H
  by_cases hok : l0.all impl_PartsText.ok = true
  ·rw [if_pos hok] at H
   by_cases hlen : l0.length ≤ 1000000
   ·rw [if_pos hlen] at H
    have HH := Aside0.mk (Option.some.inj H)
    clear H
    go_enter Tryd.func39, Tryd.ntmps39
    go_wp2_with (go_at_call 83; refine (impl_isEdition.calls k A0 c0 l0 true _ hr0 hc0 a0).mono ?_; rintro e w1 ⟨rfl, hb1⟩)
    go_loopw [12] (fun i wr => ∃ q : Nat, q ≤ l0.length ∧ i = .int .i64 q ∧ Lib.IsBuilder 100 5 w1.heap.size w1.heap.size (Lib.byteCells ((l0.take q).flatMap impl_PartsText.line)) wr ∧ Below w1.heap.size w1 wr)
     (fun i _ => l0.length - (intOf i).toNat)
    case atStart => exact ⟨0, Nat.zero_le _, rfl, Lib.fresh_isBuilder 100 5 w1, below_alloc (Below.refl _ w1) _⟩
    case round =>
     obtain ⟨q, hq, rfl, hB, hb⟩ := hrel
     by_cases hlt : q < l0.length
     ·obtain ⟨ad, rfl, g0, g1, g2⟩ := at_T93 hr0 (q : Int) (by omega) (by omega)
      have hbw : Below w.heap.size w wr := below_then hb1 hb1.size hb
      have f0 := impl_PartsText.cell_below g0 hbw
      have f1 := impl_PartsText.cell_below g1 hbw
      have f2 := impl_PartsText.cell_below g2 hbw
      rw [Int.toNat_natCast] at f0 f1 f2
      have hx : l0[q]? = some (rd_T93 l0 (q : Int)) := by
       rw [rd_T93, List.getD_eq_getElem?_getD, Int.toNat_natCast, List.getElem?_eq_getElem hlt]
       rfl
      generalize rd_T93 l0 (q : Int) = x at f0 f1 f2 hx
      clear g0 g1 g2
      have hxok : impl_PartsText.ok x = true := List.all_eq_true.1 hok x (List.mem_of_getElem? hx)
      have hxr : ∀ n ∈ [x.f0, x.f1, x.f2], -9223372036854775808 ≤ n ∧ n ≤ 9223372036854775807 := by
       simp only [impl_PartsText.ok, Bool.and_eq_true, decide_eq_true_eq] at hxok
       intro n hn
       simp only [List.mem_cons, List.not_mem_nil, or_false] at hn
       rcases hn with rfl | rfl | rfl
       ·exact hxok.1.1
       ·exact hxok.1.2
       ·exact hxok.2
      have hcells : ∀ (j : Nat) n, [x.f0, x.f1, x.f2][j]? = some n → ((wr.alloc (.cells #[.int .i64 x.f0, .int .i64 x.f1, .int .i64 x.f2] 93)).alloc (.cells #[.int .i64 x.f0, .int .i64 x.f1, .int .i64 x.f2] 3)).cell? ⟨wr.heap.size + 1, 0 + j, none⟩ = some (.int .i64 n) := by
       intro j n hj
       have h := World.cell?_alloc_new (wr.alloc (.cells #[.int .i64 x.f0, .int .i64 x.f1, .int .i64 x.f2] 93)) #[.int .i64 x.f0, .int .i64 x.f1, .int .i64 x.f2] 3 j
       rw [DoorLib.asize] at h
       rw [Nat.zero_add, h]
       rcases j with _ | _ | _ | j
       ·simp at hj; subst hj; rfl
       ·simp at hj; subst hj; rfl
       ·simp at hj; subst hj; rfl
       ·simp at hj
      have hB2 : Below wr.heap.size wr ((wr.alloc (.cells #[.int .i64 x.f0, .int .i64 x.f1, .int .i64 x.f2] 93)).alloc (.cells #[.int .i64 x.f0, .int .i64 x.f1, .int .i64 x.f2] 3)) := below_alloc (below_alloc (Below.refl _ wr) _) _
      have htab2 : DoorLib.Tab ((wr.alloc (.cells #[.int .i64 x.f0, .int .i64 x.f1, .int .i64 x.f2] 93)).alloc (.cells #[.int .i64 x.f0, .int .i64 x.f1, .int .i64 x.f2] 3)) := DoorLib.tab_below htab (below_then hbw hbw.size hB2)
      have hW := DoorLib.words_any [x.f0, x.f1, x.f2] (by simp) (by simp) hxr (wr.heap.size + 1) 0 3 _ hcells (by rw [DoorLib.asize, DoorLib.asize]; omega) htab2
      have hTl := DoorLib.len_words [x.f0, x.f1, x.f2] (by simp) hxr
      obtain ⟨T, hT⟩ : ∃ T : ByteArray, (⟨(DoorLib.wordsOf [x.f0, x.f1, x.f2]).toArray⟩ : ByteArray) = T := ⟨_, rfl⟩
      rw [hT] at hW
      have hTs : T.size ≤ 66 := by rw [← hT]; simpa [ByteArray.size] using hTl
      have hT9 : (9223372036854775807 < T.size + 1) = False := eq_false (by omega)
      have htl := impl_PartsText.text_len (l0.take q) (by
       rw [List.all_eq_true]; intro y hy; exact List.all_eq_true.1 hok y (List.mem_of_mem_take hy))
      rw [List.length_take, Nat.min_eq_left (by omega)] at htl
      have hbs := hb.size
      go_wp2_with (first
       |(go_at_call 65; refine hW.mono ?_; rintro e w3 ⟨rfl, hb3⟩; have hb4 := below_then hB2 hB2.size hb3; have hB4 := DoorLib.builder_below hB hb4; have hs4 := hb4.size)
       |(go_at_call 95; refine (DoorLib.WriteString w1.heap.size w1.heap.size _ _ _ hB4 ?_ (by omega)).mono ?_; rotate_left; rintro e w5 ⟨rfl, hB5, hb5⟩))
      ·have hxs : Lib.byteCells ((l0.take q).flatMap impl_PartsText.line) ++ Lib.strCells (T ++ ⟨#[10]⟩) = Lib.byteCells ((l0.take (q + 1)).flatMap impl_PartsText.line) := by
        rw [List.take_add_one, hx, List.flatMap_append]
        simp only [Option.toList_some, List.flatMap_cons, List.flatMap_nil, List.append_nil, impl_PartsText.line]
        simp only [Lib.byteCells, Lib.strCells, List.map_append, ByteArray.data_append, Array.toList_append, ← hT]
       refine ⟨⟨q + 1, by omega, by go_num, hxs ▸ .inr hB5, hb.trans ((hb4.mono hbs).trans hb5)⟩, by simp [intOf]; omega⟩
      ·rw [Lib.byteCells_length, ByteArray.size_append, show (⟨#[10]⟩ : ByteArray).size = 1 from rfl]
       omega
     ·obtain rfl : q = l0.length := by omega
      rw [List.take_length] at hB
      have hbs := hb.size
      have hS := Tryd.Builder_String_any w1.heap.size w1.heap.size _ wr hB hbs
      obtain ⟨rfl, rfl⟩ := Prod.mk.inj HH.out
      go_wp2_with (go_at_call 96; refine hS.mono ?_; rintro e w3 ⟨rfl, hb3⟩)
      go_ret2
      exact ⟨rfl, below_then hb1 hb1.size (hb.trans hb3)⟩
   ·rw [if_neg hlen] at H; cases H
  ·rw [if_neg hok] at H; cases H
 ·obtain rfl : t = false := by simpa using ht
  rw [if_neg (by decide)] at H
  obtain ⟨rfl, rfl⟩ := Prod.mk.inj (Option.some.inj H)
  clear H
  go_enter Tryd.func39, Tryd.ntmps39
  go_wp2_with (go_at_call 83; refine (impl_isEdition.calls k A0 c0 l0 false _ hr0 hc0 a0).mono ?_; rintro e w1 ⟨rfl, hb1⟩)
  go_ret2
  exact ⟨rfl, hb1⟩


/-! ### spec_l1Num: function 97 -/
def spec_l1Num.f : Nat → Int → Option (ByteArray)
 | 0, _ => none
 | k + 1, a0 => if a0 < 10 then (some (strOfNums (([(wrap64 (48 + a0)) % 256] : List Int)))) else ((spec_l1Num.f k (wrap64 (Int.tdiv a0 10))).bind fun t510 => ((some (([(wrap64 (48 + (Int.tmod a0 10))) % 256] : List Int) : List Int)).bind fun y511 => (if t510.size + (strOfNums y511).size ≤ 9223372036854775807 then (some (t510 ++ (strOfNums y511))) else (none))))
theorem spec_l1Num.mono_l : ∀ k, (∀ y0, LeO (spec_l1Num.f k y0) (spec_l1Num.f (k + 1) y0))
 | 0 => fun _ r h => by simp [spec_l1Num.f] at h
 | k + 1 => by
  have ih0 := spec_l1Num.mono_l k
  ·intro y0
   unfold spec_l1Num.f
   repeat' first
   |(with_reducible exact ih0 _)
   |(with_reducible exact LeO.refl _)
   |(with_reducible exact LeO.none _)
   |(with_reducible refine LeO.ite ?_ ?_)
   |(with_reducible refine LeO.bind ?_ (fun _ => ?_))
   |exact ih0 _
   |exact LeO.none _
    | refine LeO.ite ?_ ?_
    | refine LeO.bind ?_ (fun _ => ?_)
theorem spec_l1Num.mono : ∀ a0 k, LeO (spec_l1Num.f k a0) (spec_l1Num.f (k + 1) a0) := by
 intro a0 k
 have ih0 := spec_l1Num.mono_l k
 exact ih0 a0
def spec_l1Num.T3 : Bool × List (List Nat × List Nat) := (true, [([], []), ([0], [0]), ([1], [1]), ([], []), ([3], [3]), ([4], [4]), ([5], [5]), ([6], [6]), ([7], [7]), ([2, 8], [2, 8]), ([9, 2, 0, 1, 2, 3, 4, 5, 6, 7, 8, 9], [9])])
def spec_l1Num.B3 : List Nat := [0, 1, 3, 0, 8, 24, 56, 120, 248, 511, 1023]
theorem spec_l1Num.tab3 : rtab .any (opsOf Tryd.f97 3) = spec_l1Num.T3 := by kernel_rfl
theorem spec_l1Num.bits3 : waitsOk spec_l1Num.T3.2 spec_l1Num.B3 = true := by kernel_rfl
set_option maxHeartbeats 8000000 in
set_option maxRecDepth 100000 in
theorem spec_l1Num.calls (k : Nat) : ∀ (a0 : Int) (r : ByteArray) (w : World) (h : spec_l1Num.f k a0 = some r),
 Calls Tryd.prog 97 #[.int .i64 a0] w fun e w' => e = .returned (.string r) ∧ Below w.heap.size w w' := by
 induction k using Nat.strongRecOn with
 | _ k ih =>
 intro a0 r w h
 cases k with
 | zero => exact absurd h (by simp [spec_l1Num.f])
 | succ k =>
 simp only [spec_l1Num.f] at h
 have HB := Aside0.mk (Below.refl w.heap.size w)
 have H : (if a0 < 10 then (some (strOfNums (([(wrap64 (48 + a0)) % 256] : List Int)))) else ((spec_l1Num.f k (wrap64 (Int.tdiv a0 10))).bind fun t510 => ((some (([(wrap64 (48 + (Int.tmod a0 10))) % 256] : List Int) : List Int)).bind fun y511 => (if t510.size + (strOfNums y511).size ≤ 9223372036854775807 then (some (t510 ++ (strOfNums y511))) else (none))))) = some r := h
 clear h
 by_cases c2 : a0 < 10
 ·rw [if_pos c2] at H
  have c2b0 : decide (a0 < 10) = true := decide_eq_true c2
  clear c2
  obtain ⟨y507, hy507⟩ : ∃ y_ : List Int, y_ = (([(wrap64 (48 + a0)) % 256] : List Int)) := ⟨_, rfl⟩
  replace H : (some (strOfNums y507)) = some r := by first|(rw [hy507]; with_reducible exact H)|(have H2_ := (Option.bind_some _ _).symm.trans H; rw [hy507]; with_reducible exact H2_)|(have H2_ := (Option.bind_some _ _).symm.trans H; with_reducible exact H2_) | with_reducible exact H|(rw [hy507]; exact H)|exact H
  have Ny507 := Aside0.mk hy507
  clear hy507
  obtain rfl := Option.some.inj H
  go_enter Tryd.func97, Tryd.ntmps97
  go_wp2_with (first|((with_reducible refine gate_dst (N := 8) rfl ?_); refine Kd.R_lit (Kd.int .u8) _ 5 ?hg (N := 8) ?hd (xs := ([(wrap64 (48 + a0)) % 256] : List Int)) (inner := [.int .u8 ((wrap64 (48 + a0)) % 256)]) (ok := fun _ => True) (okp := fun _ => True) ?hr ?hp (fun _ hk => hk) trivial (Below.refl _ _) (Nat.le_refl _) (by simp) ?_;(case hd => rfl);(case hg => rfl);(case hr => first|(go_simp;done)|(go_simp; rfl));(case hp => exact (Reps.one (show Kd.M (Kd.int .u8) _ _ _ ((wrap64 (48 + a0)) % 256) [.int .u8 ((wrap64 (48 + a0)) % 256)] from rfl) (Reps.none _ _))); intro v508 w3 ho4 hb hg_ hnew_; clear hg_ hnew_; (first|rw [← Ny507.out] at ho4|(simp only [Int.reduceToNat] at ho4; rw [← Ny507.out] at ho4)); have n0_ := Aside0.mk (Kd.R_lower ho4 (below_size (a0_))); have n1_ := Aside0.mk (below_step (a0_) hb); clear HB; have HO509 := n0_; have HB := n1_; clear n0_ n1_; clear hb ho4; have hcv5 := own_string (P := Tryd.prog) Tryd.underlying22 Tryd.underlying5 Tryd.underlying9 (Kd.own_of_R HO509.out)))
  go_ret
  exact ⟨a5_, a0_⟩
 ·rw [if_neg c2] at H
  have c2b0 : decide (a0 < 10) = false := decide_eq_false c2
  clear c2
  replace H := Option.bind_eq_some_iff.mp H
  obtain ⟨t510, A60, H⟩ := H
  try dsimp only at H
  have A6 := Aside0.mk A60
  clear A60
  obtain ⟨y511, hy511⟩ : ∃ y_ : List Int, y_ = (([(wrap64 (48 + (Int.tmod a0 10))) % 256] : List Int)) := ⟨_, rfl⟩
  replace H : (if t510.size + (strOfNums y511).size ≤ 9223372036854775807 then (some (t510 ++ (strOfNums y511))) else (none)) = some r := by first|(rw [hy511]; with_reducible exact H)|(have H2_ := (Option.bind_some _ _).symm.trans H; rw [hy511]; with_reducible exact H2_)|(have H2_ := (Option.bind_some _ _).symm.trans H; with_reducible exact H2_) | with_reducible exact H|(rw [hy511]; exact H)|exact H
  have Ny511 := Aside0.mk hy511
  clear hy511
  by_cases c7 : t510.size + (strOfNums y511).size ≤ 9223372036854775807
  ·rw [if_pos c7] at H
   have c7b0 := eq_true c7
   have c7b1 : decide (t510.size + (strOfNums y511).size ≤ 9223372036854775807) = true := decide_eq_true c7
   try have c7b2 : (9223372036854775807 < t510.size + (strOfNums y511).size) = False := eq_false (Nat.not_lt.2 c7)
   obtain rfl := Option.some.inj H
   go_enter Tryd.func97, Tryd.ntmps97
   try go_wp2
   have n0_ := Aside0.mk (below_drew1 HB.out)
   clear HB
   have HB := n0_
   clear n0_
   refine start_ (n := 11) (S := fun w' => True) (ds := []) #[false, false, false, false, false, false, false, false, false, false, false] (by kernel_rfl) rfl rfl trivial (fun hHeld => ?_); refine with_tabW spec_l1Num.tab3 spec_l1Num.bits3 (fun HT_ HW_ => ?_)
   generalize w.drew = w8 at HB hHeld ⊢
   refine pure_ (i := 0) (N := some 10) (v := ?_) (a' := ?_) #[true, false, false, false, false, false, false, false, false, false, false] rfl rfl (any_of HT_.out (by kernel_rfl)) (fun _ _ _ h => h) (Or.inl ⟨by rfl, ?_⟩) ?_ ?_
   rotate_left
   ·intro w'
    go_simp
    with_reducible rfl
   rotate_left
   ·simp only [Act.put, List.setIfInBounds_toArray, List.set_cons_zero, List.set_cons_succ, i64_w, i32_w]
    rfl
   refine pure_ (i := 1) (N := some 11) (v := ?_) (a' := ?_) #[true, true, false, false, false, false, false, false, false, false, false] rfl rfl (any_of HT_.out (by kernel_rfl)) (fun _ _ _ h => h) (Or.inl ⟨by rfl, ?_⟩) ?_ ?_
   rotate_left
   ·intro w'
    go_simp
    with_reducible rfl
   rotate_left
   ·simp only [Act.put, List.setIfInBounds_toArray, List.set_cons_zero, List.set_cons_succ, i64_w, i32_w]
    rfl
   refine pure_ (i := 3) (N := some 13) (v := ?_) (a' := ?_) #[true, true, false, true, false, false, false, false, false, false, false] rfl rfl (any_of HT_.out (by kernel_rfl)) (fun _ _ _ h => h) (Or.inl ⟨by rfl, ?_⟩) ?_ ?_
   rotate_left
   ·intro w'
    go_simp
    with_reducible rfl
   rotate_left
   ·simp only [Act.put, List.setIfInBounds_toArray, List.set_cons_zero, List.set_cons_succ, i64_w, i32_w]
    rfl
   refine pure_ (i := 4) (N := some 14) (v := ?_) (a' := ?_) #[true, true, false, true, true, false, false, false, false, false, false] rfl rfl (any_of HT_.out (by kernel_rfl)) (fun _ _ _ h => h) (Or.inl ⟨by rfl, ?_⟩) ?_ ?_
   rotate_left
   ·intro w'
    go_simp
    with_reducible rfl
   rotate_left
   ·simp only [Act.put, List.setIfInBounds_toArray, List.set_cons_zero, List.set_cons_succ, i64_w, i32_w]
    rfl
   refine pure_ (i := 5) (N := some 15) (v := ?_) (a' := ?_) #[true, true, false, true, true, true, false, false, false, false, false] rfl rfl (any_of HT_.out (by kernel_rfl)) (fun _ _ _ h => h) (Or.inl ⟨by rfl, ?_⟩) ?_ ?_
   rotate_left
   ·intro w'
    go_simp
    with_reducible rfl
   rotate_left
   ·simp only [Act.put, List.setIfInBounds_toArray, List.set_cons_zero, List.set_cons_succ, i64_w, i32_w]
    rfl
   refine pure_ (i := 6) (N := some 16) (v := ?_) (a' := ?_) #[true, true, false, true, true, true, true, false, false, false, false] rfl rfl (any_of HT_.out (by kernel_rfl)) (fun _ _ _ h => h) (Or.inl ⟨by rfl, ?_⟩) ?_ ?_
   rotate_left
   ·intro w'
    go_simp
    with_reducible rfl
   rotate_left
   ·simp only [Act.put, List.setIfInBounds_toArray, List.set_cons_zero, List.set_cons_succ, i64_w, i32_w]
    rfl
   refine join_ (σ := Value) 2 #[true, true, true, true, true, true, true, true, true, false, false] (fun s_ => [(12, .string t510), (17, s_), (18, .string (strOfNums y511))]) (fun s_ w' => (Kd.R (Kd.int .u8) 5 w' w.heap.size (fun _ => True) s_ y511) ∧ (Below w.heap.size w w')) ?_ ?_
   rotate_left
   ·intro hCont
    refine two_ (i := 2) (j := 7) (Ni := some 12) (Nj := some 17) #[true, true, true, true, true, true, true, false, false, false, false] #[true, true, false, true, true, true, true, true, false, false, false] rfl rfl rfl rfl (two_of HT_.out (by kernel_rfl)) (by decide) (by decide) (fun K hK => ?_) (fun K hK => ?_)
    ·skip
     refine goes_ Tryd.func97 (by kernel_rfl) rfl #[.int .i64 (wrap64 (Int.tdiv a0 10))] (by rfl) rfl rfl (by (try simp only [List.map_toArray, List.map_cons, List.map_nil]); first | done | rfl|(simp only [List.length_drop, List.length_take]; rfl)) ?_
     with_reducible refine (ih k (by omega) (wrap64 (Int.tdiv a0 10)) t510 _ A6.out).mono ?_
     rintro e w9 ⟨rfl, hb⟩
     refine ⟨_, rfl, ?_⟩
     have n0_ := Aside0.mk (below_step (a0_) hb)
     clear HB
     have HB := n0_
     clear n0_
     (try clear hb)
     (try clear hb2)
     (try clear hk)
     (try clear hi)
     refine hK.out _ _ trivial (fun hHeld => ?_)
     clear hK K
     refine norm_ (a' := ?_) ?_ ?_
     rotate_left
     ·show Act.put _ (some 12) _ = _
      simp only [Act.put, List.setIfInBounds_toArray, List.set_cons_zero, List.set_cons_succ, i64_w, i32_w]
      rfl
     refine one_ (i := 7) (N := some 17) #[true, true, true, true, true, true, true, true, false, false, false] rfl rfl (one_of HT_.out (by kernel_rfl)) (by decide) (fun K hK => ?_)
     refine Kd.R_lit_step (Kd.int .u8) _ 5 ?hg (N := 17) ?hd (xs := ([(wrap64 (48 + (Int.tmod a0 10))) % 256] : List Int)) (inner := [.int .u8 ((wrap64 (48 + (Int.tmod a0 10))) % 256)]) (ok := fun _ => True) (okp := fun _ => True) ?hr ?hp (fun _ hk => hk) trivial (Below.refl _ _) (Nat.le_refl _) (by simp) ?_;(case hd => rfl);(case hg => rfl);(case hr => first|(go_simp;done)|(go_simp; rfl));(case hp => exact (Reps.one (show Kd.M (Kd.int .u8) _ _ _ ((wrap64 (48 + (Int.tmod a0 10))) % 256) [.int .u8 ((wrap64 (48 + (Int.tmod a0 10))) % 256)] from rfl) (Reps.none _ _)))
     intro v512 w10 ho11 hb hg_ hnew_
     clear hg_ hnew_
     (first|rw [← Ny511.out] at ho11|(simp only [Int.reduceToNat] at ho11; rw [← Ny511.out] at ho11))
     have n0_ := Aside0.mk (Kd.R_lower ho11 (below_size (a0_)))
     have n1_ := Aside0.mk (below_step (a0_) hb)
     clear HB
     have HO513 := n0_
     have HB := n1_
     clear n0_ n1_
     clear hb ho11
     refine hK.out _ _ trivial (fun hHeld => ?_)
     clear hK K
     refine norm_ (a' := ?_) ?_ ?_
     rotate_left
     ·show Act.put _ (some 17) _ = _
      simp only [Act.put, List.setIfInBounds_toArray, List.set_cons_zero, List.set_cons_succ, i64_w, i32_w]
      rfl
     refine one_ (i := 8) (N := some 18) #[true, true, true, true, true, true, true, true, true, false, false] rfl rfl (one_of HT_.out (by kernel_rfl)) (by decide) (fun K hK => ?_)
     have hcv12 := own_string (P := Tryd.prog) Tryd.underlying22 Tryd.underlying5 Tryd.underlying9 (Kd.own_of_R HO513.out)
     refine value_ (w1 := ?_) (v := ?_) (by rfl) rfl ?_ ?_
     rotate_left 2
     ·go_simp
      constructor
      ·rfl
      ·rfl
     clear hcv12
     refine hK.out _ _ trivial (fun hHeld => ?_)
     clear hK K
     refine norm_ (a' := ?_) ?_ ?_
     rotate_left
     ·show Act.put _ (some 18) _ = _
      simp only [Act.put, List.setIfInBounds_toArray, List.set_cons_zero, List.set_cons_succ, i64_w, i32_w]
      rfl
     exact norm_ (by simp only [putAll, Act.put, List.setIfInBounds_toArray, List.set_cons_zero, List.set_cons_succ]) (hCont (v512) _ ⟨((a2_ HO513.out)), (a0_)⟩)
    ·skip
     refine Kd.R_lit_step (Kd.int .u8) _ 5 ?hg (N := 17) ?hd (xs := ([(wrap64 (48 + (Int.tmod a0 10))) % 256] : List Int)) (inner := [.int .u8 ((wrap64 (48 + (Int.tmod a0 10))) % 256)]) (ok := fun _ => True) (okp := fun _ => True) ?hr ?hp (fun _ hk => hk) trivial (Below.refl _ _) (Nat.le_refl _) (by simp) ?_;(case hd => rfl);(case hg => rfl);(case hr => first|(go_simp;done)|(go_simp; rfl));(case hp => exact (Reps.one (show Kd.M (Kd.int .u8) _ _ _ ((wrap64 (48 + (Int.tmod a0 10))) % 256) [.int .u8 ((wrap64 (48 + (Int.tmod a0 10))) % 256)] from rfl) (Reps.none _ _)))
     intro v512 w9 ho10 hb hg_ hnew_
     clear hg_ hnew_
     (first|rw [← Ny511.out] at ho10|(simp only [Int.reduceToNat] at ho10; rw [← Ny511.out] at ho10))
     have n0_ := Aside0.mk (Kd.R_lower ho10 (below_size (a0_)))
     have n1_ := Aside0.mk (below_step (a0_) hb)
     clear HB
     have HO513 := n0_
     have HB := n1_
     clear n0_ n1_
     clear hb ho10
     refine hK.out _ _ trivial (fun hHeld => ?_)
     clear hK K
     refine norm_ (a' := ?_) ?_ ?_
     rotate_left
     ·show Act.put _ (some 17) _ = _
      simp only [Act.put, List.setIfInBounds_toArray, List.set_cons_zero, List.set_cons_succ, i64_w, i32_w]
      rfl
     refine two_ (i := 2) (j := 8) (Ni := some 12) (Nj := some 18) #[true, true, true, true, true, true, true, true, false, false, false] #[true, true, false, true, true, true, true, true, true, false, false] rfl rfl rfl rfl (two_of HT_.out (by kernel_rfl)) (by decide) (by decide) (fun K hK => ?_) (fun K hK => ?_)
     ·skip
      refine goes_ Tryd.func97 (by kernel_rfl) rfl #[.int .i64 (wrap64 (Int.tdiv a0 10))] (by rfl) rfl rfl (by (try simp only [List.map_toArray, List.map_cons, List.map_nil]); first | done | rfl|(simp only [List.length_drop, List.length_take]; rfl)) ?_
      with_reducible refine (ih k (by omega) (wrap64 (Int.tdiv a0 10)) t510 _ A6.out).mono ?_
      rintro e w11 ⟨rfl, hb⟩
      refine ⟨_, rfl, ?_⟩
      have n0_ := Aside0.mk (Kd.R_below ((a2_ HO513.out)) hb)
      have n1_ := Aside0.mk (below_step (a0_) hb)
      clear HO513
      clear HB
      have HO513 := n0_
      have HB := n1_
      clear n0_ n1_
      (try clear hb)
      (try clear hb2)
      (try clear hk)
      (try clear hi)
      refine hK.out _ _ trivial (fun hHeld => ?_)
      clear hK K
      refine norm_ (a' := ?_) ?_ ?_
      rotate_left
      ·show Act.put _ (some 12) _ = _
       simp only [Act.put, List.setIfInBounds_toArray, List.set_cons_zero, List.set_cons_succ, i64_w, i32_w]
       rfl
      refine one_ (i := 8) (N := some 18) #[true, true, true, true, true, true, true, true, true, false, false] rfl rfl (one_of HT_.out (by kernel_rfl)) (by decide) (fun K hK => ?_)
      have hcv12 := own_string (P := Tryd.prog) Tryd.underlying22 Tryd.underlying5 Tryd.underlying9 (Kd.own_of_R HO513.out)
      refine value_ (w1 := ?_) (v := ?_) (by rfl) rfl ?_ ?_
      rotate_left 2
      ·go_simp
       constructor
       ·rfl
       ·rfl
      clear hcv12
      refine hK.out _ _ trivial (fun hHeld => ?_)
      clear hK K
      refine norm_ (a' := ?_) ?_ ?_
      rotate_left
      ·show Act.put _ (some 18) _ = _
       simp only [Act.put, List.setIfInBounds_toArray, List.set_cons_zero, List.set_cons_succ, i64_w, i32_w]
       rfl
      exact norm_ (by simp only [putAll, Act.put, List.setIfInBounds_toArray, List.set_cons_zero, List.set_cons_succ]) (hCont (v512) _ ⟨((a2_ HO513.out)), (a0_)⟩)
     ·skip
      have hcv11 := own_string (P := Tryd.prog) Tryd.underlying22 Tryd.underlying5 Tryd.underlying9 (Kd.own_of_R HO513.out)
      refine value_ (w1 := ?_) (v := ?_) (by rfl) rfl ?_ ?_
      rotate_left 2
      ·go_simp
       constructor
       ·rfl
       ·rfl
      clear hcv11
      refine hK.out _ _ trivial (fun hHeld => ?_)
      clear hK K
      refine norm_ (a' := ?_) ?_ ?_
      rotate_left
      ·show Act.put _ (some 18) _ = _
       simp only [Act.put, List.setIfInBounds_toArray, List.set_cons_zero, List.set_cons_succ, i64_w, i32_w]
       rfl
      refine one_ (i := 2) (N := some 12) #[true, true, true, true, true, true, true, true, true, false, false] rfl rfl (one_of HT_.out (by kernel_rfl)) (by decide) (fun K hK => ?_)
      refine goes_ Tryd.func97 (by kernel_rfl) rfl #[.int .i64 (wrap64 (Int.tdiv a0 10))] (by rfl) rfl rfl (by (try simp only [List.map_toArray, List.map_cons, List.map_nil]); first | done | rfl|(simp only [List.length_drop, List.length_take]; rfl)) ?_
      with_reducible refine (ih k (by omega) (wrap64 (Int.tdiv a0 10)) t510 _ A6.out).mono ?_
      rintro e w12 ⟨rfl, hb⟩
      refine ⟨_, rfl, ?_⟩
      have n0_ := Aside0.mk (Kd.R_below ((a2_ HO513.out)) hb)
      have n1_ := Aside0.mk (below_step (a0_) hb)
      clear HO513
      clear HB
      have HO513 := n0_
      have HB := n1_
      clear n0_ n1_
      (try clear hb)
      (try clear hb2)
      (try clear hk)
      (try clear hi)
      refine hK.out _ _ trivial (fun hHeld => ?_)
      clear hK K
      refine norm_ (a' := ?_) ?_ ?_
      rotate_left
      ·show Act.put _ (some 12) _ = _
       simp only [Act.put, List.setIfInBounds_toArray, List.set_cons_zero, List.set_cons_succ, i64_w, i32_w]
       rfl
      exact norm_ (by simp only [putAll, Act.put, List.setIfInBounds_toArray, List.set_cons_zero, List.set_cons_succ]) (hCont (v512) _ ⟨((a2_ HO513.out)), (a0_)⟩)
   rintro v512 w13 ⟨h0_, h1_⟩
   have n0_ : Aside0 (Kd.R (Kd.int .u8) 5 w13 w.heap.size (fun _ => True) v512 y511) := ⟨h0_⟩
   have n1_ : Aside0 (Below w.heap.size w w13) := ⟨h1_⟩
   clear HB
   clear h0_ h1_
   have HO513 := n0_
   have HB := n1_
   clear n0_ n1_
   have hHeld := trivial
   refine norm_ (a' := ?_) ?_ ?_
   rotate_left
   ·simp only [putAll, Act.put, List.setIfInBounds_toArray, List.set_cons_zero, List.set_cons_succ]
    rfl
   refine pure_ (i := 9) (N := some 19) (v := ?_) (a' := ?_) #[true, true, true, true, true, true, true, true, true, true, false] rfl rfl (any_of HT_.out (by kernel_rfl)) (fun _ _ _ h => h) (Or.inl ⟨by rfl, ?_⟩) ?_ ?_
   rotate_left
   ·intro w'
    go_simp
    with_reducible rfl
   rotate_left
   ·simp only [Act.put, List.setIfInBounds_toArray, List.set_cons_zero, List.set_cons_succ, i64_w, i32_w]
    rfl
   refine pure_ (i := 10) (N := some 2) (v := ?_) (a' := ?_) #[true, true, true, true, true, true, true, true, true, true, true] rfl rfl (any_of HT_.out (by kernel_rfl)) (fun _ _ _ h => h) (Or.inl ⟨by rfl, ?_⟩) ?_ ?_
   rotate_left
   ·intro w'
    go_simp
    with_reducible rfl
   rotate_left
   ·simp only [Act.put, List.setIfInBounds_toArray, List.set_cons_zero, List.set_cons_succ, i64_w, i32_w]
    rfl
   refine done_ (done_of HT_.out (by kernel_rfl)) ?_
   try go_wp2
   go_ret
   exact ⟨a5_, a0_⟩
  ·rw [if_neg c7] at H
   exact absurd H (by simp)

/-! ### spec_PartsText: function 40 -/
def spec_PartsText.l0 : Nat → ByteArray → List (S93) → Int → Int → Option (ByteArray × Bool)
 | 0, _, _, _, _ => none
 | k + 1, x4, x10, x11, x12 => if x12 < x11 then (if 0 ≤ x12 then (if x12 < (x10.length : Int) then ((spec_l1Num.f k ((rd_T93 x10 x12).f0)).bind fun t517 => (if t517.size + 1 ≤ 9223372036854775807 then ((spec_l1Num.f k ((rd_T93 x10 x12).f1)).bind fun t518 => (if (t517 ++ (⟨#[32]⟩ : ByteArray)).size + t518.size ≤ 9223372036854775807 then (if ((t517 ++ (⟨#[32]⟩ : ByteArray)) ++ t518).size + 1 ≤ 9223372036854775807 then ((spec_l1Num.f k ((rd_T93 x10 x12).f2)).bind fun t519 => (if (((t517 ++ (⟨#[32]⟩ : ByteArray)) ++ t518) ++ (⟨#[32]⟩ : ByteArray)).size + t519.size ≤ 9223372036854775807 then (if ((((t517 ++ (⟨#[32]⟩ : ByteArray)) ++ t518) ++ (⟨#[32]⟩ : ByteArray)) ++ t519).size + 1 ≤ 9223372036854775807 then (if x4.size + (((((t517 ++ (⟨#[32]⟩ : ByteArray)) ++ t518) ++ (⟨#[32]⟩ : ByteArray)) ++ t519) ++ (⟨#[10]⟩ : ByteArray)).size ≤ 9223372036854775807 then (spec_PartsText.l0 k (x4 ++ (((((t517 ++ (⟨#[32]⟩ : ByteArray)) ++ t518) ++ (⟨#[32]⟩ : ByteArray)) ++ t519) ++ (⟨#[10]⟩ : ByteArray))) x10 x11 (wrap64 (x12 + 1))) else (none)) else (none)) else (none))) else (none)) else (none))) else (none))) else (none)) else (none)) else (some (x4, true))
def spec_PartsText.f (k : Nat) (l0 : List (S93)) : Option (ByteArray × Bool) := (spec_edGood.f k l0).bind fun t514 => (if t514 = true then (spec_PartsText.l0 k (⟨#[]⟩ : ByteArray) l0 (l0.length : Int) 0) else (some ((⟨#[]⟩ : ByteArray), false)))
theorem spec_PartsText.mono_l : ∀ k, (∀ y0 y1 y2 y3, LeO (spec_PartsText.l0 k y0 y1 y2 y3) (spec_PartsText.l0 (k + 1) y0 y1 y2 y3))
 | 0 => fun _ _ _ _ r h => by simp [spec_PartsText.l0] at h
 | k + 1 => by
  have ih0 := spec_PartsText.mono_l k
  ·intro y0 y1 y2 y3
   unfold spec_PartsText.l0
   repeat' first
   |(with_reducible exact ih0 _ _ _ _)
   |(with_reducible exact spec_edGood.mono _ _)
   |(with_reducible exact spec_l1Num.mono _ _)
   |(with_reducible exact LeO.refl _)
   |(with_reducible exact LeO.none _)
   |(with_reducible refine LeO.ite ?_ ?_)
   |(with_reducible refine LeO.bind ?_ (fun _ => ?_))
   |exact ih0 _ _ _ _
   |exact spec_edGood.mono _ _
   |exact spec_l1Num.mono _ _
   |exact LeO.none _
    | refine LeO.ite ?_ ?_
    | refine LeO.bind ?_ (fun _ => ?_)
theorem spec_PartsText.mono : ∀ a0 k, LeO (spec_PartsText.f k a0) (spec_PartsText.f (k + 1) a0) := by
 intro a0 k
 have ih0 := spec_PartsText.mono_l k
 unfold spec_PartsText.f
 repeat' first
  |(with_reducible exact ih0 _ _ _ _)
  |(with_reducible exact spec_edGood.mono _ _)
  |(with_reducible exact spec_l1Num.mono _ _)
  |(with_reducible exact LeO.refl _)
  |(with_reducible exact LeO.none _)
  |(with_reducible refine LeO.ite ?_ ?_)
  |(with_reducible refine LeO.bind ?_ (fun _ => ?_))
  |exact ih0 _ _ _ _
  |exact spec_edGood.mono _ _
  |exact spec_l1Num.mono _ _
  |exact LeO.none _
   | refine LeO.ite ?_ ?_
   | refine LeO.bind ?_ (fun _ => ?_)
def spec_PartsText.T7 : Bool × List (List Nat × List Nat) := (true, [([], []), ([], []), ([1], [1]), ([2], [2]), ([3], [3]), ([], []), ([5], [5]), ([6, 3], [6]), ([4, 7], [4, 7]), ([8], [8]), ([], []), ([10], [10]), ([11, 7], [11]), ([9, 12], [9, 12]), ([13], [13]), ([0, 14], [0, 14]), ([15, 12, 0, 1, 2, 3, 4, 5, 6, 7, 8, 9, 10, 11, 12, 13, 14, 15], [0, 15])])
def spec_PartsText.B7 : List Nat := [0, 0, 2, 6, 14, 0, 32, 110, 254, 510, 0, 1024, 3310, 8190, 16382, 32767, 65535]
theorem spec_PartsText.tab7 : rtab .any (opsOf Tryd.f40 7) = spec_PartsText.T7 := by kernel_rfl
theorem spec_PartsText.bits7 : waitsOk spec_PartsText.T7.2 spec_PartsText.B7 = true := by kernel_rfl
set_option maxHeartbeats 8000000 in
set_option maxRecDepth 100000 in
theorem spec_PartsText.calls (k : Nat) (A0 : Option Addr) (c0 : Nat) (l0 : List (S93)) (r1 : ByteArray) (r2 : Bool) (w : World) (hr0 : Kd.C k93 w A0 l0.length l0) (hc0 : l0.length ≤ c0) (h : spec_PartsText.f k l0 = some (r1, r2)) :
 Calls Tryd.prog 40 #[.slice A0 l0.length c0] w fun e w' => e = .returned (.tuple #[.string r1, .bool r2]) ∧ Below w.heap.size w w' := by
 have hu93 := Tryd.underlying93
 have HR0 := Aside0.mk hr0
 have HC0 := Aside0.mk hc0
 clear hr0 hc0
 have HB := Aside0.mk (Below.refl w.heap.size w)
 have H : ((spec_edGood.f k l0).bind fun t514 => (if t514 = true then (spec_PartsText.l0 k (⟨#[]⟩ : ByteArray) l0 (l0.length : Int) 0) else (some ((⟨#[]⟩ : ByteArray), false)))) = some (r1, r2) := h
 clear h
 replace H := Option.bind_eq_some_iff.mp H
 obtain ⟨t514, A20, H⟩ := H
 try dsimp only at H
 have A2 := Aside0.mk A20
 clear A20
 by_cases c3 : t514 = true
 ·subst c3
  have H1 : (spec_PartsText.l0 k (⟨#[]⟩ : ByteArray) l0 (l0.length : Int) 0) = some (r1, r2) := by rw [if_pos rfl] at H; exact H
  clear H
  have H := H1
  clear H1
  have H' := Aside0.mk H
  clear H
  go_enter Tryd.func40, Tryd.ntmps40
  go_wp2_with (first|((with_reducible refine gate_callee (f := 93) rfl ?_); refine goesL_ (some 8) rfl rfl Tryd.func93 (by kernel_rfl) rfl #[.slice A0 l0.length c0] rfl (by (try simp only [List.map_toArray, List.map_cons, List.map_nil]); first | done | rfl|(simp only [List.length_drop, List.length_take]; rfl)) ?_; (with_reducible refine (spec_edGood.calls k _ _ l0 true _ ?side1 ?side2 A2.out).mono ?_);(case side1 => exact (a10_ HR0.out));(case side2 => exact HC0.out); rintro e w4 ⟨rfl, hb⟩; refine ⟨_, rfl, ?_⟩; have n0_ := Aside0.mk (below_step (a0_) hb); clear HB; have HB := n0_; clear n0_; (try clear hb); (try clear hb2); (try clear hk); (try clear hi)))
  (try simp only [Act.put, List.setIfInBounds_toArray, List.set_cons_zero, List.set_cons_succ])
  go_loopg [4, 12] k (fun kq v4 v12 w' => ∃ (x4_1 : ByteArray) (x12_1 : Int), v4 = .string x4_1 ∧ v12 = .int .i64 x12_1 ∧ Aside0 (spec_PartsText.l0 kq x4_1 l0 (l0.length : Int) x12_1 = some (r1, r2)) ∧ Aside0 (kq ≤ k) ∧ Aside0 (Below w.heap.size w w'))
  case atStart => exact ⟨((⟨#[]⟩ : ByteArray)), (0), (by first | rfl|(simp;done)|(simp [*];done)), (by first | rfl|(simp;done)|(simp [*];done)), H', ⟨Nat.le_refl _⟩, ⟨a0_⟩⟩
  case round =>
   clear H'
   try clear p2
   try clear c3
   try clear c4
   obtain ⟨x4_1, x12_1, rfl, rfl, HA, HK1, HB⟩ := hrel
   cases gk with
   | zero => exact absurd HA.out (by simp [spec_PartsText.l0])
   | succ k1 =>
    have H := HA.out
    clear HA
    simp only [spec_PartsText.l0] at H
    by_cases c5 : x12_1 < (l0.length : Int)
    ·rw [if_pos c5] at H
     have c5b0 : decide (x12_1 < (l0.length : Int)) = true := decide_eq_true c5
     clear c5
     by_cases c6 : 0 ≤ x12_1
     ·rw [if_pos c6] at H
      have c6b0 : decide (0 ≤ x12_1) = true := decide_eq_true c6
      clear c6
      by_cases c7 : x12_1 < (l0.length : Int)
      ·rw [if_pos c7] at H
       have c7b0 : decide (x12_1 < (l0.length : Int)) = true := decide_eq_true c7
       clear c7
       replace H := Option.bind_eq_some_iff.mp H
       obtain ⟨t517, A80, H⟩ := H
       try dsimp only at H
       have A8 := Aside0.mk A80
       clear A80
       by_cases c9 : t517.size + 1 ≤ 9223372036854775807
       ·rw [if_pos c9] at H
        have c9b0 := eq_true c9
        have c9b1 : decide (t517.size + 1 ≤ 9223372036854775807) = true := decide_eq_true c9
        try have c9b2 : (9223372036854775807 < t517.size + 1) = False := eq_false (Nat.not_lt.2 c9)
        replace H := Option.bind_eq_some_iff.mp H
        obtain ⟨t518, A100, H⟩ := H
        try dsimp only at H
        have A10 := Aside0.mk A100
        clear A100
        by_cases c11 : (t517 ++ (⟨#[32]⟩ : ByteArray)).size + t518.size ≤ 9223372036854775807
        ·rw [if_pos c11] at H
         have c11b0 := eq_true c11
         have c11b1 : decide ((t517 ++ (⟨#[32]⟩ : ByteArray)).size + t518.size ≤ 9223372036854775807) = true := decide_eq_true c11
         try have c11b2 : (9223372036854775807 < (t517 ++ (⟨#[32]⟩ : ByteArray)).size + t518.size) = False := eq_false (Nat.not_lt.2 c11)
         try have c11b3 : (9223372036854775807 < (t517.size + 1) + t518.size) = False := eq_false (Nat.not_lt.2 (by have h_ := c11; simp only [ByteArray.size_append] at h_; exact h_))
         by_cases c12 : ((t517 ++ (⟨#[32]⟩ : ByteArray)) ++ t518).size + 1 ≤ 9223372036854775807
         ·rw [if_pos c12] at H
          have c12b0 := eq_true c12
          have c12b1 : decide (((t517 ++ (⟨#[32]⟩ : ByteArray)) ++ t518).size + 1 ≤ 9223372036854775807) = true := decide_eq_true c12
          try have c12b2 : (9223372036854775807 < ((t517 ++ (⟨#[32]⟩ : ByteArray)) ++ t518).size + 1) = False := eq_false (Nat.not_lt.2 c12)
          try have c12b3 : (9223372036854775807 < ((t517.size + 1) + t518.size) + 1) = False := eq_false (Nat.not_lt.2 (by have h_ := c12; simp only [ByteArray.size_append] at h_; exact h_))
          replace H := Option.bind_eq_some_iff.mp H
          obtain ⟨t519, A130, H⟩ := H
          try dsimp only at H
          have A13 := Aside0.mk A130
          clear A130
          by_cases c14 : (((t517 ++ (⟨#[32]⟩ : ByteArray)) ++ t518) ++ (⟨#[32]⟩ : ByteArray)).size + t519.size ≤ 9223372036854775807
          ·rw [if_pos c14] at H
           have c14b0 := eq_true c14
           have c14b1 : decide ((((t517 ++ (⟨#[32]⟩ : ByteArray)) ++ t518) ++ (⟨#[32]⟩ : ByteArray)).size + t519.size ≤ 9223372036854775807) = true := decide_eq_true c14
           try have c14b2 : (9223372036854775807 < (((t517 ++ (⟨#[32]⟩ : ByteArray)) ++ t518) ++ (⟨#[32]⟩ : ByteArray)).size + t519.size) = False := eq_false (Nat.not_lt.2 c14)
           try have c14b3 : (9223372036854775807 < (((t517.size + 1) + t518.size) + 1) + t519.size) = False := eq_false (Nat.not_lt.2 (by have h_ := c14; simp only [ByteArray.size_append] at h_; exact h_))
           by_cases c15 : ((((t517 ++ (⟨#[32]⟩ : ByteArray)) ++ t518) ++ (⟨#[32]⟩ : ByteArray)) ++ t519).size + 1 ≤ 9223372036854775807
           ·rw [if_pos c15] at H
            have c15b0 := eq_true c15
            have c15b1 : decide (((((t517 ++ (⟨#[32]⟩ : ByteArray)) ++ t518) ++ (⟨#[32]⟩ : ByteArray)) ++ t519).size + 1 ≤ 9223372036854775807) = true := decide_eq_true c15
            try have c15b2 : (9223372036854775807 < ((((t517 ++ (⟨#[32]⟩ : ByteArray)) ++ t518) ++ (⟨#[32]⟩ : ByteArray)) ++ t519).size + 1) = False := eq_false (Nat.not_lt.2 c15)
            try have c15b3 : (9223372036854775807 < ((((t517.size + 1) + t518.size) + 1) + t519.size) + 1) = False := eq_false (Nat.not_lt.2 (by have h_ := c15; simp only [ByteArray.size_append] at h_; exact h_))
            by_cases c16 : x4_1.size + (((((t517 ++ (⟨#[32]⟩ : ByteArray)) ++ t518) ++ (⟨#[32]⟩ : ByteArray)) ++ t519) ++ (⟨#[10]⟩ : ByteArray)).size ≤ 9223372036854775807
            ·rw [if_pos c16] at H
             have c16b0 := eq_true c16
             have c16b1 : decide (x4_1.size + (((((t517 ++ (⟨#[32]⟩ : ByteArray)) ++ t518) ++ (⟨#[32]⟩ : ByteArray)) ++ t519) ++ (⟨#[10]⟩ : ByteArray)).size ≤ 9223372036854775807) = true := decide_eq_true c16
             try have c16b2 : (9223372036854775807 < x4_1.size + (((((t517 ++ (⟨#[32]⟩ : ByteArray)) ++ t518) ++ (⟨#[32]⟩ : ByteArray)) ++ t519) ++ (⟨#[10]⟩ : ByteArray)).size) = False := eq_false (Nat.not_lt.2 c16)
             try have c16b3 : (9223372036854775807 < x4_1.size + (((((t517.size + 1) + t518.size) + 1) + t519.size) + 1)) = False := eq_false (Nat.not_lt.2 (by have h_ := c16; simp only [ByteArray.size_append] at h_; exact h_))
             have H' := Aside0.mk H
             clear H
             have p515 : 0 ≤ (x12_1 : Int) := of_decide_eq_true (a7_)
             have q515 : x12_1 < (l0.length : Int) := of_decide_eq_true (a7_)
             obtain ⟨ad515, e515, hx515_0, hx515_1, hx515_2⟩ := at_T93 HR0.out x12_1 p515 q515
             cases e515
             replace hx515_0 := (HB.out.cell (World.block_lt_of_cell? w _ hx515_0)).trans hx515_0
             replace hx515_1 := (HB.out.cell (World.block_lt_of_cell? w _ hx515_1)).trans hx515_1
             replace hx515_2 := (HB.out.cell (World.block_lt_of_cell? w _ hx515_2)).trans hx515_2
             replace p515 := eq_true p515
             replace q515 := eq_true q515
             try go_wp2_with (first|((with_reducible refine gate_dst (N := 6) rfl ?_); refine box_event ?hg (N := 6) ?hd (cs := #[.int .i64 0, .int .i64 0, .int .i64 0]) (t := 93) ?hr ?_;(case hd => rfl);(case hg => rfl);(case hr => first|(go_simp;done)|(go_simp; rfl)); intro gb516 hg w17 hbox hb; have n0_ := Aside0.mk (below_step (a0_) hb); have n1_ := Aside0.mk (hbox); have n2_ := Aside0.mk ((by rw [hg]; exact (below_size (a0_)) : w.heap.size ≤ gb516)); have n3_ := Aside0.mk ((by rw [hg]; exact (below_size (a0_)) : w.heap.size ≤ gb516)); clear HB; have HB := n0_; have BK516 := n1_; have GW516 := n2_; have GE516 := n3_; clear n0_ n1_ n2_ n3_; clear hb hbox hg; have hcz18_0 : w17.cell? ⟨gb516, 0, none⟩ = some (.int .i64 0) := (blk_cell BK516.out 0).trans rfl; have hcz18_1 : w17.cell? ⟨gb516, 1, none⟩ = some (.int .i64 0) := (blk_cell BK516.out 1).trans rfl; have hcz18_2 : w17.cell? ⟨gb516, 2, none⟩ = some (.int .i64 0) := (blk_cell BK516.out 2).trans rfl; have hfz18_0 := blk_frozen BK516.out 0; have hfz18_1 := blk_frozen BK516.out 1; have hfz18_2 := blk_frozen BK516.out 2))
             have n0_ : Aside0 ((((w17.setCell ⟨gb516, 0, none⟩ (.int .i64 ((rd_T93 l0 x12_1).f0))).setCell ⟨gb516, 1, none⟩ (.int .i64 ((rd_T93 l0 x12_1).f1))).setCell ⟨gb516, 2, none⟩ (.int .i64 ((rd_T93 l0 x12_1).f2))).heap[gb516]? = some (.cells #[.int .i64 ((rd_T93 l0 x12_1).f0), .int .i64 ((rd_T93 l0 x12_1).f1), .int .i64 ((rd_T93 l0 x12_1).f2)] 93 (0, 0))) := ⟨(a25_ BK516.out)⟩
             have n1_ : Aside0 (Below w.heap.size w (((w17.setCell ⟨gb516, 0, none⟩ (.int .i64 ((rd_T93 l0 x12_1).f0))).setCell ⟨gb516, 1, none⟩ (.int .i64 ((rd_T93 l0 x12_1).f1))).setCell ⟨gb516, 2, none⟩ (.int .i64 ((rd_T93 l0 x12_1).f2)))) := ⟨(a8_ GE516.out)⟩
             (try clear BK516)
             (try clear HB)
             generalize (((w17.setCell ⟨gb516, 0, none⟩ (.int .i64 ((rd_T93 l0 x12_1).f0))).setCell ⟨gb516, 1, none⟩ (.int .i64 ((rd_T93 l0 x12_1).f1))).setCell ⟨gb516, 2, none⟩ (.int .i64 ((rd_T93 l0 x12_1).f2))) = w19 at n0_ n1_ ⊢
             have BK516 := n0_
             have HB := n1_
             clear n0_ n1_
             have n0_ := Aside0.mk (blk_drew BK516.out)
             have n1_ := Aside0.mk (below_drew1 HB.out)
             clear BK516
             clear HB
             have BK516 := n0_
             have HB := n1_
             clear n0_ n1_
             refine start_ (n := 17) (S := fun w' => w'.cell? ⟨gb516, 0, none⟩ = some (.int .i64 ((rd_T93 l0 x12_1).f0)) ∧ w'.cell? ⟨gb516, 1, none⟩ = some (.int .i64 ((rd_T93 l0 x12_1).f1)) ∧ w'.cell? ⟨gb516, 2, none⟩ = some (.int .i64 ((rd_T93 l0 x12_1).f2))) (ds := []) #[false, false, false, false, false, false, false, false, false, false, false, false, false, false, false, false, false] (by kernel_rfl) rfl rfl ⟨(blk_cell BK516.out 0).trans rfl, (blk_cell BK516.out 1).trans rfl, (blk_cell BK516.out 2).trans rfl⟩ (fun hHeld => ?_); refine with_tabW spec_PartsText.tab7 spec_PartsText.bits7 (fun HT_ HW_ => ?_)
             generalize w19.drew = w20 at BK516 HB hHeld ⊢
             refine pure_ (i := 0) (N := some 16) (v := ?_) (a' := ?_) #[true, false, false, false, false, false, false, false, false, false, false, false, false, false, false, false, false] rfl rfl (any_of HT_.out (by kernel_rfl)) (fun _ _ _ h => h) (Or.inl ⟨by rfl, ?_⟩) ?_ ?_
             rotate_left
             ·intro w'
              go_simp
              with_reducible rfl
             rotate_left
             ·simp only [Act.put, List.setIfInBounds_toArray, List.set_cons_zero, List.set_cons_succ, i64_w, i32_w]
              rfl
             refine pure_ (i := 1) (N := some 17) (v := ?_) (a' := ?_) #[true, true, false, false, false, false, false, false, false, false, false, false, false, false, false, false, false] rfl rfl (any_of HT_.out (by kernel_rfl)) (fun _ _ _ h => h) (Or.inl ⟨by rfl, ?_⟩) ?_ ?_
             rotate_left
             ·intro w'
              go_simp
              with_reducible rfl
             rotate_left
             ·simp only [Act.put, List.setIfInBounds_toArray, List.set_cons_zero, List.set_cons_succ, i64_w, i32_w]
              rfl
             refine pure_ (i := 5) (N := some 21) (v := ?_) (a' := ?_) #[true, true, false, false, false, true, false, false, false, false, false, false, false, false, false, false, false] rfl rfl (any_of HT_.out (by kernel_rfl)) (fun _ _ _ h => h) (Or.inl ⟨by rfl, ?_⟩) ?_ ?_
             rotate_left
             ·intro w'
              go_simp
              with_reducible rfl
             rotate_left
             ·simp only [Act.put, List.setIfInBounds_toArray, List.set_cons_zero, List.set_cons_succ, i64_w, i32_w]
              rfl
             refine pure_ (i := 10) (N := some 26) (v := ?_) (a' := ?_) #[true, true, false, false, false, true, false, false, false, false, true, false, false, false, false, false, false] rfl rfl (any_of HT_.out (by kernel_rfl)) (fun _ _ _ h => h) (Or.inl ⟨by rfl, ?_⟩) ?_ ?_
             rotate_left
             ·intro w'
              go_simp
              with_reducible rfl
             rotate_left
             ·simp only [Act.put, List.setIfInBounds_toArray, List.set_cons_zero, List.set_cons_succ, i64_w, i32_w]
              rfl
             refine take_ (i := 2) (N := some 18) (v := ?_) (a' := ?_) #[true, true, true, false, false, true, false, false, false, false, true, false, false, false, false, false, false] rfl rfl (take_ofW HT_.out HW_.out (by kernel_rfl)) (fun _ _ _ h => h) (Or.inl ⟨by rfl, ?_⟩) hHeld ?_ ?_
             rotate_left
             ·rintro w' ⟨s0, s1, s2⟩
              go_simp
              with_reducible rfl
             rotate_left
             ·simp only [Act.put, List.setIfInBounds_toArray, List.set_cons_zero, List.set_cons_succ, i64_w, i32_w]
              rfl
             refine take_ (i := 6) (N := some 22) (v := ?_) (a' := ?_) #[true, true, true, false, false, true, true, false, false, false, true, false, false, false, false, false, false] rfl rfl (take_ofW HT_.out HW_.out (by kernel_rfl)) (fun _ _ _ h => h) (Or.inl ⟨by rfl, ?_⟩) hHeld ?_ ?_
             rotate_left
             ·rintro w' ⟨s0, s1, s2⟩
              go_simp
              with_reducible rfl
             rotate_left
             ·simp only [Act.put, List.setIfInBounds_toArray, List.set_cons_zero, List.set_cons_succ, i64_w, i32_w]
              rfl
             refine take_ (i := 11) (N := some 27) (v := ?_) (a' := ?_) #[true, true, true, false, false, true, true, false, false, false, true, true, false, false, false, false, false] rfl rfl (take_ofW HT_.out HW_.out (by kernel_rfl)) (fun _ _ _ h => h) (Or.inl ⟨by rfl, ?_⟩) hHeld ?_ ?_
             rotate_left
             ·rintro w' ⟨s0, s1, s2⟩
              go_simp
              with_reducible rfl
             rotate_left
             ·simp only [Act.put, List.setIfInBounds_toArray, List.set_cons_zero, List.set_cons_succ, i64_w, i32_w]
              rfl
             refine one_ (i := 3) (N := some 19) #[true, true, true, true, false, true, true, false, false, false, true, true, false, false, false, false, false] rfl rfl (one_of HT_.out (by kernel_rfl)) (by decide) (fun K hK => ?_)
             refine goes_ Tryd.func97 (by kernel_rfl) rfl #[.int .i64 ((rd_T93 l0 x12_1).f0)] (by rfl) rfl rfl (by (try simp only [List.map_toArray, List.map_cons, List.map_nil]); first | done | rfl|(simp only [List.length_drop, List.length_take]; rfl)) ?_
             with_reducible refine (spec_l1Num.calls k1 ((rd_T93 l0 x12_1).f0) t517 _ A8.out).mono ?_
             rintro e w21 ⟨rfl, hb⟩
             refine ⟨_, rfl, ?_⟩
             have n0_ := Aside0.mk (blk_below (g := gb516) (o := .cells #[.int .i64 ((rd_T93 l0 x12_1).f0), .int .i64 ((rd_T93 l0 x12_1).f1), .int .i64 ((rd_T93 l0 x12_1).f2)] 93 (0, 0)) ((a17_ BK516.out)) hb)
             have n1_ := Aside0.mk (below_step ((a8_ GE516.out)) hb)
             clear BK516
             clear HB
             have BK516 := n0_
             have HB := n1_
             clear n0_ n1_
             (try clear hb)
             (try clear hb2)
             (try clear hk)
             (try clear hi)
             refine hK.out _ _ ⟨(blk_cell BK516.out 0).trans rfl, (blk_cell BK516.out 1).trans rfl, (blk_cell BK516.out 2).trans rfl⟩ (fun hHeld => ?_)
             clear hK K
             refine norm_ (a' := ?_) ?_ ?_
             rotate_left
             ·show Act.put _ (some 19) _ = _
              simp only [Act.put, List.setIfInBounds_toArray, List.set_cons_zero, List.set_cons_succ, i64_w, i32_w]
              rfl
             refine pure_ (i := 4) (N := some 20) (v := ?_) (a' := ?_) #[true, true, true, true, true, true, true, false, false, false, true, true, false, false, false, false, false] rfl rfl (any_of HT_.out (by kernel_rfl)) (fun _ _ _ h => h) (Or.inl ⟨by rfl, ?_⟩) ?_ ?_
             rotate_left
             ·intro w'
              go_simp
              with_reducible rfl
             rotate_left
             ·simp only [Act.put, List.setIfInBounds_toArray, List.set_cons_zero, List.set_cons_succ, i64_w, i32_w]
              rfl
             refine one_ (i := 7) (N := some 23) #[true, true, true, true, true, true, true, true, false, false, true, true, false, false, false, false, false] rfl rfl (one_of HT_.out (by kernel_rfl)) (by decide) (fun K hK => ?_)
             refine goes_ Tryd.func97 (by kernel_rfl) rfl #[.int .i64 ((rd_T93 l0 x12_1).f1)] (by rfl) rfl rfl (by (try simp only [List.map_toArray, List.map_cons, List.map_nil]); first | done | rfl|(simp only [List.length_drop, List.length_take]; rfl)) ?_
             with_reducible refine (spec_l1Num.calls k1 ((rd_T93 l0 x12_1).f1) t518 _ A10.out).mono ?_
             rintro e w22 ⟨rfl, hb⟩
             refine ⟨_, rfl, ?_⟩
             have n0_ := Aside0.mk (blk_below (g := gb516) (o := .cells #[.int .i64 ((rd_T93 l0 x12_1).f0), .int .i64 ((rd_T93 l0 x12_1).f1), .int .i64 ((rd_T93 l0 x12_1).f2)] 93 (0, 0)) ((a17_ BK516.out)) hb)
             have n1_ := Aside0.mk (below_step ((a8_ GE516.out)) hb)
             clear BK516
             clear HB
             have BK516 := n0_
             have HB := n1_
             clear n0_ n1_
             (try clear hb)
             (try clear hb2)
             (try clear hk)
             (try clear hi)
             refine hK.out _ _ ⟨(blk_cell BK516.out 0).trans rfl, (blk_cell BK516.out 1).trans rfl, (blk_cell BK516.out 2).trans rfl⟩ (fun hHeld => ?_)
             clear hK K
             refine norm_ (a' := ?_) ?_ ?_
             rotate_left
             ·show Act.put _ (some 23) _ = _
              simp only [Act.put, List.setIfInBounds_toArray, List.set_cons_zero, List.set_cons_succ, i64_w, i32_w]
              rfl
             refine pure_ (i := 8) (N := some 24) (v := ?_) (a' := ?_) #[true, true, true, true, true, true, true, true, true, false, true, true, false, false, false, false, false] rfl rfl (any_of HT_.out (by kernel_rfl)) (fun _ _ _ h => h) (Or.inl ⟨by rfl, ?_⟩) ?_ ?_
             rotate_left
             ·intro w'
              go_simp
              with_reducible rfl
             rotate_left
             ·simp only [Act.put, List.setIfInBounds_toArray, List.set_cons_zero, List.set_cons_succ, i64_w, i32_w]
              rfl
             refine pure_ (i := 9) (N := some 25) (v := ?_) (a' := ?_) #[true, true, true, true, true, true, true, true, true, true, true, true, false, false, false, false, false] rfl rfl (any_of HT_.out (by kernel_rfl)) (fun _ _ _ h => h) (Or.inl ⟨by rfl, ?_⟩) ?_ ?_
             rotate_left
             ·intro w'
              go_simp
              with_reducible rfl
             rotate_left
             ·simp only [Act.put, List.setIfInBounds_toArray, List.set_cons_zero, List.set_cons_succ, i64_w, i32_w]
              rfl
             refine one_ (i := 12) (N := some 28) #[true, true, true, true, true, true, true, true, true, true, true, true, true, false, false, false, false] rfl rfl (one_of HT_.out (by kernel_rfl)) (by decide) (fun K hK => ?_)
             refine goes_ Tryd.func97 (by kernel_rfl) rfl #[.int .i64 ((rd_T93 l0 x12_1).f2)] (by rfl) rfl rfl (by (try simp only [List.map_toArray, List.map_cons, List.map_nil]); first | done | rfl|(simp only [List.length_drop, List.length_take]; rfl)) ?_
             with_reducible refine (spec_l1Num.calls k1 ((rd_T93 l0 x12_1).f2) t519 _ A13.out).mono ?_
             rintro e w23 ⟨rfl, hb⟩
             refine ⟨_, rfl, ?_⟩
             have n0_ := Aside0.mk (blk_below (g := gb516) (o := .cells #[.int .i64 ((rd_T93 l0 x12_1).f0), .int .i64 ((rd_T93 l0 x12_1).f1), .int .i64 ((rd_T93 l0 x12_1).f2)] 93 (0, 0)) ((a17_ BK516.out)) hb)
             have n1_ := Aside0.mk (below_step ((a8_ GE516.out)) hb)
             clear BK516
             clear HB
             have BK516 := n0_
             have HB := n1_
             clear n0_ n1_
             (try clear hb)
             (try clear hb2)
             (try clear hk)
             (try clear hi)
             refine hK.out _ _ ⟨(blk_cell BK516.out 0).trans rfl, (blk_cell BK516.out 1).trans rfl, (blk_cell BK516.out 2).trans rfl⟩ (fun hHeld => ?_)
             clear hK K
             refine norm_ (a' := ?_) ?_ ?_
             rotate_left
             ·show Act.put _ (some 28) _ = _
              simp only [Act.put, List.setIfInBounds_toArray, List.set_cons_zero, List.set_cons_succ, i64_w, i32_w]
              rfl
             refine pure_ (i := 13) (N := some 29) (v := ?_) (a' := ?_) #[true, true, true, true, true, true, true, true, true, true, true, true, true, true, false, false, false] rfl rfl (any_of HT_.out (by kernel_rfl)) (fun _ _ _ h => h) (Or.inl ⟨by rfl, ?_⟩) ?_ ?_
             rotate_left
             ·intro w'
              go_simp
              with_reducible rfl
             rotate_left
             ·simp only [Act.put, List.setIfInBounds_toArray, List.set_cons_zero, List.set_cons_succ, i64_w, i32_w]
              rfl
             refine pure_ (i := 14) (N := some 30) (v := ?_) (a' := ?_) #[true, true, true, true, true, true, true, true, true, true, true, true, true, true, true, false, false] rfl rfl (any_of HT_.out (by kernel_rfl)) (fun _ _ _ h => h) (Or.inl ⟨by rfl, ?_⟩) ?_ ?_
             rotate_left
             ·intro w'
              go_simp
              with_reducible rfl
             rotate_left
             ·simp only [Act.put, List.setIfInBounds_toArray, List.set_cons_zero, List.set_cons_succ, i64_w, i32_w]
              rfl
             refine pure_ (i := 15) (N := some 31) (v := ?_) (a' := ?_) #[true, true, true, true, true, true, true, true, true, true, true, true, true, true, true, true, false] rfl rfl (any_of HT_.out (by kernel_rfl)) (fun _ _ _ h => h) (Or.inl ⟨by rfl, ?_⟩) ?_ ?_
             rotate_left
             ·intro w'
              go_simp
              with_reducible rfl
             rotate_left
             ·simp only [Act.put, List.setIfInBounds_toArray, List.set_cons_zero, List.set_cons_succ, i64_w, i32_w]
              rfl
             refine pure_ (i := 16) (N := some 4) (v := ?_) (a' := ?_) #[true, true, true, true, true, true, true, true, true, true, true, true, true, true, true, true, true] rfl rfl (any_of HT_.out (by kernel_rfl)) (fun _ _ _ h => h) (Or.inl ⟨by rfl, ?_⟩) ?_ ?_
             rotate_left
             ·intro w'
              go_simp
              with_reducible rfl
             rotate_left
             ·simp only [Act.put, List.setIfInBounds_toArray, List.set_cons_zero, List.set_cons_succ, i64_w, i32_w]
              rfl
             refine done_ (done_of HT_.out (by kernel_rfl)) ?_
             try go_wp2
             go_roundg k1
             case measure => have := HK1.out; omega
             case rel => exact ⟨(x4_1 ++ (((((t517 ++ (⟨#[32]⟩ : ByteArray)) ++ t518) ++ (⟨#[32]⟩ : ByteArray)) ++ t519) ++ (⟨#[10]⟩ : ByteArray))), (wrap64 (x12_1 + 1)), (by first | rfl|(simp;done)|(simp [*];done)), (by first | rfl|(simp;done)|(simp [*];done)), H', ⟨by have := HK1.out; omega⟩, ⟨(a8_ GE516.out)⟩⟩
            ·rw [if_neg c16] at H
             exact absurd H (by simp)
           ·rw [if_neg c15] at H
            exact absurd H (by simp)
          ·rw [if_neg c14] at H
           exact absurd H (by simp)
         ·rw [if_neg c12] at H
          exact absurd H (by simp)
        ·rw [if_neg c11] at H
         exact absurd H (by simp)
       ·rw [if_neg c9] at H
        exact absurd H (by simp)
      ·rw [if_neg c7] at H
       exact absurd H (by simp)
     ·rw [if_neg c6] at H
      exact absurd H (by simp)
    ·rw [if_neg c5] at H
     have c5b0 : decide (x12_1 < (l0.length : Int)) = false := decide_eq_false c5
     clear c5
     simp only [Option.some.injEq, Prod.mk.injEq] at H
     obtain ⟨rfl, rfl⟩ := H
     go_wp2
     go_ret2
     exact ⟨a5_, a0_⟩
 ·replace c3 := Bool.eq_false_iff.mpr c3
  subst c3
  have H1 : (some ((⟨#[]⟩ : ByteArray), false)) = some (r1, r2) := by rw [if_neg (show ¬ (false = true) by decide)] at H; exact H
  clear H
  have H := H1
  clear H1
  simp only [Option.some.injEq, Prod.mk.injEq] at H
  obtain ⟨rfl, rfl⟩ := H
  go_enter Tryd.func40, Tryd.ntmps40
  go_wp2_with (first|((with_reducible refine gate_callee (f := 93) rfl ?_); refine goesL_ (some 8) rfl rfl Tryd.func93 (by kernel_rfl) rfl #[.slice A0 l0.length c0] rfl (by (try simp only [List.map_toArray, List.map_cons, List.map_nil]); first | done | rfl|(simp only [List.length_drop, List.length_take]; rfl)) ?_; (with_reducible refine (spec_edGood.calls k _ _ l0 false _ ?side1 ?side2 A2.out).mono ?_);(case side1 => exact (a10_ HR0.out));(case side2 => exact HC0.out); rintro e w24 ⟨rfl, hb⟩; refine ⟨_, rfl, ?_⟩; have n0_ := Aside0.mk (below_step (a0_) hb); clear HB; have HB := n0_; clear n0_; (try clear hb); (try clear hb2); (try clear hk); (try clear hi)))
  go_ret2
  exact ⟨a5_, a0_⟩

-- NOT PRINTED: function 118 (impl_Part_118)

-- NOT PRINTED: function 98 (impl_Part_98)

/-! ### impl_Part_99: function 99 (by hand: a copy of a slice) -/
def impl_Part_99.f (l0 : List S93) : Option (List S93) := if l0.length < 1000000000 then some l0 else none
theorem impl_Part_99.info : (Tryd.prog.info? 93).map (fun i => (i.zero, i.size, i.bytes)) = some (some (.agg #[(.int .i64 0), (.int .i64 0), (.int .i64 0)]), 3, 24) := by kernel_rfl
set_option maxHeartbeats 8000000 in
set_option maxRecDepth 100000 in
theorem impl_Part_99.calls (A0 : Option Addr) (c0 : Nat) (l0 : List S93) (r : List S93) (w : World) (hr0 : Kd.C k93 w A0 l0.length l0) (hc0 : l0.length ≤ c0) (h : impl_Part_99.f l0 = some r) :
 Calls Tryd.prog 99 #[.slice A0 l0.length c0] w fun e w' => ∃ v0_ : Value, e = .returned (v0_) ∧ Kd.R k93 93 w' w.heap.size (fun _ => True) v0_ r ∧ Below w.heap.size w w' := by
 unfold impl_Part_99.f at h
 by_cases hlen : l0.length < 1000000000
 ·rw [if_pos hlen] at h
  obtain rfl := Option.some.inj h
  clear h
  cases A0 with
  | none =>
   have hz : l0 = [] := by
    rcases Nat.eq_zero_or_pos l0.length with h0 | h0
    ·exact List.eq_nil_of_length_eq_zero h0
    ·obtain ⟨ad, e, _⟩ := hr0.2.2 h0
     cases e
   subst hz
   have hq : ∀ W : World, (binOp .eql 46 (.slice none 0 c0) (.slice none 0 0)).run Tryd.prog W = .ok (.bool true) W := fun W => Go.run_eql_slice_nil W 46 93 none 0 c0 Tryd.underlying46
   clear hr0 hc0 hlen
   go_enter Tryd.func99, Tryd.ntmps99
   go_wp2
   go_ret
   exact ⟨_, rfl, Kd.R_nil _ _ _ _ _, Below.refl _ _⟩
  | some ad =>
   have hq : ∀ W : World, (binOp .eql 46 (.slice (some ad) l0.length c0) (.slice none 0 0)).run Tryd.prog W = .ok (.bool false) W := fun W => Go.run_eql_slice_nil W 46 93 (some ad) l0.length c0 Tryd.underlying46
   have HR0 := Aside0.mk hr0
   have HC0 := Aside0.mk hc0
   have HL := Aside0.mk hlen
   clear hr0 hc0 hlen
   have HB := Aside0.mk (Below.refl w.heap.size w)
   go_enter Tryd.func99, Tryd.ntmps99
   go_wp2_with (first|((with_reducible refine gate_dst (N := 5) rfl ?_); refine Kd.R_lit k93 _ 93 ?hg (N := 5) ?hd (xs := ([] : List S93)) (inner := []) (ok := fun _ => True) (okp := fun _ => True) ?hr ?hp (fun _ hk => hk) trivial (Below.refl _ _) (Nat.le_refl _) (by simp) ?_;(case hd => rfl);(case hg => rfl);(case hr => first|(go_simp;done)|(go_simp; rfl));(case hp => exact (Reps.none _ _)); intro v112 w3 ho4 hb hg_ hnew_; clear hg_ hnew_; have n0_ := Aside0.mk (Kd.R_lower ho4 (below_size (a0_))); have n1_ := Aside0.mk (below_step (a0_) hb); clear HB; have HO113 := n0_; have HB := n1_; clear n0_ n1_; clear hb ho4)|((with_reducible refine gate_builtin (b := .append) (xs := #[.tmp 5, .tmp 6]) rfl ?_); at_builtin; refine Kd.R_append_rows k93 (w0 := w) w.heap.size rfl (.tmp 5) (.tmp 6) 46 93 (.agg #[(.int .i64 0), (.int .i64 0), (.int .i64 0)]) 24 rfl Tryd.underlying46 impl_Part_99.info rfl (by decide) (by omega) v112 [] l0 _ _ _ (fun _ => True) (fun _ => False) rfl rfl ?aO ?aR (fun _ _ h => h) (fun _ h => h.elim) ?aF ?aB ?aS ?aL ?_;(case aR => exact (a11_ HR0.out));(case aB => exact (a0_));(case aF => exact (fun _ _ => trivial));(case aO => exact ((a2_ HO113.out)));(case aS => exact (below_size (a0_)));(case aL => have := HL.out; simp only [List.length_nil]; omega); intro v115 w5 ho hb hg hat; have n0_ := Aside0.mk (hb); have n1_ := Aside0.mk (ho); clear HB; clear HO113; have HB := n0_; have HO116 := n1_; clear n0_ n1_; clear ho hb hg hat))
   go_ret
   refine ⟨_, rfl, ?_, a0_⟩
   have HX := HO116.out
   rw [List.nil_append] at HX
   exact (by (with_reducible repeat (first|apply Kd.R_alloc|apply Kd.R_drewN|apply Kd.R_drew)); exact HX)
 ·rw [if_neg hlen] at h
  exact absurd h (by simp)


end Go.Proofs.YtkkhcemkppmgdaaDoor.QFnParts
