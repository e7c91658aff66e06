/- Written by a program of this session (the kit's printer, with leaf contracts proved by hand put in): what each Go function computes, and that the call computes it. No condition but those that each theorem names. -/
import Derived.Test.YtpbffmjjhmllbaaDoorQFnExactParseCataloguex0
import Derived.Test.YtpbffmjjhmllbaaDoorQFnExactParseCataloguex2
namespace Go.Proofs.YtpbffmjjhmllbaaDoor.QFnExactParseCatalogue
open Go.RowKit Go.Proofs.YtpbffmjjhmllbaaDoorW.PrintWords Go.Proofs.YtpbffmjjhmllbaaDoorW.PrintLast Go.Proofs.YtpbffmjjhmllbaaDoorW.PrintMore
attribute [local go_sem] max2_int min2_int max_two min_two max_three min_three max_four min_four   -- for this text's walks alone
set_option linter.unusedVariables false
set_option linter.unusedSimpArgs false

/-! ### spec_caText: function 66 -/
def spec_caText.l0 : Nat → ByteArray → List (S78) → Int → Int → Option (ByteArray)
  | 0, _, _, _, _ => none
  | k + 1, x3, x6, x7, x8 => if x8 < x7 then (if 0 ≤ x8 then (if x8 < (x6.length : Int) then (if ((rd_T78 x6 x8).f0).size + 1 ≤ 9223372036854775807 then (if (((rd_T78 x6 x8).f0) ++ (⟨#[32]⟩ : ByteArray)).size + ((rd_T78 x6 x8).f1).size ≤ 9223372036854775807 then (if ((((rd_T78 x6 x8).f0) ++ (⟨#[32]⟩ : ByteArray)) ++ ((rd_T78 x6 x8).f1)).size + 1 ≤ 9223372036854775807 then ((spec_l1Num.f k ((rd_T78 x6 x8).f2)).bind fun t128 => (if (((((rd_T78 x6 x8).f0) ++ (⟨#[32]⟩ : ByteArray)) ++ ((rd_T78 x6 x8).f1)) ++ (⟨#[32]⟩ : ByteArray)).size + t128.size ≤ 9223372036854775807 then (if ((((((rd_T78 x6 x8).f0) ++ (⟨#[32]⟩ : ByteArray)) ++ ((rd_T78 x6 x8).f1)) ++ (⟨#[32]⟩ : ByteArray)) ++ t128).size + 1 ≤ 9223372036854775807 then (if x3.size + (((((((rd_T78 x6 x8).f0) ++ (⟨#[32]⟩ : ByteArray)) ++ ((rd_T78 x6 x8).f1)) ++ (⟨#[32]⟩ : ByteArray)) ++ t128) ++ (⟨#[32]⟩ : ByteArray)).size ≤ 9223372036854775807 then (if ((rd_T78 x6 x8).f3) < 0 then (if (x3 ++ (((((((rd_T78 x6 x8).f0) ++ (⟨#[32]⟩ : ByteArray)) ++ ((rd_T78 x6 x8).f1)) ++ (⟨#[32]⟩ : ByteArray)) ++ t128) ++ (⟨#[32]⟩ : ByteArray))).size + 2 ≤ 9223372036854775807 then (spec_caText.l0 k ((x3 ++ (((((((rd_T78 x6 x8).f0) ++ (⟨#[32]⟩ : ByteArray)) ++ ((rd_T78 x6 x8).f1)) ++ (⟨#[32]⟩ : ByteArray)) ++ t128) ++ (⟨#[32]⟩ : ByteArray))) ++ (⟨#[45, 10]⟩ : ByteArray)) x6 x7 (wrap64 (x8 + 1))) else (none)) else ((spec_l1Num.f k ((rd_T78 x6 x8).f3)).bind fun t129 => (if t129.size + 1 ≤ 9223372036854775807 then (if (x3 ++ (((((((rd_T78 x6 x8).f0) ++ (⟨#[32]⟩ : ByteArray)) ++ ((rd_T78 x6 x8).f1)) ++ (⟨#[32]⟩ : ByteArray)) ++ t128) ++ (⟨#[32]⟩ : ByteArray))).size + (t129 ++ (⟨#[10]⟩ : ByteArray)).size ≤ 9223372036854775807 then (spec_caText.l0 k ((x3 ++ (((((((rd_T78 x6 x8).f0) ++ (⟨#[32]⟩ : ByteArray)) ++ ((rd_T78 x6 x8).f1)) ++ (⟨#[32]⟩ : ByteArray)) ++ t128) ++ (⟨#[32]⟩ : ByteArray))) ++ (t129 ++ (⟨#[10]⟩ : ByteArray))) x6 x7 (wrap64 (x8 + 1))) else (none)) else (none)))) else (none)) else (none)) else (none))) else (none)) else (none)) else (none)) else (none)) else (none)) else (some x3)
def spec_caText.f (k : Nat) (l0 : List (S78)) : Option (ByteArray) := spec_caText.l0 k (⟨#[]⟩ : ByteArray) l0 (l0.length : Int) 0
theorem spec_caText.mono_l : ∀ k, (∀ y0 y1 y2 y3, LeO (spec_caText.l0 k y0 y1 y2 y3) (spec_caText.l0 (k + 1) y0 y1 y2 y3))
  | 0 => fun _ _ _ _ r h => by simp [spec_caText.l0] at h
  | k + 1 => by
    have ih0 := spec_caText.mono_l k
    · intro y0 y1 y2 y3
      unfold spec_caText.l0
      repeat' first
      | (with_reducible exact ih0 _ _ _ _)
      | (with_reducible exact spec_l1Num.mono _ _)
      | (with_reducible exact LeO.refl _)
      | (with_reducible exact LeO.none _)
      | (with_reducible refine LeO.ite ?_ ?_)
      | (with_reducible refine LeO.bind ?_ (fun _ => ?_))
      | exact ih0 _ _ _ _
      | exact spec_l1Num.mono _ _
      | exact LeO.none _
      | refine LeO.ite ?_ ?_
      | refine LeO.bind ?_ (fun _ => ?_)
theorem spec_caText.mono : ∀ a0 k, LeO (spec_caText.f k a0) (spec_caText.f (k + 1) a0) := by
  intro a0 k
  have ih0 := spec_caText.mono_l k
  unfold spec_caText.f
  repeat' first
      | (with_reducible exact ih0 _ _ _ _)
      | (with_reducible exact spec_l1Num.mono _ _)
      | (with_reducible exact LeO.refl _)
      | (with_reducible exact LeO.none _)
      | (with_reducible refine LeO.ite ?_ ?_)
      | (with_reducible refine LeO.bind ?_ (fun _ => ?_))
      | exact ih0 _ _ _ _
      | exact spec_l1Num.mono _ _
      | exact LeO.none _
      | refine LeO.ite ?_ ?_
      | refine LeO.bind ?_ (fun _ => ?_)
def spec_caText.T5 : Bool × List (List Nat × List Nat) := (true, [([], []), ([], []), ([1], [1]), ([2], [2]), ([], []), ([4], [4]), ([3, 5], [3, 5]), ([6], [6]), ([], []), ([8], [8]), ([9], [9]), ([7, 10], [7, 10]), ([11], [11]), ([0, 12], [0, 12]), ([13, 10, 0, 1, 2, 3, 4, 5, 6, 7, 8, 9, 10, 11, 12, 13], [0, 13])])
def spec_caText.B5 : List Nat := [0, 0, 2, 6, 0, 16, 62, 126, 0, 256, 768, 2046, 4094, 8191, 16383]
theorem spec_caText.tab5 : rtab .any (opsOf Tryd.f66 5) = spec_caText.T5 := by kernel_rfl
theorem spec_caText.bits5 : waitsOk spec_caText.T5.2 spec_caText.B5 = true := by kernel_rfl
set_option maxHeartbeats 8000000 in
set_option maxRecDepth 100000 in
theorem spec_caText.calls (k : Nat) (A0 : Option Addr) (c0 : Nat) (l0 : List (S78)) (r : ByteArray) (w : World) (hr0 : Kd.C k78 w A0 l0.length l0) (hc0 : l0.length ≤ c0) (h : spec_caText.f k l0 = some r) :
    Calls Tryd.prog 66 #[.slice A0 l0.length c0] w fun e w' => e = .returned (.string r) ∧ Below w.heap.size w w' := by
  have hu78 := Tryd.underlying78
  have HR0 := Aside0.mk hr0
  have HC0 := Aside0.mk hc0
  clear hr0 hc0
  have HB := Aside0.mk (Below.refl w.heap.size w)
  have H : (spec_caText.l0 k (⟨#[]⟩ : ByteArray) l0 (l0.length : Int) 0) = some r := h
  clear h
  have H' := Aside0.mk H
  clear H
  go_enter Tryd.func66, Tryd.ntmps66
  go_wp2
  (try simp only [Act.put, List.setIfInBounds_toArray, List.set_cons_zero, List.set_cons_succ])
  go_loopg [3, 8] k (fun kq v3 v8 w' => ∃ (x3_1 : ByteArray) (x8_1 : Int), v3 = .string x3_1 ∧ v8 = .int .i64 x8_1 ∧ Aside0 (spec_caText.l0 kq x3_1 l0 (l0.length : Int) x8_1 = some r) ∧ Aside0 (kq ≤ k) ∧ Aside0 (Below w.heap.size w w'))
  case atStart => exact ⟨((⟨#[]⟩ : ByteArray)), (0), (by first | rfl | (simp; done) | (simp [*]; done)), (by first | rfl | (simp; done) | (simp [*]; done)), H', ⟨Nat.le_refl _⟩, ⟨by repeat (first | (with_reducible first | exact HB.out | apply below_alloc | apply pw_below_drewN | apply below_drew1) | exact HB.out)⟩⟩
  case round =>
    clear H'
    obtain ⟨x3_1, x8_1, rfl, rfl, HA, HK1, HB⟩ := hrel
    cases gk with
    | zero => exact absurd HA.out (by simp [spec_caText.l0])
    | succ k1 =>
      have H := HA.out
      clear HA
      simp only [spec_caText.l0] at H
      by_cases c2 : x8_1 < (l0.length : Int)
      · rw [if_pos c2] at H
        have c2b0 : decide (x8_1 < (l0.length : Int)) = true := decide_eq_true c2
        clear c2
        by_cases c3 : 0 ≤ x8_1
        · rw [if_pos c3] at H
          have c3b0 : decide (0 ≤ x8_1) = true := decide_eq_true c3
          clear c3
          by_cases c4 : x8_1 < (l0.length : Int)
          · rw [if_pos c4] at H
            have c4b0 : decide (x8_1 < (l0.length : Int)) = true := decide_eq_true c4
            clear c4
            by_cases c5 : ((rd_T78 l0 x8_1).f0).size + 1 ≤ 9223372036854775807
            · rw [if_pos c5] at H
              have c5b0 := eq_true c5
              have c5b1 : decide (((rd_T78 l0 x8_1).f0).size + 1 ≤ 9223372036854775807) = true := decide_eq_true c5
              try have c5b2 : (9223372036854775807 < ((rd_T78 l0 x8_1).f0).size + 1) = False := eq_false (Nat.not_lt.2 c5)
              by_cases c6 : (((rd_T78 l0 x8_1).f0) ++ (⟨#[32]⟩ : ByteArray)).size + ((rd_T78 l0 x8_1).f1).size ≤ 9223372036854775807
              · rw [if_pos c6] at H
                have c6b0 := eq_true c6
                have c6b1 : decide ((((rd_T78 l0 x8_1).f0) ++ (⟨#[32]⟩ : ByteArray)).size + ((rd_T78 l0 x8_1).f1).size ≤ 9223372036854775807) = true := decide_eq_true c6
                try have c6b2 : (9223372036854775807 < (((rd_T78 l0 x8_1).f0) ++ (⟨#[32]⟩ : ByteArray)).size + ((rd_T78 l0 x8_1).f1).size) = False := eq_false (Nat.not_lt.2 c6)
                try (have h_ := c6; (repeat rw [ByteArray.size_append] at h_); (try rw [show (⟨#[32]⟩ : ByteArray).size = 1 from rfl] at h_); have c6b3 := eq_false (Nat.not_lt.2 h_); clear h_)
                by_cases c7 : ((((rd_T78 l0 x8_1).f0) ++ (⟨#[32]⟩ : ByteArray)) ++ ((rd_T78 l0 x8_1).f1)).size + 1 ≤ 9223372036854775807
                · rw [if_pos c7] at H
                  have c7b0 := eq_true c7
                  have c7b1 : decide (((((rd_T78 l0 x8_1).f0) ++ (⟨#[32]⟩ : ByteArray)) ++ ((rd_T78 l0 x8_1).f1)).size + 1 ≤ 9223372036854775807) = true := decide_eq_true c7
                  try have c7b2 : (9223372036854775807 < ((((rd_T78 l0 x8_1).f0) ++ (⟨#[32]⟩ : ByteArray)) ++ ((rd_T78 l0 x8_1).f1)).size + 1) = False := eq_false (Nat.not_lt.2 c7)
                  try (have h_ := c7; (repeat rw [ByteArray.size_append] at h_); (try rw [show (⟨#[32]⟩ : ByteArray).size = 1 from rfl] at h_); have c7b3 := eq_false (Nat.not_lt.2 h_); clear h_)
                  replace H := Option.bind_eq_some_iff.mp H
                  obtain ⟨t128, A80, H⟩ := H
                  replace H : (if (((((rd_T78 l0 x8_1).f0) ++ (⟨#[32]⟩ : ByteArray)) ++ ((rd_T78 l0 x8_1).f1)) ++ (⟨#[32]⟩ : ByteArray)).size + t128.size ≤ 9223372036854775807 then (if ((((((rd_T78 l0 x8_1).f0) ++ (⟨#[32]⟩ : ByteArray)) ++ ((rd_T78 l0 x8_1).f1)) ++ (⟨#[32]⟩ : ByteArray)) ++ t128).size + 1 ≤ 9223372036854775807 then (if x3_1.size + (((((((rd_T78 l0 x8_1).f0) ++ (⟨#[32]⟩ : ByteArray)) ++ ((rd_T78 l0 x8_1).f1)) ++ (⟨#[32]⟩ : ByteArray)) ++ t128) ++ (⟨#[32]⟩ : ByteArray)).size ≤ 9223372036854775807 then (if ((rd_T78 l0 x8_1).f3) < 0 then (if (x3_1 ++ (((((((rd_T78 l0 x8_1).f0) ++ (⟨#[32]⟩ : ByteArray)) ++ ((rd_T78 l0 x8_1).f1)) ++ (⟨#[32]⟩ : ByteArray)) ++ t128) ++ (⟨#[32]⟩ : ByteArray))).size + 2 ≤ 9223372036854775807 then (spec_caText.l0 k1 ((x3_1 ++ (((((((rd_T78 l0 x8_1).f0) ++ (⟨#[32]⟩ : ByteArray)) ++ ((rd_T78 l0 x8_1).f1)) ++ (⟨#[32]⟩ : ByteArray)) ++ t128) ++ (⟨#[32]⟩ : ByteArray))) ++ (⟨#[45, 10]⟩ : ByteArray)) l0 (l0.length : Int) (wrap64 (x8_1 + 1))) else (none)) else ((spec_l1Num.f k1 ((rd_T78 l0 x8_1).f3)).bind fun t129 => (if t129.size + 1 ≤ 9223372036854775807 then (if (x3_1 ++ (((((((rd_T78 l0 x8_1).f0) ++ (⟨#[32]⟩ : ByteArray)) ++ ((rd_T78 l0 x8_1).f1)) ++ (⟨#[32]⟩ : ByteArray)) ++ t128) ++ (⟨#[32]⟩ : ByteArray))).size + (t129 ++ (⟨#[10]⟩ : ByteArray)).size ≤ 9223372036854775807 then (spec_caText.l0 k1 ((x3_1 ++ (((((((rd_T78 l0 x8_1).f0) ++ (⟨#[32]⟩ : ByteArray)) ++ ((rd_T78 l0 x8_1).f1)) ++ (⟨#[32]⟩ : ByteArray)) ++ t128) ++ (⟨#[32]⟩ : ByteArray))) ++ (t129 ++ (⟨#[10]⟩ : ByteArray))) l0 (l0.length : Int) (wrap64 (x8_1 + 1))) else (none)) else (none)))) else (none)) else (none)) else (none)) = some r := H
                  have A8 := Aside0.mk A80
                  clear A80
                  by_cases c9 : (((((rd_T78 l0 x8_1).f0) ++ (⟨#[32]⟩ : ByteArray)) ++ ((rd_T78 l0 x8_1).f1)) ++ (⟨#[32]⟩ : ByteArray)).size + t128.size ≤ 9223372036854775807
                  · rw [if_pos c9] at H
                    have c9b0 := eq_true c9
                    have c9b1 : decide ((((((rd_T78 l0 x8_1).f0) ++ (⟨#[32]⟩ : ByteArray)) ++ ((rd_T78 l0 x8_1).f1)) ++ (⟨#[32]⟩ : ByteArray)).size + t128.size ≤ 9223372036854775807) = true := decide_eq_true c9
                    try have c9b2 : (9223372036854775807 < (((((rd_T78 l0 x8_1).f0) ++ (⟨#[32]⟩ : ByteArray)) ++ ((rd_T78 l0 x8_1).f1)) ++ (⟨#[32]⟩ : ByteArray)).size + t128.size) = False := eq_false (Nat.not_lt.2 c9)
                    try (have h_ := c9; (repeat rw [ByteArray.size_append] at h_); (try rw [show (⟨#[32]⟩ : ByteArray).size = 1 from rfl] at h_); have c9b3 := eq_false (Nat.not_lt.2 h_); clear h_)
                    by_cases c10 : ((((((rd_T78 l0 x8_1).f0) ++ (⟨#[32]⟩ : ByteArray)) ++ ((rd_T78 l0 x8_1).f1)) ++ (⟨#[32]⟩ : ByteArray)) ++ t128).size + 1 ≤ 9223372036854775807
                    · rw [if_pos c10] at H
                      have c10b0 := eq_true c10
                      have c10b1 : decide (((((((rd_T78 l0 x8_1).f0) ++ (⟨#[32]⟩ : ByteArray)) ++ ((rd_T78 l0 x8_1).f1)) ++ (⟨#[32]⟩ : ByteArray)) ++ t128).size + 1 ≤ 9223372036854775807) = true := decide_eq_true c10
                      try have c10b2 : (9223372036854775807 < ((((((rd_T78 l0 x8_1).f0) ++ (⟨#[32]⟩ : ByteArray)) ++ ((rd_T78 l0 x8_1).f1)) ++ (⟨#[32]⟩ : ByteArray)) ++ t128).size + 1) = False := eq_false (Nat.not_lt.2 c10)
                      try (have h_ := c10; (repeat rw [ByteArray.size_append] at h_); (try rw [show (⟨#[32]⟩ : ByteArray).size = 1 from rfl] at h_); have c10b3 := eq_false (Nat.not_lt.2 h_); clear h_)
                      by_cases c11 : x3_1.size + (((((((rd_T78 l0 x8_1).f0) ++ (⟨#[32]⟩ : ByteArray)) ++ ((rd_T78 l0 x8_1).f1)) ++ (⟨#[32]⟩ : ByteArray)) ++ t128) ++ (⟨#[32]⟩ : ByteArray)).size ≤ 9223372036854775807
                      · rw [if_pos c11] at H
                        have c11b0 := eq_true c11
                        have c11b1 : decide (x3_1.size + (((((((rd_T78 l0 x8_1).f0) ++ (⟨#[32]⟩ : ByteArray)) ++ ((rd_T78 l0 x8_1).f1)) ++ (⟨#[32]⟩ : ByteArray)) ++ t128) ++ (⟨#[32]⟩ : ByteArray)).size ≤ 9223372036854775807) = true := decide_eq_true c11
                        try have c11b2 : (9223372036854775807 < x3_1.size + (((((((rd_T78 l0 x8_1).f0) ++ (⟨#[32]⟩ : ByteArray)) ++ ((rd_T78 l0 x8_1).f1)) ++ (⟨#[32]⟩ : ByteArray)) ++ t128) ++ (⟨#[32]⟩ : ByteArray)).size) = False := eq_false (Nat.not_lt.2 c11)
                        try (have h_ := c11; (repeat rw [ByteArray.size_append] at h_); (try rw [show (⟨#[32]⟩ : ByteArray).size = 1 from rfl] at h_); have c11b3 := eq_false (Nat.not_lt.2 h_); clear h_)
                        by_cases c12 : ((rd_T78 l0 x8_1).f3) < 0
                        · rw [if_pos c12] at H
                          have c12b0 : decide (((rd_T78 l0 x8_1).f3) < 0) = true := decide_eq_true c12
                          clear c12
                          by_cases c13 : (x3_1 ++ (((((((rd_T78 l0 x8_1).f0) ++ (⟨#[32]⟩ : ByteArray)) ++ ((rd_T78 l0 x8_1).f1)) ++ (⟨#[32]⟩ : ByteArray)) ++ t128) ++ (⟨#[32]⟩ : ByteArray))).size + 2 ≤ 9223372036854775807
                          · rw [if_pos c13] at H
                            have c13b0 := eq_true c13
                            have c13b1 : decide ((x3_1 ++ (((((((rd_T78 l0 x8_1).f0) ++ (⟨#[32]⟩ : ByteArray)) ++ ((rd_T78 l0 x8_1).f1)) ++ (⟨#[32]⟩ : ByteArray)) ++ t128) ++ (⟨#[32]⟩ : ByteArray))).size + 2 ≤ 9223372036854775807) = true := decide_eq_true c13
                            try have c13b2 : (9223372036854775807 < (x3_1 ++ (((((((rd_T78 l0 x8_1).f0) ++ (⟨#[32]⟩ : ByteArray)) ++ ((rd_T78 l0 x8_1).f1)) ++ (⟨#[32]⟩ : ByteArray)) ++ t128) ++ (⟨#[32]⟩ : ByteArray))).size + 2) = False := eq_false (Nat.not_lt.2 c13)
                            try (have h_ := c13; (repeat rw [ByteArray.size_append] at h_); (try rw [show (⟨#[32]⟩ : ByteArray).size = 1 from rfl] at h_); have c13b3 := eq_false (Nat.not_lt.2 h_); clear h_)
                            have H' := Aside0.mk H
                            clear H
                            have p126 : 0 ≤ (x8_1 : Int) := of_decide_eq_true (by first | (with_reducible assumption) | assumption)
                            have q126 : x8_1 < (l0.length : Int) := of_decide_eq_true (by first | (with_reducible assumption) | assumption)
                            obtain ⟨ad126, e126, hx126_0, hx126_1, hx126_2, hx126_3⟩ := at_T78 HR0.out x8_1 p126 q126
                            cases e126
                            replace hx126_0 := (HB.out.cell (World.block_lt_of_cell? w _ hx126_0)).trans hx126_0
                            replace hx126_1 := (HB.out.cell (World.block_lt_of_cell? w _ hx126_1)).trans hx126_1
                            replace hx126_2 := (HB.out.cell (World.block_lt_of_cell? w _ hx126_2)).trans hx126_2
                            replace hx126_3 := (HB.out.cell (World.block_lt_of_cell? w _ hx126_3)).trans hx126_3
                            replace p126 := eq_true p126
                            replace q126 := eq_true q126
                            try go_wp2_with (first | ((with_reducible refine gate_dst (N := 5) rfl ?_); refine box_event ?hg (N := 5) ?hd (cs := #[.string (⟨#[]⟩ : ByteArray), .string (⟨#[]⟩ : ByteArray), .int .i64 0, .int .i64 0]) (t := 78) ?hr ?_; (case hd => rfl); (case hg => rfl); (case hr => first | (go_simp; done) | (go_simp; rfl)); intro gb127 hg w14 hbox hb; have n0_ := Aside0.mk (below_step (by repeat (first | (with_reducible first | exact HB.out | apply below_alloc | apply pw_below_drewN | apply below_drew1) | exact HB.out)) hb); have n1_ := Aside0.mk (hbox); have n2_ := Aside0.mk ((by rw [hg]; exact (below_size (by repeat (first | (with_reducible first | exact HB.out | apply below_alloc | apply pw_below_drewN | apply below_drew1) | exact HB.out))) : w.heap.size ≤ gb127)); have n3_ := Aside0.mk ((by rw [hg]; exact (below_size (by repeat (first | (with_reducible first | exact HB.out | apply below_alloc | apply pw_below_drewN | apply below_drew1) | exact HB.out))) : w.heap.size ≤ gb127)); clear HB; have HB := n0_; have BK127 := n1_; have GW127 := n2_; have GE127 := n3_; clear n0_ n1_ n2_ n3_; clear hb hbox hg; have hcz15_0 : w14.cell? ⟨gb127, 0, none⟩ = some (.string (⟨#[]⟩ : ByteArray)) := (blk_cell BK127.out 0).trans rfl; have hcz15_1 : w14.cell? ⟨gb127, 1, none⟩ = some (.string (⟨#[]⟩ : ByteArray)) := (blk_cell BK127.out 1).trans rfl; have hcz15_2 : w14.cell? ⟨gb127, 2, none⟩ = some (.int .i64 0) := (blk_cell BK127.out 2).trans rfl; have hcz15_3 : w14.cell? ⟨gb127, 3, none⟩ = some (.int .i64 0) := (blk_cell BK127.out 3).trans rfl; have hfz15_0 := blk_frozen BK127.out 0; have hfz15_1 := blk_frozen BK127.out 1; have hfz15_2 := blk_frozen BK127.out 2; have hfz15_3 := blk_frozen BK127.out 3))
                            have n0_ : Aside0 (((((w14.setCell ⟨gb127, 0, none⟩ (.string ((rd_T78 l0 x8_1).f0))).setCell ⟨gb127, 1, none⟩ (.string ((rd_T78 l0 x8_1).f1))).setCell ⟨gb127, 2, none⟩ (.int .i64 ((rd_T78 l0 x8_1).f2))).setCell ⟨gb127, 3, none⟩ (.int .i64 ((rd_T78 l0 x8_1).f3))).heap[gb127]? = some (.cells #[.string ((rd_T78 l0 x8_1).f0), .string ((rd_T78 l0 x8_1).f1), .int .i64 ((rd_T78 l0 x8_1).f2), .int .i64 ((rd_T78 l0 x8_1).f3)] 78 (0, 0))) := ⟨by (with_reducible repeat (first | refine blk_drewN ?_ _ | refine blk_drew ?_ | refine blk_alloc ?_ _)); refine blk_put (cs := #[.string ((rd_T78 l0 x8_1).f0), .string ((rd_T78 l0 x8_1).f1), .int .i64 ((rd_T78 l0 x8_1).f2), .int .i64 0]) ?_ 3 _ rfl; (with_reducible repeat (first | refine blk_drewN ?_ _ | refine blk_drew ?_ | refine blk_alloc ?_ _)); refine blk_put (cs := #[.string ((rd_T78 l0 x8_1).f0), .string ((rd_T78 l0 x8_1).f1), .int .i64 0, .int .i64 0]) ?_ 2 _ rfl; (with_reducible repeat (first | refine blk_drewN ?_ _ | refine blk_drew ?_ | refine blk_alloc ?_ _)); refine blk_put (cs := #[.string ((rd_T78 l0 x8_1).f0), .string (⟨#[]⟩ : ByteArray), .int .i64 0, .int .i64 0]) ?_ 1 _ rfl; (with_reducible repeat (first | refine blk_drewN ?_ _ | refine blk_drew ?_ | refine blk_alloc ?_ _)); refine blk_put (cs := #[.string (⟨#[]⟩ : ByteArray), .string (⟨#[]⟩ : ByteArray), .int .i64 0, .int .i64 0]) ?_ 0 _ rfl; (with_reducible repeat (first | refine blk_drewN ?_ _ | refine blk_drew ?_ | refine blk_alloc ?_ _)); exact BK127.out⟩
                            have n1_ : Aside0 (Below w.heap.size w ((((w14.setCell ⟨gb127, 0, none⟩ (.string ((rd_T78 l0 x8_1).f0))).setCell ⟨gb127, 1, none⟩ (.string ((rd_T78 l0 x8_1).f1))).setCell ⟨gb127, 2, none⟩ (.int .i64 ((rd_T78 l0 x8_1).f2))).setCell ⟨gb127, 3, none⟩ (.int .i64 ((rd_T78 l0 x8_1).f3)))) := ⟨by repeat (first | (with_reducible first | exact HB.out | apply below_alloc | apply pw_below_drewN | apply below_drew1 | refine below_set ?_ GE127.out) | exact HB.out)⟩
                            (try clear BK127)
                            (try clear HB)
                            generalize ((((w14.setCell ⟨gb127, 0, none⟩ (.string ((rd_T78 l0 x8_1).f0))).setCell ⟨gb127, 1, none⟩ (.string ((rd_T78 l0 x8_1).f1))).setCell ⟨gb127, 2, none⟩ (.int .i64 ((rd_T78 l0 x8_1).f2))).setCell ⟨gb127, 3, none⟩ (.int .i64 ((rd_T78 l0 x8_1).f3))) = w16 at n0_ n1_ ⊢
                            have BK127 := n0_
                            have HB := n1_
                            clear n0_ n1_
                            have n0_ := Aside0.mk (blk_drew BK127.out)
                            have n1_ := Aside0.mk (below_drew1 HB.out)
                            clear BK127
                            clear HB
                            have BK127 := n0_
                            have HB := n1_
                            clear n0_ n1_
                            refine start_ (n := 15) (S := fun w' => w'.cell? ⟨gb127, 0, none⟩ = some (.string ((rd_T78 l0 x8_1).f0)) ∧ w'.cell? ⟨gb127, 1, none⟩ = some (.string ((rd_T78 l0 x8_1).f1)) ∧ w'.cell? ⟨gb127, 2, none⟩ = some (.int .i64 ((rd_T78 l0 x8_1).f2)) ∧ w'.cell? ⟨gb127, 3, none⟩ = some (.int .i64 ((rd_T78 l0 x8_1).f3))) (ds := []) #[false, false, false, false, false, false, false, false, false, false, false, false, false, false, false] (by kernel_rfl) rfl rfl ⟨(blk_cell BK127.out 0).trans rfl, (blk_cell BK127.out 1).trans rfl, (blk_cell BK127.out 2).trans rfl, (blk_cell BK127.out 3).trans rfl⟩ (fun hHeld => ?_); refine with_tabW spec_caText.tab5 spec_caText.bits5 (fun HT_ HW_ => ?_)
                            generalize w16.drew = w17 at BK127 HB hHeld ⊢
                            refine pure_ (i := 0) (N := some 12) (v := ?_) (a' := ?_) #[true, false, false, false, false, false, false, false, false, false, false, false, false, false, false] rfl rfl (any_of HT_.out (by kernel_rfl)) (fun _ _ _ h => h) (Or.inl ⟨by rfl, ?_⟩) ?_ ?_
                            rotate_left
                            · intro w'
                              go_simp
                              with_reducible rfl
                            rotate_left
                            · simp only [Act.put, List.setIfInBounds_toArray, List.set_cons_zero, List.set_cons_succ, i64_w, i32_w]
                              rfl
                            refine pure_ (i := 1) (N := some 13) (v := ?_) (a' := ?_) #[true, true, false, false, false, false, false, false, false, false, false, false, false, false, false] rfl rfl (any_of HT_.out (by kernel_rfl)) (fun _ _ _ h => h) (Or.inl ⟨by rfl, ?_⟩) ?_ ?_
                            rotate_left
                            · intro w'
                              go_simp
                              with_reducible rfl
                            rotate_left
                            · simp only [Act.put, List.setIfInBounds_toArray, List.set_cons_zero, List.set_cons_succ, i64_w, i32_w]
                              rfl
                            refine pure_ (i := 4) (N := some 16) (v := ?_) (a' := ?_) #[true, true, false, false, true, false, false, false, false, false, false, false, false, false, false] rfl rfl (any_of HT_.out (by kernel_rfl)) (fun _ _ _ h => h) (Or.inl ⟨by rfl, ?_⟩) ?_ ?_
                            rotate_left
                            · intro w'
                              go_simp
                              with_reducible rfl
                            rotate_left
                            · simp only [Act.put, List.setIfInBounds_toArray, List.set_cons_zero, List.set_cons_succ, i64_w, i32_w]
                              rfl
                            refine pure_ (i := 8) (N := some 20) (v := ?_) (a' := ?_) #[true, true, false, false, true, false, false, false, true, false, false, false, false, false, false] rfl rfl (any_of HT_.out (by kernel_rfl)) (fun _ _ _ h => h) (Or.inl ⟨by rfl, ?_⟩) ?_ ?_
                            rotate_left
                            · intro w'
                              go_simp
                              with_reducible rfl
                            rotate_left
                            · simp only [Act.put, List.setIfInBounds_toArray, List.set_cons_zero, List.set_cons_succ, i64_w, i32_w]
                              rfl
                            refine take_ (i := 2) (N := some 14) (v := ?_) (a' := ?_) #[true, true, true, false, true, false, false, false, true, false, false, false, false, false, false] rfl rfl (take_ofW HT_.out HW_.out (by kernel_rfl)) (fun _ _ _ h => h) (Or.inl ⟨by rfl, ?_⟩) hHeld ?_ ?_
                            rotate_left
                            · rintro w' ⟨s0, s1, s2, s3⟩
                              go_simp
                              with_reducible rfl
                            rotate_left
                            · simp only [Act.put, List.setIfInBounds_toArray, List.set_cons_zero, List.set_cons_succ, i64_w, i32_w]
                              rfl
                            refine pure_ (i := 3) (N := some 15) (v := ?_) (a' := ?_) #[true, true, true, true, true, false, false, false, true, false, false, false, false, false, false] rfl rfl (any_of HT_.out (by kernel_rfl)) (fun _ _ _ h => h) (Or.inl ⟨by rfl, ?_⟩) ?_ ?_
                            rotate_left
                            · intro w'
                              go_simp
                              with_reducible rfl
                            rotate_left
                            · simp only [Act.put, List.setIfInBounds_toArray, List.set_cons_zero, List.set_cons_succ, i64_w, i32_w]
                              rfl
                            refine take_ (i := 5) (N := some 17) (v := ?_) (a' := ?_) #[true, true, true, true, true, true, false, false, true, false, false, false, false, false, false] rfl rfl (take_ofW HT_.out HW_.out (by kernel_rfl)) (fun _ _ _ h => h) (Or.inl ⟨by rfl, ?_⟩) hHeld ?_ ?_
                            rotate_left
                            · rintro w' ⟨s0, s1, s2, s3⟩
                              go_simp
                              with_reducible rfl
                            rotate_left
                            · simp only [Act.put, List.setIfInBounds_toArray, List.set_cons_zero, List.set_cons_succ, i64_w, i32_w]
                              rfl
                            refine pure_ (i := 6) (N := some 18) (v := ?_) (a' := ?_) #[true, true, true, true, true, true, true, false, true, false, false, false, false, false, false] rfl rfl (any_of HT_.out (by kernel_rfl)) (fun _ _ _ h => h) (Or.inl ⟨by rfl, ?_⟩) ?_ ?_
                            rotate_left
                            · intro w'
                              go_simp
                              with_reducible rfl
                            rotate_left
                            · simp only [Act.put, List.setIfInBounds_toArray, List.set_cons_zero, List.set_cons_succ, i64_w, i32_w]
                              rfl
                            refine pure_ (i := 7) (N := some 19) (v := ?_) (a' := ?_) #[true, true, true, true, true, true, true, true, true, false, false, false, false, false, false] rfl rfl (any_of HT_.out (by kernel_rfl)) (fun _ _ _ h => h) (Or.inl ⟨by rfl, ?_⟩) ?_ ?_
                            rotate_left
                            · intro w'
                              go_simp
                              with_reducible rfl
                            rotate_left
                            · simp only [Act.put, List.setIfInBounds_toArray, List.set_cons_zero, List.set_cons_succ, i64_w, i32_w]
                              rfl
                            refine take_ (i := 9) (N := some 21) (v := ?_) (a' := ?_) #[true, true, true, true, true, true, true, true, true, true, false, false, false, false, false] rfl rfl (take_ofW HT_.out HW_.out (by kernel_rfl)) (fun _ _ _ h => h) (Or.inl ⟨by rfl, ?_⟩) hHeld ?_ ?_
                            rotate_left
                            · rintro w' ⟨s0, s1, s2, s3⟩
                              go_simp
                              with_reducible rfl
                            rotate_left
                            · simp only [Act.put, List.setIfInBounds_toArray, List.set_cons_zero, List.set_cons_succ, i64_w, i32_w]
                              rfl
                            refine one_ (i := 10) (N := some 22) #[true, true, true, true, true, true, true, true, true, true, true, false, false, false, false] rfl rfl (one_of HT_.out (by kernel_rfl)) (by decide) (fun K hK => ?_)
                            refine goes_ Tryd.func84 (by kernel_rfl) rfl #[.int .i64 ((rd_T78 l0 x8_1).f2)] (by rfl) rfl rfl (by (try simp only [List.map_toArray, List.map_cons, List.map_nil]); first | done | rfl | (simp only [List.length_drop, List.length_take]; rfl)) ?_
                            with_reducible refine (spec_l1Num.calls k1 ((rd_T78 l0 x8_1).f2) t128 _ A8.out).mono ?_
                            rintro e w18 ⟨rfl, hb⟩
                            refine ⟨_, rfl, ?_⟩
                            have n0_ := Aside0.mk (blk_below (g := gb127) (o := .cells #[.string ((rd_T78 l0 x8_1).f0), .string ((rd_T78 l0 x8_1).f1), .int .i64 ((rd_T78 l0 x8_1).f2), .int .i64 ((rd_T78 l0 x8_1).f3)] 78 (0, 0)) (by (with_reducible repeat (first | refine blk_drewN ?_ _ | refine blk_drew ?_ | refine blk_alloc ?_ _)); exact BK127.out) hb)
                            have n1_ := Aside0.mk (below_step (by repeat (first | (with_reducible first | exact HB.out | apply below_alloc | apply pw_below_drewN | apply below_drew1 | refine below_set ?_ GE127.out) | exact HB.out)) hb)
                            clear BK127
                            clear HB
                            have BK127 := n0_
                            have HB := n1_
                            clear n0_ n1_
                            (try clear hb)
                            (try clear hb2)
                            (try clear hk)
                            (try clear hi)
                            refine hK.out _ _ ⟨(blk_cell BK127.out 0).trans rfl, (blk_cell BK127.out 1).trans rfl, (blk_cell BK127.out 2).trans rfl, (blk_cell BK127.out 3).trans rfl⟩ (fun hHeld => ?_)
                            clear hK K
                            refine norm_ (a' := ?_) ?_ ?_
                            rotate_left
                            · show Act.put _ (some 22) _ = _
                              simp only [Act.put, List.setIfInBounds_toArray, List.set_cons_zero, List.set_cons_succ, i64_w, i32_w]
                              rfl
                            refine pure_ (i := 11) (N := some 23) (v := ?_) (a' := ?_) #[true, true, true, true, true, true, true, true, true, true, true, true, false, false, false] rfl rfl (any_of HT_.out (by kernel_rfl)) (fun _ _ _ h => h) (Or.inl ⟨by rfl, ?_⟩) ?_ ?_
                            rotate_left
                            · intro w'
                              go_simp
                              with_reducible rfl
                            rotate_left
                            · simp only [Act.put, List.setIfInBounds_toArray, List.set_cons_zero, List.set_cons_succ, i64_w, i32_w]
                              rfl
                            refine pure_ (i := 12) (N := some 24) (v := ?_) (a' := ?_) #[true, true, true, true, true, true, true, true, true, true, true, true, true, false, false] rfl rfl (any_of HT_.out (by kernel_rfl)) (fun _ _ _ h => h) (Or.inl ⟨by rfl, ?_⟩) ?_ ?_
                            rotate_left
                            · intro w'
                              go_simp
                              with_reducible rfl
                            rotate_left
                            · simp only [Act.put, List.setIfInBounds_toArray, List.set_cons_zero, List.set_cons_succ, i64_w, i32_w]
                              rfl
                            refine pure_ (i := 13) (N := some 25) (v := ?_) (a' := ?_) #[true, true, true, true, true, true, true, true, true, true, true, true, true, true, false] rfl rfl (any_of HT_.out (by kernel_rfl)) (fun _ _ _ h => h) (Or.inl ⟨by rfl, ?_⟩) ?_ ?_
                            rotate_left
                            · intro w'
                              go_simp
                              with_reducible rfl
                            rotate_left
                            · simp only [Act.put, List.setIfInBounds_toArray, List.set_cons_zero, List.set_cons_succ, i64_w, i32_w]
                              rfl
                            refine pure_ (i := 14) (N := some 3) (v := ?_) (a' := ?_) #[true, true, true, true, true, true, true, true, true, true, true, true, true, true, true] rfl rfl (any_of HT_.out (by kernel_rfl)) (fun _ _ _ h => h) (Or.inl ⟨by rfl, ?_⟩) ?_ ?_
                            rotate_left
                            · intro w'
                              go_simp
                              with_reducible rfl
                            rotate_left
                            · simp only [Act.put, List.setIfInBounds_toArray, List.set_cons_zero, List.set_cons_succ, i64_w, i32_w]
                              rfl
                            refine done_ (done_of HT_.out (by kernel_rfl)) ?_
                            have hcz19_0 : w18.cell? ⟨gb127, 0, none⟩ = some (.string ((rd_T78 l0 x8_1).f0)) := (blk_cell BK127.out 0).trans rfl
                            have hcz19_1 : w18.cell? ⟨gb127, 1, none⟩ = some (.string ((rd_T78 l0 x8_1).f1)) := (blk_cell BK127.out 1).trans rfl
                            have hcz19_2 : w18.cell? ⟨gb127, 2, none⟩ = some (.int .i64 ((rd_T78 l0 x8_1).f2)) := (blk_cell BK127.out 2).trans rfl
                            have hcz19_3 : w18.cell? ⟨gb127, 3, none⟩ = some (.int .i64 ((rd_T78 l0 x8_1).f3)) := (blk_cell BK127.out 3).trans rfl
                            have hfz19_0 := blk_frozen BK127.out 0
                            have hfz19_1 := blk_frozen BK127.out 1
                            have hfz19_2 := blk_frozen BK127.out 2
                            have hfz19_3 := blk_frozen BK127.out 3
                            try go_wp2
                            go_roundg k1
                            case measure => have := HK1.out; omega
                            case rel => exact ⟨((x3_1 ++ (((((((rd_T78 l0 x8_1).f0) ++ (⟨#[32]⟩ : ByteArray)) ++ ((rd_T78 l0 x8_1).f1)) ++ (⟨#[32]⟩ : ByteArray)) ++ t128) ++ (⟨#[32]⟩ : ByteArray))) ++ (⟨#[45, 10]⟩ : ByteArray)), (wrap64 (x8_1 + 1)), (by first | rfl | (simp; done) | (simp [*]; done)), (by first | rfl | (simp; done) | (simp [*]; done)), H', ⟨by have := HK1.out; omega⟩, ⟨by repeat (first | (with_reducible first | exact HB.out | apply below_alloc | apply pw_below_drewN | apply below_drew1 | refine below_set ?_ GE127.out) | exact HB.out)⟩⟩
                          · rw [if_neg c13] at H
                            exact absurd H (by simp)
                        · rw [if_neg c12] at H
                          have c12b0 : decide (((rd_T78 l0 x8_1).f3) < 0) = false := decide_eq_false c12
                          clear c12
                          replace H := Option.bind_eq_some_iff.mp H
                          obtain ⟨t129, A200, H⟩ := H
                          replace H : (if t129.size + 1 ≤ 9223372036854775807 then (if (x3_1 ++ (((((((rd_T78 l0 x8_1).f0) ++ (⟨#[32]⟩ : ByteArray)) ++ ((rd_T78 l0 x8_1).f1)) ++ (⟨#[32]⟩ : ByteArray)) ++ t128) ++ (⟨#[32]⟩ : ByteArray))).size + (t129 ++ (⟨#[10]⟩ : ByteArray)).size ≤ 9223372036854775807 then (spec_caText.l0 k1 ((x3_1 ++ (((((((rd_T78 l0 x8_1).f0) ++ (⟨#[32]⟩ : ByteArray)) ++ ((rd_T78 l0 x8_1).f1)) ++ (⟨#[32]⟩ : ByteArray)) ++ t128) ++ (⟨#[32]⟩ : ByteArray))) ++ (t129 ++ (⟨#[10]⟩ : ByteArray))) l0 (l0.length : Int) (wrap64 (x8_1 + 1))) else (none)) else (none)) = some r := H
                          have A20 := Aside0.mk A200
                          clear A200
                          by_cases c21 : t129.size + 1 ≤ 9223372036854775807
                          · rw [if_pos c21] at H
                            have c21b0 := eq_true c21
                            have c21b1 : decide (t129.size + 1 ≤ 9223372036854775807) = true := decide_eq_true c21
                            try have c21b2 : (9223372036854775807 < t129.size + 1) = False := eq_false (Nat.not_lt.2 c21)
                            by_cases c22 : (x3_1 ++ (((((((rd_T78 l0 x8_1).f0) ++ (⟨#[32]⟩ : ByteArray)) ++ ((rd_T78 l0 x8_1).f1)) ++ (⟨#[32]⟩ : ByteArray)) ++ t128) ++ (⟨#[32]⟩ : ByteArray))).size + (t129 ++ (⟨#[10]⟩ : ByteArray)).size ≤ 9223372036854775807
                            · rw [if_pos c22] at H
                              have c22b0 := eq_true c22
                              have c22b1 : decide ((x3_1 ++ (((((((rd_T78 l0 x8_1).f0) ++ (⟨#[32]⟩ : ByteArray)) ++ ((rd_T78 l0 x8_1).f1)) ++ (⟨#[32]⟩ : ByteArray)) ++ t128) ++ (⟨#[32]⟩ : ByteArray))).size + (t129 ++ (⟨#[10]⟩ : ByteArray)).size ≤ 9223372036854775807) = true := decide_eq_true c22
                              try have c22b2 : (9223372036854775807 < (x3_1 ++ (((((((rd_T78 l0 x8_1).f0) ++ (⟨#[32]⟩ : ByteArray)) ++ ((rd_T78 l0 x8_1).f1)) ++ (⟨#[32]⟩ : ByteArray)) ++ t128) ++ (⟨#[32]⟩ : ByteArray))).size + (t129 ++ (⟨#[10]⟩ : ByteArray)).size) = False := eq_false (Nat.not_lt.2 c22)
                              try (have h_ := c22; (repeat rw [ByteArray.size_append] at h_); (try rw [show (⟨#[10]⟩ : ByteArray).size = 1 from rfl] at h_); (try rw [show (⟨#[32]⟩ : ByteArray).size = 1 from rfl] at h_); have c22b3 := eq_false (Nat.not_lt.2 h_); clear h_)
                              have H' := Aside0.mk H
                              clear H
                              have p126 : 0 ≤ (x8_1 : Int) := of_decide_eq_true (by first | (with_reducible assumption) | assumption)
                              have q126 : x8_1 < (l0.length : Int) := of_decide_eq_true (by first | (with_reducible assumption) | assumption)
                              obtain ⟨ad126, e126, hx126_0, hx126_1, hx126_2, hx126_3⟩ := at_T78 HR0.out x8_1 p126 q126
                              cases e126
                              replace hx126_0 := (HB.out.cell (World.block_lt_of_cell? w _ hx126_0)).trans hx126_0
                              replace hx126_1 := (HB.out.cell (World.block_lt_of_cell? w _ hx126_1)).trans hx126_1
                              replace hx126_2 := (HB.out.cell (World.block_lt_of_cell? w _ hx126_2)).trans hx126_2
                              replace hx126_3 := (HB.out.cell (World.block_lt_of_cell? w _ hx126_3)).trans hx126_3
                              replace p126 := eq_true p126
                              replace q126 := eq_true q126
                              try go_wp2_with (first | ((with_reducible refine gate_dst (N := 5) rfl ?_); refine box_event ?hg (N := 5) ?hd (cs := #[.string (⟨#[]⟩ : ByteArray), .string (⟨#[]⟩ : ByteArray), .int .i64 0, .int .i64 0]) (t := 78) ?hr ?_; (case hd => rfl); (case hg => rfl); (case hr => first | (go_simp; done) | (go_simp; rfl)); intro gb127 hg w23 hbox hb; have n0_ := Aside0.mk (below_step (by repeat (first | (with_reducible first | exact HB.out | apply below_alloc | apply pw_below_drewN | apply below_drew1) | exact HB.out)) hb); have n1_ := Aside0.mk (hbox); have n2_ := Aside0.mk ((by rw [hg]; exact (below_size (by repeat (first | (with_reducible first | exact HB.out | apply below_alloc | apply pw_below_drewN | apply below_drew1) | exact HB.out))) : w.heap.size ≤ gb127)); have n3_ := Aside0.mk ((by rw [hg]; exact (below_size (by repeat (first | (with_reducible first | exact HB.out | apply below_alloc | apply pw_below_drewN | apply below_drew1) | exact HB.out))) : w.heap.size ≤ gb127)); clear HB; have HB := n0_; have BK127 := n1_; have GW127 := n2_; have GE127 := n3_; clear n0_ n1_ n2_ n3_; clear hb hbox hg; have hcz24_0 : w23.cell? ⟨gb127, 0, none⟩ = some (.string (⟨#[]⟩ : ByteArray)) := (blk_cell BK127.out 0).trans rfl; have hcz24_1 : w23.cell? ⟨gb127, 1, none⟩ = some (.string (⟨#[]⟩ : ByteArray)) := (blk_cell BK127.out 1).trans rfl; have hcz24_2 : w23.cell? ⟨gb127, 2, none⟩ = some (.int .i64 0) := (blk_cell BK127.out 2).trans rfl; have hcz24_3 : w23.cell? ⟨gb127, 3, none⟩ = some (.int .i64 0) := (blk_cell BK127.out 3).trans rfl; have hfz24_0 := blk_frozen BK127.out 0; have hfz24_1 := blk_frozen BK127.out 1; have hfz24_2 := blk_frozen BK127.out 2; have hfz24_3 := blk_frozen BK127.out 3))
                              have n0_ : Aside0 (((((w23.setCell ⟨gb127, 0, none⟩ (.string ((rd_T78 l0 x8_1).f0))).setCell ⟨gb127, 1, none⟩ (.string ((rd_T78 l0 x8_1).f1))).setCell ⟨gb127, 2, none⟩ (.int .i64 ((rd_T78 l0 x8_1).f2))).setCell ⟨gb127, 3, none⟩ (.int .i64 ((rd_T78 l0 x8_1).f3))).heap[gb127]? = some (.cells #[.string ((rd_T78 l0 x8_1).f0), .string ((rd_T78 l0 x8_1).f1), .int .i64 ((rd_T78 l0 x8_1).f2), .int .i64 ((rd_T78 l0 x8_1).f3)] 78 (0, 0))) := ⟨by (with_reducible repeat (first | refine blk_drewN ?_ _ | refine blk_drew ?_ | refine blk_alloc ?_ _)); refine blk_put (cs := #[.string ((rd_T78 l0 x8_1).f0), .string ((rd_T78 l0 x8_1).f1), .int .i64 ((rd_T78 l0 x8_1).f2), .int .i64 0]) ?_ 3 _ rfl; (with_reducible repeat (first | refine blk_drewN ?_ _ | refine blk_drew ?_ | refine blk_alloc ?_ _)); refine blk_put (cs := #[.string ((rd_T78 l0 x8_1).f0), .string ((rd_T78 l0 x8_1).f1), .int .i64 0, .int .i64 0]) ?_ 2 _ rfl; (with_reducible repeat (first | refine blk_drewN ?_ _ | refine blk_drew ?_ | refine blk_alloc ?_ _)); refine blk_put (cs := #[.string ((rd_T78 l0 x8_1).f0), .string (⟨#[]⟩ : ByteArray), .int .i64 0, .int .i64 0]) ?_ 1 _ rfl; (with_reducible repeat (first | refine blk_drewN ?_ _ | refine blk_drew ?_ | refine blk_alloc ?_ _)); refine blk_put (cs := #[.string (⟨#[]⟩ : ByteArray), .string (⟨#[]⟩ : ByteArray), .int .i64 0, .int .i64 0]) ?_ 0 _ rfl; (with_reducible repeat (first | refine blk_drewN ?_ _ | refine blk_drew ?_ | refine blk_alloc ?_ _)); exact BK127.out⟩
                              have n1_ : Aside0 (Below w.heap.size w ((((w23.setCell ⟨gb127, 0, none⟩ (.string ((rd_T78 l0 x8_1).f0))).setCell ⟨gb127, 1, none⟩ (.string ((rd_T78 l0 x8_1).f1))).setCell ⟨gb127, 2, none⟩ (.int .i64 ((rd_T78 l0 x8_1).f2))).setCell ⟨gb127, 3, none⟩ (.int .i64 ((rd_T78 l0 x8_1).f3)))) := ⟨by repeat (first | (with_reducible first | exact HB.out | apply below_alloc | apply pw_below_drewN | apply below_drew1 | refine below_set ?_ GE127.out) | exact HB.out)⟩
                              (try clear BK127)
                              (try clear HB)
                              generalize ((((w23.setCell ⟨gb127, 0, none⟩ (.string ((rd_T78 l0 x8_1).f0))).setCell ⟨gb127, 1, none⟩ (.string ((rd_T78 l0 x8_1).f1))).setCell ⟨gb127, 2, none⟩ (.int .i64 ((rd_T78 l0 x8_1).f2))).setCell ⟨gb127, 3, none⟩ (.int .i64 ((rd_T78 l0 x8_1).f3))) = w25 at n0_ n1_ ⊢
                              have BK127 := n0_
                              have HB := n1_
                              clear n0_ n1_
                              have n0_ := Aside0.mk (blk_drew BK127.out)
                              have n1_ := Aside0.mk (below_drew1 HB.out)
                              clear BK127
                              clear HB
                              have BK127 := n0_
                              have HB := n1_
                              clear n0_ n1_
                              refine start_ (n := 15) (S := fun w' => w'.cell? ⟨gb127, 0, none⟩ = some (.string ((rd_T78 l0 x8_1).f0)) ∧ w'.cell? ⟨gb127, 1, none⟩ = some (.string ((rd_T78 l0 x8_1).f1)) ∧ w'.cell? ⟨gb127, 2, none⟩ = some (.int .i64 ((rd_T78 l0 x8_1).f2)) ∧ w'.cell? ⟨gb127, 3, none⟩ = some (.int .i64 ((rd_T78 l0 x8_1).f3))) (ds := []) #[false, false, false, false, false, false, false, false, false, false, false, false, false, false, false] (by kernel_rfl) rfl rfl ⟨(blk_cell BK127.out 0).trans rfl, (blk_cell BK127.out 1).trans rfl, (blk_cell BK127.out 2).trans rfl, (blk_cell BK127.out 3).trans rfl⟩ (fun hHeld => ?_); refine with_tabW spec_caText.tab5 spec_caText.bits5 (fun HT_ HW_ => ?_)
                              generalize w25.drew = w26 at BK127 HB hHeld ⊢
                              refine pure_ (i := 0) (N := some 12) (v := ?_) (a' := ?_) #[true, false, false, false, false, false, false, false, false, false, false, false, false, false, false] rfl rfl (any_of HT_.out (by kernel_rfl)) (fun _ _ _ h => h) (Or.inl ⟨by rfl, ?_⟩) ?_ ?_
                              rotate_left
                              · intro w'
                                go_simp
                                with_reducible rfl
                              rotate_left
                              · simp only [Act.put, List.setIfInBounds_toArray, List.set_cons_zero, List.set_cons_succ, i64_w, i32_w]
                                rfl
                              refine pure_ (i := 1) (N := some 13) (v := ?_) (a' := ?_) #[true, true, false, false, false, false, false, false, false, false, false, false, false, false, false] rfl rfl (any_of HT_.out (by kernel_rfl)) (fun _ _ _ h => h) (Or.inl ⟨by rfl, ?_⟩) ?_ ?_
                              rotate_left
                              · intro w'
                                go_simp
                                with_reducible rfl
                              rotate_left
                              · simp only [Act.put, List.setIfInBounds_toArray, List.set_cons_zero, List.set_cons_succ, i64_w, i32_w]
                                rfl
                              refine pure_ (i := 4) (N := some 16) (v := ?_) (a' := ?_) #[true, true, false, false, true, false, false, false, false, false, false, false, false, false, false] rfl rfl (any_of HT_.out (by kernel_rfl)) (fun _ _ _ h => h) (Or.inl ⟨by rfl, ?_⟩) ?_ ?_
                              rotate_left
                              · intro w'
                                go_simp
                                with_reducible rfl
                              rotate_left
                              · simp only [Act.put, List.setIfInBounds_toArray, List.set_cons_zero, List.set_cons_succ, i64_w, i32_w]
                                rfl
                              refine pure_ (i := 8) (N := some 20) (v := ?_) (a' := ?_) #[true, true, false, false, true, false, false, false, true, false, false, false, false, false, false] rfl rfl (any_of HT_.out (by kernel_rfl)) (fun _ _ _ h => h) (Or.inl ⟨by rfl, ?_⟩) ?_ ?_
                              rotate_left
                              · intro w'
                                go_simp
                                with_reducible rfl
                              rotate_left
                              · simp only [Act.put, List.setIfInBounds_toArray, List.set_cons_zero, List.set_cons_succ, i64_w, i32_w]
                                rfl
                              refine take_ (i := 2) (N := some 14) (v := ?_) (a' := ?_) #[true, true, true, false, true, false, false, false, true, false, false, false, false, false, false] rfl rfl (take_ofW HT_.out HW_.out (by kernel_rfl)) (fun _ _ _ h => h) (Or.inl ⟨by rfl, ?_⟩) hHeld ?_ ?_
                              rotate_left
                              · rintro w' ⟨s0, s1, s2, s3⟩
                                go_simp
                                with_reducible rfl
                              rotate_left
                              · simp only [Act.put, List.setIfInBounds_toArray, List.set_cons_zero, List.set_cons_succ, i64_w, i32_w]
                                rfl
                              refine pure_ (i := 3) (N := some 15) (v := ?_) (a' := ?_) #[true, true, true, true, true, false, false, false, true, false, false, false, false, false, false] rfl rfl (any_of HT_.out (by kernel_rfl)) (fun _ _ _ h => h) (Or.inl ⟨by rfl, ?_⟩) ?_ ?_
                              rotate_left
                              · intro w'
                                go_simp
                                with_reducible rfl
                              rotate_left
                              · simp only [Act.put, List.setIfInBounds_toArray, List.set_cons_zero, List.set_cons_succ, i64_w, i32_w]
                                rfl
                              refine take_ (i := 5) (N := some 17) (v := ?_) (a' := ?_) #[true, true, true, true, true, true, false, false, true, false, false, false, false, false, false] rfl rfl (take_ofW HT_.out HW_.out (by kernel_rfl)) (fun _ _ _ h => h) (Or.inl ⟨by rfl, ?_⟩) hHeld ?_ ?_
                              rotate_left
                              · rintro w' ⟨s0, s1, s2, s3⟩
                                go_simp
                                with_reducible rfl
                              rotate_left
                              · simp only [Act.put, List.setIfInBounds_toArray, List.set_cons_zero, List.set_cons_succ, i64_w, i32_w]
                                rfl
                              refine pure_ (i := 6) (N := some 18) (v := ?_) (a' := ?_) #[true, true, true, true, true, true, true, false, true, false, false, false, false, false, false] rfl rfl (any_of HT_.out (by kernel_rfl)) (fun _ _ _ h => h) (Or.inl ⟨by rfl, ?_⟩) ?_ ?_
                              rotate_left
                              · intro w'
                                go_simp
                                with_reducible rfl
                              rotate_left
                              · simp only [Act.put, List.setIfInBounds_toArray, List.set_cons_zero, List.set_cons_succ, i64_w, i32_w]
                                rfl
                              refine pure_ (i := 7) (N := some 19) (v := ?_) (a' := ?_) #[true, true, true, true, true, true, true, true, true, false, false, false, false, false, false] rfl rfl (any_of HT_.out (by kernel_rfl)) (fun _ _ _ h => h) (Or.inl ⟨by rfl, ?_⟩) ?_ ?_
                              rotate_left
                              · intro w'
                                go_simp
                                with_reducible rfl
                              rotate_left
                              · simp only [Act.put, List.setIfInBounds_toArray, List.set_cons_zero, List.set_cons_succ, i64_w, i32_w]
                                rfl
                              refine take_ (i := 9) (N := some 21) (v := ?_) (a' := ?_) #[true, true, true, true, true, true, true, true, true, true, false, false, false, false, false] rfl rfl (take_ofW HT_.out HW_.out (by kernel_rfl)) (fun _ _ _ h => h) (Or.inl ⟨by rfl, ?_⟩) hHeld ?_ ?_
                              rotate_left
                              · rintro w' ⟨s0, s1, s2, s3⟩
                                go_simp
                                with_reducible rfl
                              rotate_left
                              · simp only [Act.put, List.setIfInBounds_toArray, List.set_cons_zero, List.set_cons_succ, i64_w, i32_w]
                                rfl
                              refine one_ (i := 10) (N := some 22) #[true, true, true, true, true, true, true, true, true, true, true, false, false, false, false] rfl rfl (one_of HT_.out (by kernel_rfl)) (by decide) (fun K hK => ?_)
                              refine goes_ Tryd.func84 (by kernel_rfl) rfl #[.int .i64 ((rd_T78 l0 x8_1).f2)] (by rfl) rfl rfl (by (try simp only [List.map_toArray, List.map_cons, List.map_nil]); first | done | rfl | (simp only [List.length_drop, List.length_take]; rfl)) ?_
                              with_reducible refine (spec_l1Num.calls k1 ((rd_T78 l0 x8_1).f2) t128 _ A8.out).mono ?_
                              rintro e w27 ⟨rfl, hb⟩
                              refine ⟨_, rfl, ?_⟩
                              have n0_ := Aside0.mk (blk_below (g := gb127) (o := .cells #[.string ((rd_T78 l0 x8_1).f0), .string ((rd_T78 l0 x8_1).f1), .int .i64 ((rd_T78 l0 x8_1).f2), .int .i64 ((rd_T78 l0 x8_1).f3)] 78 (0, 0)) (by (with_reducible repeat (first | refine blk_drewN ?_ _ | refine blk_drew ?_ | refine blk_alloc ?_ _)); exact BK127.out) hb)
                              have n1_ := Aside0.mk (below_step (by repeat (first | (with_reducible first | exact HB.out | apply below_alloc | apply pw_below_drewN | apply below_drew1 | refine below_set ?_ GE127.out) | exact HB.out)) hb)
                              clear BK127
                              clear HB
                              have BK127 := n0_
                              have HB := n1_
                              clear n0_ n1_
                              (try clear hb)
                              (try clear hb2)
                              (try clear hk)
                              (try clear hi)
                              refine hK.out _ _ ⟨(blk_cell BK127.out 0).trans rfl, (blk_cell BK127.out 1).trans rfl, (blk_cell BK127.out 2).trans rfl, (blk_cell BK127.out 3).trans rfl⟩ (fun hHeld => ?_)
                              clear hK K
                              refine norm_ (a' := ?_) ?_ ?_
                              rotate_left
                              · show Act.put _ (some 22) _ = _
                                simp only [Act.put, List.setIfInBounds_toArray, List.set_cons_zero, List.set_cons_succ, i64_w, i32_w]
                                rfl
                              refine pure_ (i := 11) (N := some 23) (v := ?_) (a' := ?_) #[true, true, true, true, true, true, true, true, true, true, true, true, false, false, false] rfl rfl (any_of HT_.out (by kernel_rfl)) (fun _ _ _ h => h) (Or.inl ⟨by rfl, ?_⟩) ?_ ?_
                              rotate_left
                              · intro w'
                                go_simp
                                with_reducible rfl
                              rotate_left
                              · simp only [Act.put, List.setIfInBounds_toArray, List.set_cons_zero, List.set_cons_succ, i64_w, i32_w]
                                rfl
                              refine pure_ (i := 12) (N := some 24) (v := ?_) (a' := ?_) #[true, true, true, true, true, true, true, true, true, true, true, true, true, false, false] rfl rfl (any_of HT_.out (by kernel_rfl)) (fun _ _ _ h => h) (Or.inl ⟨by rfl, ?_⟩) ?_ ?_
                              rotate_left
                              · intro w'
                                go_simp
                                with_reducible rfl
                              rotate_left
                              · simp only [Act.put, List.setIfInBounds_toArray, List.set_cons_zero, List.set_cons_succ, i64_w, i32_w]
                                rfl
                              refine pure_ (i := 13) (N := some 25) (v := ?_) (a' := ?_) #[true, true, true, true, true, true, true, true, true, true, true, true, true, true, false] rfl rfl (any_of HT_.out (by kernel_rfl)) (fun _ _ _ h => h) (Or.inl ⟨by rfl, ?_⟩) ?_ ?_
                              rotate_left
                              · intro w'
                                go_simp
                                with_reducible rfl
                              rotate_left
                              · simp only [Act.put, List.setIfInBounds_toArray, List.set_cons_zero, List.set_cons_succ, i64_w, i32_w]
                                rfl
                              refine pure_ (i := 14) (N := some 3) (v := ?_) (a' := ?_) #[true, true, true, true, true, true, true, true, true, true, true, true, true, true, true] rfl rfl (any_of HT_.out (by kernel_rfl)) (fun _ _ _ h => h) (Or.inl ⟨by rfl, ?_⟩) ?_ ?_
                              rotate_left
                              · intro w'
                                go_simp
                                with_reducible rfl
                              rotate_left
                              · simp only [Act.put, List.setIfInBounds_toArray, List.set_cons_zero, List.set_cons_succ, i64_w, i32_w]
                                rfl
                              refine done_ (done_of HT_.out (by kernel_rfl)) ?_
                              have hcz28_0 : w27.cell? ⟨gb127, 0, none⟩ = some (.string ((rd_T78 l0 x8_1).f0)) := (blk_cell BK127.out 0).trans rfl
                              have hcz28_1 : w27.cell? ⟨gb127, 1, none⟩ = some (.string ((rd_T78 l0 x8_1).f1)) := (blk_cell BK127.out 1).trans rfl
                              have hcz28_2 : w27.cell? ⟨gb127, 2, none⟩ = some (.int .i64 ((rd_T78 l0 x8_1).f2)) := (blk_cell BK127.out 2).trans rfl
                              have hcz28_3 : w27.cell? ⟨gb127, 3, none⟩ = some (.int .i64 ((rd_T78 l0 x8_1).f3)) := (blk_cell BK127.out 3).trans rfl
                              have hfz28_0 := blk_frozen BK127.out 0
                              have hfz28_1 := blk_frozen BK127.out 1
                              have hfz28_2 := blk_frozen BK127.out 2
                              have hfz28_3 := blk_frozen BK127.out 3
                              try go_wp2_with (first | ((with_reducible refine gate_callee (f := 84) rfl ?_); refine goesL_ (some 34) rfl rfl Tryd.func84 (by kernel_rfl) rfl #[.int .i64 ((rd_T78 l0 x8_1).f3)] rfl (by (try simp only [List.map_toArray, List.map_cons, List.map_nil]); first | done | rfl | (simp only [List.length_drop, List.length_take]; rfl)) ?_; (with_reducible refine (spec_l1Num.calls k1 ((rd_T78 l0 x8_1).f3) t129 _ A20.out).mono ?_); rintro e w29 ⟨rfl, hb⟩; refine ⟨_, rfl, ?_⟩; have n0_ := Aside0.mk (blk_below (g := gb127) (o := .cells #[.string ((rd_T78 l0 x8_1).f0), .string ((rd_T78 l0 x8_1).f1), .int .i64 ((rd_T78 l0 x8_1).f2), .int .i64 ((rd_T78 l0 x8_1).f3)] 78 (0, 0)) (by (with_reducible repeat (first | refine blk_drewN ?_ _ | refine blk_drew ?_ | refine blk_alloc ?_ _)); exact BK127.out) hb); have n1_ := Aside0.mk (below_step (by repeat (first | (with_reducible first | exact HB.out | apply below_alloc | apply pw_below_drewN | apply below_drew1 | refine below_set ?_ GE127.out) | exact HB.out)) hb); clear BK127; clear HB; have BK127 := n0_; have HB := n1_; clear n0_ n1_; (try clear hb); (try clear hb2); (try clear hk); (try clear hi)))
                              go_roundg k1
                              case measure => have := HK1.out; omega
                              case rel => exact ⟨((x3_1 ++ (((((((rd_T78 l0 x8_1).f0) ++ (⟨#[32]⟩ : ByteArray)) ++ ((rd_T78 l0 x8_1).f1)) ++ (⟨#[32]⟩ : ByteArray)) ++ t128) ++ (⟨#[32]⟩ : ByteArray))) ++ (t129 ++ (⟨#[10]⟩ : ByteArray))), (wrap64 (x8_1 + 1)), (by first | rfl | (simp; done) | (simp [*]; done)), (by first | rfl | (simp; done) | (simp [*]; done)), H', ⟨by have := HK1.out; omega⟩, ⟨by repeat (first | (with_reducible first | exact HB.out | apply below_alloc | apply pw_below_drewN | apply below_drew1 | refine below_set ?_ GE127.out) | exact HB.out)⟩⟩
                            · rw [if_neg c22] at H
                              exact absurd H (by simp)
                          · rw [if_neg c21] at H
                            exact absurd H (by simp)
                      · rw [if_neg c11] at H
                        exact absurd H (by simp)
                    · rw [if_neg c10] at H
                      exact absurd H (by simp)
                  · rw [if_neg c9] at H
                    exact absurd H (by simp)
                · rw [if_neg c7] at H
                  exact absurd H (by simp)
              · rw [if_neg c6] at H
                exact absurd H (by simp)
            · rw [if_neg c5] at H
              exact absurd H (by simp)
          · rw [if_neg c4] at H
            exact absurd H (by simp)
        · rw [if_neg c3] at H
          exact absurd H (by simp)
      · rw [if_neg c2] at H
        have c2b0 : decide (x8_1 < (l0.length : Int)) = false := decide_eq_false c2
        clear c2
        obtain rfl := Option.some.inj H
        go_wp2
        go_ret
        exact ⟨by first | rfl | (simp [errW_none, errW_some] <;> rfl) | (simp [*, errW_none, errW_some] <;> rfl), by repeat (first | (with_reducible first | exact HB.out | apply below_alloc | apply pw_below_drewN | apply below_drew1) | exact HB.out)⟩

end Go.Proofs.YtpbffmjjhmllbaaDoor.QFnExactParseCatalogue
