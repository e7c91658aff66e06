/- Written by a program of this session (the kit's printer, with leaf contracts proved by hand put in): what each Go function computes, and that the call computes it. No condition but those that each theorem names. -/
import Derived.Test.YtockbgeloiekdaaQFnExactWriteAllx0
import Derived.Test.YtockbgeloiekdaaQFnExactWriteAllx4
namespace Go.Proofs.Ytockbgeloiekdaa.QFnExactWriteAll
open Go.RowKit Go.Proofs.YtockbgeloiekdaaW.PrintWords Go.Proofs.YtockbgeloiekdaaW.PrintLast Go.Proofs.YtockbgeloiekdaaW.PrintMore
attribute [local go_sem] max2_int min2_int max_two min_two max_three min_three max_four min_four   -- for this text's walks alone
set_option linter.unusedVariables false
set_option linter.unusedSimpArgs false

/-! ### impl_readArea: function 53 -/
def impl_readArea.j0 : Nat → List Int → Bool → Option (Int × List Int)
  | 0, _, _ => none
  | k + 1, x0, x20 => if x20 = true then (some (0, ([] : List Int))) else (if 1 < (x0.length : Int) then (if 2 ≤ (wrap64 (2 + (rd x0 1))) then (if (wrap64 (2 + (rd x0 1))) ≤ (x0.length : Int) then ((slices_Clone_int_int.f ((x0.take ((wrap64 (2 + (rd x0 1))) : Int).toNat).drop 2)).bind fun t208 => ((impl_IsState.f k t208).bind fun t211 => (if t211 = true then (if 0 < (x0.length : Int) then ((impl_areaOf.f (rd x0 0) t208).bind fun t213 => ((slices_Equal_int_int.f k t213 x0).bind fun t216 => (if t216 = true then (some (rd x0 0, t208)) else (some (0, ([] : List Int)))))) else (none)) else (some (0, ([] : List Int)))))) else (none)) else (none)) else (none))
def impl_readArea.f (k : Nat) (l0 : List Int) : Option (Int × List Int) := if 0 < (l0.length : Int) then (if (rd l0 0) < 1 then (impl_readArea.j0 k l0 true) else (if (rd l0 0) > 999 then (impl_readArea.j0 k l0 true) else (if 1 < (l0.length : Int) then (impl_readArea.j0 k l0 (decide ((rd l0 1) > 12))) else (none)))) else (none)
theorem impl_readArea.mono_l : ∀ k, (∀ y0 y1, LeO (impl_readArea.j0 k y0 y1) (impl_readArea.j0 (k + 1) y0 y1))
  | 0 => fun _ _ r h => by simp [impl_readArea.j0] at h
  | k + 1 => by
    have ih0 := impl_readArea.mono_l k
    · intro y0 y1
      unfold impl_readArea.j0
      repeat' first
      | (with_reducible exact ih0 _ _)
      | (with_reducible exact impl_IsState.mono _ _)
      | (with_reducible exact slices_Equal_int_int.mono _ _ _)
      | (with_reducible exact LeO.refl _)
      | (with_reducible exact LeO.none _)
      | (with_reducible refine LeO.ite ?_ ?_)
      | (with_reducible refine LeO.bind ?_ (fun _ => ?_))
      | exact ih0 _ _
      | exact impl_IsState.mono _ _
      | exact slices_Equal_int_int.mono _ _ _
      | exact LeO.none _
      | refine LeO.ite ?_ ?_
      | refine LeO.bind ?_ (fun _ => ?_)
theorem impl_readArea.mono : ∀ a0 k, LeO (impl_readArea.f k a0) (impl_readArea.f (k + 1) a0) := by
  intro a0 k
  have ih0 := impl_readArea.mono_l k
  unfold impl_readArea.f
  repeat' first
      | (with_reducible exact ih0 _ _)
      | (with_reducible exact impl_IsState.mono _ _)
      | (with_reducible exact slices_Equal_int_int.mono _ _ _)
      | (with_reducible exact LeO.refl _)
      | (with_reducible exact LeO.none _)
      | (with_reducible refine LeO.ite ?_ ?_)
      | (with_reducible refine LeO.bind ?_ (fun _ => ?_))
      | exact ih0 _ _
      | exact impl_IsState.mono _ _
      | exact slices_Equal_int_int.mono _ _ _
      | exact LeO.none _
      | refine LeO.ite ?_ ?_
      | refine LeO.bind ?_ (fun _ => ?_)
set_option maxHeartbeats 8000000 in
set_option maxRecDepth 100000 in
theorem impl_readArea.calls (k : Nat) (A0 : Option Addr) (c0 : Nat) (l0 : List Int) (r1 : Int) (r2 : List Int) (w : World) (hr0 : Kd.C (Kd.int .i64) w A0 l0.length l0) (hc0 : l0.length ≤ c0) (h : impl_readArea.f k l0 = some (r1, r2)) :
    Calls Try.prog 53 #[.slice A0 l0.length c0] w fun e w' => ∃ v1_ : Value, e = .returned (.tuple #[.int .i64 r1, v1_]) ∧ Kd.R (Kd.int .i64) 3 w' w.heap.size (fun _ => True) v1_ r2 ∧ Below w.heap.size w w' := by
  have HR0 := Aside0.mk hr0
  have HC0 := Aside0.mk hc0
  clear hr0 hc0
  have HB := Aside0.mk (Below.refl w.heap.size w)
  have H : (if 0 < (l0.length : Int) then (if (rd l0 0) < 1 then (impl_readArea.j0 k l0 true) else (if (rd l0 0) > 999 then (impl_readArea.j0 k l0 true) else (if 1 < (l0.length : Int) then (impl_readArea.j0 k l0 (decide ((rd l0 1) > 12))) else (none)))) else (none)) = some (r1, r2) := h
  clear h
  have HC2 := Aside0.mk H
  clear H
  go_enter Try.func53, Try.ntmps53
  go_upto_region 1 with (fail)
  go_cut [20] (fun v20 wc => ∃ (kq : Nat) (x20_1 : Bool), v20 = .bool x20_1 ∧ Aside0 (impl_readArea.j0 kq l0 x20_1 = some (r1, r2)) ∧ Aside0 (kq ≤ k) ∧ Aside0 (Below w.heap.size w wc))
  case first =>
    have H := HC2.out
    clear HC2
    by_cases c3 : 0 < (l0.length : Int)
    · rw [if_pos c3] at H
      have c3b0 : decide (0 < (l0.length : Int)) = true := decide_eq_true c3
      have c3b1 : decide (0 < l0.length) = true := decide_eq_true (by omega)
      clear c3
      (first | rw [c3b0] | (simp only [i64_w, i32_w]; rw [c3b0]) | skip)
      by_cases c4 : (rd l0 0) < 1
      · rw [if_pos c4] at H
        have c4b0 : decide ((rd l0 0) < 1) = true := decide_eq_true c4
        clear c4
        have H' := Aside0.mk H
        clear H
        have p203 : 0 ≤ (0 : Int) := (by omega)
        have q203 : 0 < (l0.length : Int) := of_decide_eq_true (by first | (with_reducible assumption) | assumption)
        obtain ⟨ad203, e203, hx203_0⟩ := Kd.at_int HR0.out 0 p203 q203
        cases e203
        have qi203 : (0 < l0.length) = True := eq_true (by omega)
        (try rw [show ((0 : Int)).toNat = 0 from rfl] at hx203_0)
        (try rw [Addr.add_zero'] at hx203_0)
        replace hx203_0 := (HB.out.cell (World.block_lt_of_cell? w _ hx203_0)).trans hx203_0
        replace p203 := eq_true p203
        replace q203 := eq_true q203
        go_wp2
        go_meet
        case rel => exact ⟨_, (true), (by first | rfl | (simp; done) | (simp [*]; done)), H', ⟨by first | omega | exact Nat.le_refl _⟩, ⟨by repeat (first | (with_reducible first | exact HB.out | apply below_alloc | apply pw_below_drewN | apply below_drew1) | exact HB.out)⟩⟩
      · rw [if_neg c4] at H
        have c4b0 : decide ((rd l0 0) < 1) = false := decide_eq_false c4
        clear c4
        by_cases c5 : (rd l0 0) > 999
        · rw [if_pos c5] at H
          have c5b0 : decide (999 < (rd l0 0)) = true := decide_eq_true c5
          clear c5
          have H' := Aside0.mk H
          clear H
          have p203 : 0 ≤ (0 : Int) := (by omega)
          have q203 : 0 < (l0.length : Int) := of_decide_eq_true (by first | (with_reducible assumption) | assumption)
          obtain ⟨ad203, e203, hx203_0⟩ := Kd.at_int HR0.out 0 p203 q203
          cases e203
          have qi203 : (0 < l0.length) = True := eq_true (by omega)
          (try rw [show ((0 : Int)).toNat = 0 from rfl] at hx203_0)
          (try rw [Addr.add_zero'] at hx203_0)
          replace hx203_0 := (HB.out.cell (World.block_lt_of_cell? w _ hx203_0)).trans hx203_0
          replace p203 := eq_true p203
          replace q203 := eq_true q203
          have p204 : 0 ≤ (0 : Int) := (by omega)
          have q204 : 0 < (l0.length : Int) := of_decide_eq_true (by first | (with_reducible assumption) | assumption)
          obtain ⟨ad204, e204, hx204_0⟩ := Kd.at_int HR0.out 0 p204 q204
          obtain rfl : ad203 = ad204 := (by injection e204)
          have qi204 : (0 < l0.length) = True := eq_true (by omega)
          (try rw [show ((0 : Int)).toNat = 0 from rfl] at hx204_0)
          (try rw [Addr.add_zero'] at hx204_0)
          replace hx204_0 := (HB.out.cell (World.block_lt_of_cell? w _ hx204_0)).trans hx204_0
          replace p204 := eq_true p204
          replace q204 := eq_true q204
          go_wp2
          go_meet
          case rel => exact ⟨_, (true), (by first | rfl | (simp; done) | (simp [*]; done)), H', ⟨by first | omega | exact Nat.le_refl _⟩, ⟨by repeat (first | (with_reducible first | exact HB.out | apply below_alloc | apply pw_below_drewN | apply below_drew1) | exact HB.out)⟩⟩
        · rw [if_neg c5] at H
          have c5b0 : decide (999 < (rd l0 0)) = false := decide_eq_false c5
          clear c5
          by_cases c6 : 1 < (l0.length : Int)
          · rw [if_pos c6] at H
            have c6b0 : decide (1 < (l0.length : Int)) = true := decide_eq_true c6
            have c6b1 : decide (1 < l0.length) = true := decide_eq_true (by omega)
            clear c6
            have H' := Aside0.mk H
            clear H
            have p203 : 0 ≤ (0 : Int) := (by omega)
            have q203 : 0 < (l0.length : Int) := of_decide_eq_true (by first | (with_reducible assumption) | assumption)
            obtain ⟨ad203, e203, hx203_0⟩ := Kd.at_int HR0.out 0 p203 q203
            cases e203
            have qi203 : (0 < l0.length) = True := eq_true (by omega)
            (try rw [show ((0 : Int)).toNat = 0 from rfl] at hx203_0)
            (try rw [Addr.add_zero'] at hx203_0)
            replace hx203_0 := (HB.out.cell (World.block_lt_of_cell? w _ hx203_0)).trans hx203_0
            replace p203 := eq_true p203
            replace q203 := eq_true q203
            have p204 : 0 ≤ (0 : Int) := (by omega)
            have q204 : 0 < (l0.length : Int) := of_decide_eq_true (by first | (with_reducible assumption) | assumption)
            obtain ⟨ad204, e204, hx204_0⟩ := Kd.at_int HR0.out 0 p204 q204
            obtain rfl : ad203 = ad204 := (by injection e204)
            have qi204 : (0 < l0.length) = True := eq_true (by omega)
            (try rw [show ((0 : Int)).toNat = 0 from rfl] at hx204_0)
            (try rw [Addr.add_zero'] at hx204_0)
            replace hx204_0 := (HB.out.cell (World.block_lt_of_cell? w _ hx204_0)).trans hx204_0
            replace p204 := eq_true p204
            replace q204 := eq_true q204
            have p205 : 0 ≤ (1 : Int) := (by omega)
            have q205 : 1 < (l0.length : Int) := of_decide_eq_true (by first | (with_reducible assumption) | assumption)
            obtain ⟨ad205, e205, hx205_0⟩ := Kd.at_int HR0.out 1 p205 q205
            obtain rfl : ad203 = ad205 := (by injection e205)
            (try simp only [show (1 : Int).toNat = 1 from rfl, Nat.reduceMul, Nat.reduceEqDiff, Go.Addr.add, ↓reduceIte] at hx205_0)
            have qi205 : (1 < l0.length) = True := eq_true (by omega)
            (try rw [show ((1 : Int)).toNat = 1 from rfl] at hx205_0)
            replace hx205_0 := (HB.out.cell (World.block_lt_of_cell? w _ hx205_0)).trans hx205_0
            replace p205 := eq_true p205
            replace q205 := eq_true q205
            go_wp2
            go_meet
            case rel => exact ⟨_, (decide ((rd l0 1) > 12)), (by first | rfl | (simp; done) | (simp [*]; done)), H', ⟨by first | omega | exact Nat.le_refl _⟩, ⟨by repeat (first | (with_reducible first | exact HB.out | apply below_alloc | apply pw_below_drewN | apply below_drew1) | exact HB.out)⟩⟩
          · rw [if_neg c6] at H
            exact absurd H (by simp)
    · rw [if_neg c3] at H
      exact absurd H (by simp)
  case rest =>
    clear HC2
    try clear p2
    try clear q2
    try clear hx2
    try clear qi2
    try clear c3
    try clear c3b0
    try clear c3b1
    try clear c4
    try clear c4b0
    try clear c5
    try clear c5b0
    try clear c6
    try clear c6b0
    try clear c6b1
    try clear hx203_0
    try clear hx204_0
    try clear hx205_0
    try clear p203
    try clear p204
    try clear p205
    try clear q203
    try clear q204
    try clear q205
    obtain ⟨kq, x20_1, rfl, HA, HJ1, HB⟩ := hcut
    cases kq with
    | zero => exact absurd HA.out (by simp [impl_readArea.j0])
    | succ kj1 =>
      have H := HA.out
      clear HA
      simp only [impl_readArea.j0] at H
      by_cases c7 : x20_1 = true
      · subst c7
        have H1 : (some (0, ([] : List Int))) = some (r1, r2) := by rw [if_pos rfl] at H; exact H
        clear H
        have H := H1
        clear H1
        simp only [Option.some.injEq, Prod.mk.injEq] at H
        obtain ⟨rfl, rfl⟩ := H
        go_wp2
        go_ret2
        exact ⟨_, by first | rfl | (simp [errW_none, errW_some] <;> rfl) | (simp [*, errW_none, errW_some] <;> rfl), by first | exact Kd.R_nil _ _ _ _ _ | exact Kd.N_nil _ _ _ _ _ | exact Kd.V_nil _ _ _ _ _ | exact Kd.Q_nil _ _ _ _ _ | exact Kd.S_nil _ _ _ _ _, by repeat (first | (with_reducible first | exact HB.out | apply below_alloc | apply pw_below_drewN | apply below_drew1) | exact HB.out)⟩
      · replace c7 := Bool.eq_false_iff.mpr c7
        subst c7
        have H1 : (if 1 < (l0.length : Int) then (if 2 ≤ (wrap64 (2 + (rd l0 1))) then (if (wrap64 (2 + (rd l0 1))) ≤ (l0.length : Int) then ((slices_Clone_int_int.f ((l0.take ((wrap64 (2 + (rd l0 1))) : Int).toNat).drop 2)).bind fun t208 => ((impl_IsState.f kj1 t208).bind fun t211 => (if t211 = true then (if 0 < (l0.length : Int) then ((impl_areaOf.f (rd l0 0) t208).bind fun t213 => ((slices_Equal_int_int.f kj1 t213 l0).bind fun t216 => (if t216 = true then (some (rd l0 0, t208)) else (some (0, ([] : List Int)))))) else (none)) else (some (0, ([] : List Int)))))) else (none)) else (none)) else (none)) = some (r1, r2) := by rw [if_neg (show ¬ (false = true) by decide)] at H; exact H
        clear H
        have H := H1
        clear H1
        by_cases c8 : 1 < (l0.length : Int)
        · rw [if_pos c8] at H
          have c8b0 : decide (1 < (l0.length : Int)) = true := decide_eq_true c8
          have c8b1 : decide (1 < l0.length) = true := decide_eq_true (by omega)
          clear c8
          by_cases c9 : 2 ≤ (wrap64 (2 + (rd l0 1)))
          · rw [if_pos c9] at H
            have c9b0 := eq_true c9
            have c9b1 : decide (2 ≤ (wrap64 (2 + (rd l0 1)))) = true := decide_eq_true c9
            by_cases c10 : (wrap64 (2 + (rd l0 1))) ≤ (l0.length : Int)
            · rw [if_pos c10] at H
              have c10b0 := eq_true c10
              have c10b1 : decide ((wrap64 (2 + (rd l0 1))) ≤ (l0.length : Int)) = true := decide_eq_true c10
              replace H := Option.bind_eq_some_iff.mp H
              obtain ⟨t208, A110, H⟩ := H
              replace H : ((impl_IsState.f kj1 t208).bind fun t211 => (if t211 = true then (if 0 < (l0.length : Int) then ((impl_areaOf.f (rd l0 0) t208).bind fun t213 => ((slices_Equal_int_int.f kj1 t213 l0).bind fun t216 => (if t216 = true then (some (rd l0 0, t208)) else (some (0, ([] : List Int)))))) else (none)) else (some (0, ([] : List Int))))) = some (r1, r2) := H
              have A11 := Aside0.mk A110
              clear A110
              replace H := Option.bind_eq_some_iff.mp H
              obtain ⟨t211, A120, H⟩ := H
              replace H : (if t211 = true then (if 0 < (l0.length : Int) then ((impl_areaOf.f (rd l0 0) t208).bind fun t213 => ((slices_Equal_int_int.f kj1 t213 l0).bind fun t216 => (if t216 = true then (some (rd l0 0, t208)) else (some (0, ([] : List Int)))))) else (none)) else (some (0, ([] : List Int)))) = some (r1, r2) := H
              have A12 := Aside0.mk A120
              clear A120
              by_cases c13 : t211 = true
              · subst c13
                have H1 : (if 0 < (l0.length : Int) then ((impl_areaOf.f (rd l0 0) t208).bind fun t213 => ((slices_Equal_int_int.f kj1 t213 l0).bind fun t216 => (if t216 = true then (some (rd l0 0, t208)) else (some (0, ([] : List Int)))))) else (none)) = some (r1, r2) := by rw [if_pos rfl] at H; exact H
                clear H
                have H := H1
                clear H1
                by_cases c14 : 0 < (l0.length : Int)
                · rw [if_pos c14] at H
                  have c14b0 : decide (0 < (l0.length : Int)) = true := decide_eq_true c14
                  have c14b1 : decide (0 < l0.length) = true := decide_eq_true (by omega)
                  clear c14
                  replace H := Option.bind_eq_some_iff.mp H
                  obtain ⟨t213, A150, H⟩ := H
                  replace H : ((slices_Equal_int_int.f kj1 t213 l0).bind fun t216 => (if t216 = true then (some (rd l0 0, t208)) else (some (0, ([] : List Int))))) = some (r1, r2) := H
                  have A15 := Aside0.mk A150
                  clear A150
                  replace H := Option.bind_eq_some_iff.mp H
                  obtain ⟨t216, A160, H⟩ := H
                  replace H : (if t216 = true then (some (rd l0 0, t208)) else (some (0, ([] : List Int)))) = some (r1, r2) := H
                  have A16 := Aside0.mk A160
                  clear A160
                  by_cases c17 : t216 = true
                  · subst c17
                    have H1 : (some (rd l0 0, t208)) = some (r1, r2) := by rw [if_pos rfl] at H; exact H
                    clear H
                    have H := H1
                    clear H1
                    simp only [Option.some.injEq, Prod.mk.injEq] at H
                    obtain ⟨rfl, rfl⟩ := H
                    have p206 : 0 ≤ (1 : Int) := (by omega)
                    have q206 : 1 < (l0.length : Int) := of_decide_eq_true (by first | (with_reducible assumption) | assumption)
                    obtain ⟨ad206, e206, hx206_0⟩ := Kd.at_int HR0.out 1 p206 q206
                    cases e206
                    (try simp only [show (1 : Int).toNat = 1 from rfl, Nat.reduceMul, Nat.reduceEqDiff, Go.Addr.add, ↓reduceIte] at hx206_0)
                    have qi206 : (1 < l0.length) = True := eq_true (by omega)
                    (try rw [show ((1 : Int)).toNat = 1 from rfl] at hx206_0)
                    replace hx206_0 := (HB.out.cell (World.block_lt_of_cell? w _ hx206_0)).trans hx206_0
                    replace p206 := eq_true p206
                    replace q206 := eq_true q206
                    obtain ⟨i018, hi018, _, hsz18, _⟩ := info_parts info3
                    obtain ⟨A18, hcut18, hA18, hC18⟩ := print_mid_of (P := Try.prog) (Value.int .i64) 0 24 3 .i64 .i64 Try.underlying24 hi018 hsz18 (some ad206) c0 l0 2 (wrap64 (2 + (rd l0 1))) (by omega) (by first | omega | exact of_decide_eq_true (by first | (with_reducible assumption) | assumption)) (of_decide_eq_true (by first | (with_reducible assumption) | assumption)) HC0.out
                    have HR207 := Aside0.mk (Kd.C_of_reads (h1 := fun _ => rfl) (hA18 _ (Kd.reads_of_C HR0.out)))
                    have HC207 := Aside0.mk hC18
                    clear hA18 hC18 hi018 hsz18
                    go_wp2_with (first | ((with_reducible refine gate_callee (f := 63) rfl ?_); refine goesL_ (some 27) rfl rfl Try.func63 (by kernel_rfl) rfl #[.slice A18 ((l0.take ((wrap64 (2 + (rd l0 1))) : Int).toNat).drop 2).length (c0 - 2)] rfl (by (try simp only [List.map_toArray, List.map_cons, List.map_nil]); first | done | (rw [show ((l0.take ((wrap64 (2 + (rd l0 1))) : Int).toNat).drop 2).length = ((wrap64 (2 + (rd l0 1))).toNat - 2) from (by rw [List.length_drop, List.length_take]; have h_ : ((wrap64 (2 + (rd l0 1))) : Int) ≤ (l0.length : Int) := of_decide_eq_true (by first | (with_reducible assumption) | assumption); omega)] <;> rfl) | rfl | (simp only [List.length_drop, List.length_take]; rfl)) ?_; (with_reducible refine (slices_Clone_int_int.calls _ _ ((l0.take ((wrap64 (2 + (rd l0 1))) : Int).toNat).drop 2) t208 _ ?side1 ?side2 A11.out).mono ?_); (case side1 => repeat (first | exact (Kd.C_below HR207.out HB.out) | (with_reducible refine Kd.C_alloc ?_ _) | (with_reducible refine Kd.C_drewN ?_ _) | (with_reducible refine Kd.C_drew ?_))); (case side2 => exact HC207.out); rintro e w19 ⟨v209, rfl, ho0, hb⟩; refine ⟨_, rfl, ?_⟩; have n0_ := Aside0.mk (Kd.R_lower ho0 (below_size (by repeat (first | (with_reducible first | exact HB.out | apply below_alloc | apply pw_below_drewN | apply below_drew1) | exact HB.out)))); have n1_ := Aside0.mk (below_step (by repeat (first | (with_reducible first | exact HB.out | apply below_alloc | apply pw_below_drewN | apply below_drew1) | exact HB.out)) hb); clear HB; have HO210 := n0_; have HB := n1_; clear n0_ n1_; (try clear hb); (try clear hb2); (try clear hk); (try clear hi); (try clear ho0); obtain ⟨Ao20, co20, eo20⟩ := Kd.R_slice HO210.out; subst eo20) | ((with_reducible refine gate_callee (f := 57) rfl ?_); refine goesL_ (some 29) rfl rfl Try.func57 (by kernel_rfl) rfl #[.slice Ao20 t208.length co20] rfl (by (try simp only [List.map_toArray, List.map_cons, List.map_nil]); first | done | rfl | (simp only [List.length_drop, List.length_take]; rfl)) ?_; (with_reducible refine (impl_IsState.calls kj1 _ _ t208 true _ ?side1 ?side2 A12.out).mono ?_); (case side1 => repeat (first | exact (Kd.R_reads' HO210.out).2.2 | (with_reducible refine Kd.C_alloc ?_ _) | (with_reducible refine Kd.C_drewN ?_ _) | (with_reducible refine Kd.C_drew ?_))); (case side2 => exact (Kd.R_reads' HO210.out).2.1); rintro e w' ⟨rfl, ⟨nd, rfl⟩⟩; refine ⟨_, rfl, ?_⟩; have p212 : 0 ≤ (0 : Int) := (by omega); have q212 : 0 < (l0.length : Int) := of_decide_eq_true (by first | (with_reducible assumption) | assumption); obtain ⟨ad212, e212, hx212_0⟩ := Kd.at_int HR0.out 0 p212 q212; obtain rfl : ad206 = ad212 := (by injection e212); have qi212 : (0 < l0.length) = True := eq_true (by omega); (try rw [show ((0 : Int)).toNat = 0 from rfl] at hx212_0); (try rw [Addr.add_zero'] at hx212_0); replace hx212_0 := (HB.out.cell (World.block_lt_of_cell? w _ hx212_0)).trans hx212_0; replace p212 := eq_true p212; replace q212 := eq_true q212) | (go_at_call 74; (with_reducible refine (impl_areaOf.calls (rd l0 0) _ _ t208 t213 _ ?side1 ?side2 A15.out).mono ?_); (case side1 => repeat (first | exact (Kd.R_reads' HO210.out).2.2 | (with_reducible refine Kd.C_alloc ?_ _) | (with_reducible refine Kd.C_drewN ?_ _) | (with_reducible refine Kd.C_drew ?_))); (case side2 => exact (Kd.R_reads' HO210.out).2.1); rintro e w21 ⟨v214, rfl, ho0, hb⟩; have n0_ := Aside0.mk (Kd.R_elder' (by (with_reducible repeat (first | apply Kd.R_alloc | apply Kd.R_drewN | apply Kd.R_drew)); exact HO210.out) (Kd.R_base ho0) hb); have n1_ := Aside0.mk (Kd.R_lower (Kd.R_new' ho0 (Kd.R_lt (by (with_reducible repeat (first | apply Kd.R_alloc | apply Kd.R_drewN | apply Kd.R_drew)); exact HO210.out))) (below_size (by repeat (first | (with_reducible first | exact HB.out | apply below_alloc | apply pw_below_drewN | apply below_drew1) | exact HB.out)))); have n2_ := Aside0.mk (below_step (by repeat (first | (with_reducible first | exact HB.out | apply below_alloc | apply pw_below_drewN | apply below_drew1) | exact HB.out)) hb); clear HO210; clear HB; have HO210 := n0_; have HO215 := n1_; have HB := n2_; clear n0_ n1_ n2_; (try clear hb); (try clear hb2); (try clear hk); (try clear hi); (try clear ho0); obtain ⟨Ao22, co22, eo22⟩ := Kd.R_slice HO215.out; subst eo22) | (go_at_call 73; (with_reducible refine (slices_Equal_int_int.calls kj1 _ _ t213 _ _ l0 true _ ?side1 ?side2 ?side3 ?side4 A16.out).mono ?_); (case side1 => repeat (first | exact (Kd.R_reads' HO215.out).2.2 | (with_reducible refine Kd.C_alloc ?_ _) | (with_reducible refine Kd.C_drewN ?_ _) | (with_reducible refine Kd.C_drew ?_))); (case side2 => exact (Kd.R_reads' HO215.out).2.1); (case side3 => repeat (first | exact (Kd.C_below HR0.out HB.out) | (with_reducible refine Kd.C_alloc ?_ _) | (with_reducible refine Kd.C_drewN ?_ _) | (with_reducible refine Kd.C_drew ?_))); (case side4 => exact HC0.out); rintro e w' ⟨rfl, ⟨nd, rfl⟩⟩; have p217 : 0 ≤ (0 : Int) := (by omega); have q217 : 0 < (l0.length : Int) := of_decide_eq_true (by first | (with_reducible assumption) | assumption); obtain ⟨ad217, e217, hx217_0⟩ := Kd.at_int HR0.out 0 p217 q217; obtain rfl : ad206 = ad217 := (by injection e217); have qi217 : (0 < l0.length) = True := eq_true (by omega); (try rw [show ((0 : Int)).toNat = 0 from rfl] at hx217_0); (try rw [Addr.add_zero'] at hx217_0); replace hx217_0 := (HB.out.cell (World.block_lt_of_cell? w _ hx217_0)).trans hx217_0; replace p217 := eq_true p217; replace q217 := eq_true q217))
                    go_ret2
                    exact ⟨_, by first | rfl | (simp [errW_none, errW_some] <;> rfl) | (simp [*, errW_none, errW_some] <;> rfl), by (with_reducible repeat (first | apply Kd.R_alloc | apply Kd.R_drewN | apply Kd.R_drew)); exact Kd.R_mono HO210.out (fun _ hk => trivial), by repeat (first | (with_reducible first | exact HB.out | apply below_alloc | apply pw_below_drewN | apply below_drew1) | exact HB.out)⟩
                  · replace c17 := Bool.eq_false_iff.mpr c17
                    subst c17
                    have H1 : (some (0, ([] : List Int))) = some (r1, r2) := by rw [if_neg (show ¬ (false = true) by decide)] at H; exact H
                    clear H
                    have H := H1
                    clear H1
                    simp only [Option.some.injEq, Prod.mk.injEq] at H
                    obtain ⟨rfl, rfl⟩ := H
                    have p206 : 0 ≤ (1 : Int) := (by omega)
                    have q206 : 1 < (l0.length : Int) := of_decide_eq_true (by first | (with_reducible assumption) | assumption)
                    obtain ⟨ad206, e206, hx206_0⟩ := Kd.at_int HR0.out 1 p206 q206
                    cases e206
                    (try simp only [show (1 : Int).toNat = 1 from rfl, Nat.reduceMul, Nat.reduceEqDiff, Go.Addr.add, ↓reduceIte] at hx206_0)
                    have qi206 : (1 < l0.length) = True := eq_true (by omega)
                    (try rw [show ((1 : Int)).toNat = 1 from rfl] at hx206_0)
                    replace hx206_0 := (HB.out.cell (World.block_lt_of_cell? w _ hx206_0)).trans hx206_0
                    replace p206 := eq_true p206
                    replace q206 := eq_true q206
                    obtain ⟨i023, hi023, _, hsz23, _⟩ := info_parts info3
                    obtain ⟨A23, hcut23, hA23, hC23⟩ := print_mid_of (P := Try.prog) (Value.int .i64) 0 24 3 .i64 .i64 Try.underlying24 hi023 hsz23 (some ad206) c0 l0 2 (wrap64 (2 + (rd l0 1))) (by omega) (by first | omega | exact of_decide_eq_true (by first | (with_reducible assumption) | assumption)) (of_decide_eq_true (by first | (with_reducible assumption) | assumption)) HC0.out
                    have HR207 := Aside0.mk (Kd.C_of_reads (h1 := fun _ => rfl) (hA23 _ (Kd.reads_of_C HR0.out)))
                    have HC207 := Aside0.mk hC23
                    clear hA23 hC23 hi023 hsz23
                    go_wp2_with (first | ((with_reducible refine gate_callee (f := 63) rfl ?_); refine goesL_ (some 27) rfl rfl Try.func63 (by kernel_rfl) rfl #[.slice A23 ((l0.take ((wrap64 (2 + (rd l0 1))) : Int).toNat).drop 2).length (c0 - 2)] rfl (by (try simp only [List.map_toArray, List.map_cons, List.map_nil]); first | done | (rw [show ((l0.take ((wrap64 (2 + (rd l0 1))) : Int).toNat).drop 2).length = ((wrap64 (2 + (rd l0 1))).toNat - 2) from (by rw [List.length_drop, List.length_take]; have h_ : ((wrap64 (2 + (rd l0 1))) : Int) ≤ (l0.length : Int) := of_decide_eq_true (by first | (with_reducible assumption) | assumption); omega)] <;> rfl) | rfl | (simp only [List.length_drop, List.length_take]; rfl)) ?_; (with_reducible refine (slices_Clone_int_int.calls _ _ ((l0.take ((wrap64 (2 + (rd l0 1))) : Int).toNat).drop 2) t208 _ ?side1 ?side2 A11.out).mono ?_); (case side1 => repeat (first | exact (Kd.C_below HR207.out HB.out) | (with_reducible refine Kd.C_alloc ?_ _) | (with_reducible refine Kd.C_drewN ?_ _) | (with_reducible refine Kd.C_drew ?_))); (case side2 => exact HC207.out); rintro e w24 ⟨v209, rfl, ho0, hb⟩; refine ⟨_, rfl, ?_⟩; have n0_ := Aside0.mk (Kd.R_lower ho0 (below_size (by repeat (first | (with_reducible first | exact HB.out | apply below_alloc | apply pw_below_drewN | apply below_drew1) | exact HB.out)))); have n1_ := Aside0.mk (below_step (by repeat (first | (with_reducible first | exact HB.out | apply below_alloc | apply pw_below_drewN | apply below_drew1) | exact HB.out)) hb); clear HB; have HO210 := n0_; have HB := n1_; clear n0_ n1_; (try clear hb); (try clear hb2); (try clear hk); (try clear hi); (try clear ho0); obtain ⟨Ao25, co25, eo25⟩ := Kd.R_slice HO210.out; subst eo25) | ((with_reducible refine gate_callee (f := 57) rfl ?_); refine goesL_ (some 29) rfl rfl Try.func57 (by kernel_rfl) rfl #[.slice Ao25 t208.length co25] rfl (by (try simp only [List.map_toArray, List.map_cons, List.map_nil]); first | done | rfl | (simp only [List.length_drop, List.length_take]; rfl)) ?_; (with_reducible refine (impl_IsState.calls kj1 _ _ t208 true _ ?side1 ?side2 A12.out).mono ?_); (case side1 => repeat (first | exact (Kd.R_reads' HO210.out).2.2 | (with_reducible refine Kd.C_alloc ?_ _) | (with_reducible refine Kd.C_drewN ?_ _) | (with_reducible refine Kd.C_drew ?_))); (case side2 => exact (Kd.R_reads' HO210.out).2.1); rintro e w' ⟨rfl, ⟨nd, rfl⟩⟩; refine ⟨_, rfl, ?_⟩; have p212 : 0 ≤ (0 : Int) := (by omega); have q212 : 0 < (l0.length : Int) := of_decide_eq_true (by first | (with_reducible assumption) | assumption); obtain ⟨ad212, e212, hx212_0⟩ := Kd.at_int HR0.out 0 p212 q212; obtain rfl : ad206 = ad212 := (by injection e212); have qi212 : (0 < l0.length) = True := eq_true (by omega); (try rw [show ((0 : Int)).toNat = 0 from rfl] at hx212_0); (try rw [Addr.add_zero'] at hx212_0); replace hx212_0 := (HB.out.cell (World.block_lt_of_cell? w _ hx212_0)).trans hx212_0; replace p212 := eq_true p212; replace q212 := eq_true q212) | (go_at_call 74; (with_reducible refine (impl_areaOf.calls (rd l0 0) _ _ t208 t213 _ ?side1 ?side2 A15.out).mono ?_); (case side1 => repeat (first | exact (Kd.R_reads' HO210.out).2.2 | (with_reducible refine Kd.C_alloc ?_ _) | (with_reducible refine Kd.C_drewN ?_ _) | (with_reducible refine Kd.C_drew ?_))); (case side2 => exact (Kd.R_reads' HO210.out).2.1); rintro e w26 ⟨v214, rfl, ho0, hb⟩; have n0_ := Aside0.mk (Kd.R_elder' (by (with_reducible repeat (first | apply Kd.R_alloc | apply Kd.R_drewN | apply Kd.R_drew)); exact HO210.out) (Kd.R_base ho0) hb); have n1_ := Aside0.mk (Kd.R_lower (Kd.R_new' ho0 (Kd.R_lt (by (with_reducible repeat (first | apply Kd.R_alloc | apply Kd.R_drewN | apply Kd.R_drew)); exact HO210.out))) (below_size (by repeat (first | (with_reducible first | exact HB.out | apply below_alloc | apply pw_below_drewN | apply below_drew1) | exact HB.out)))); have n2_ := Aside0.mk (below_step (by repeat (first | (with_reducible first | exact HB.out | apply below_alloc | apply pw_below_drewN | apply below_drew1) | exact HB.out)) hb); clear HO210; clear HB; have HO210 := n0_; have HO215 := n1_; have HB := n2_; clear n0_ n1_ n2_; (try clear hb); (try clear hb2); (try clear hk); (try clear hi); (try clear ho0); obtain ⟨Ao27, co27, eo27⟩ := Kd.R_slice HO215.out; subst eo27) | (go_at_call 73; (with_reducible refine (slices_Equal_int_int.calls kj1 _ _ t213 _ _ l0 false _ ?side1 ?side2 ?side3 ?side4 A16.out).mono ?_); (case side1 => repeat (first | exact (Kd.R_reads' HO215.out).2.2 | (with_reducible refine Kd.C_alloc ?_ _) | (with_reducible refine Kd.C_drewN ?_ _) | (with_reducible refine Kd.C_drew ?_))); (case side2 => exact (Kd.R_reads' HO215.out).2.1); (case side3 => repeat (first | exact (Kd.C_below HR0.out HB.out) | (with_reducible refine Kd.C_alloc ?_ _) | (with_reducible refine Kd.C_drewN ?_ _) | (with_reducible refine Kd.C_drew ?_))); (case side4 => exact HC0.out); rintro e w' ⟨rfl, ⟨nd, rfl⟩⟩))
                    go_ret2
                    exact ⟨_, by first | rfl | (simp [errW_none, errW_some] <;> rfl) | (simp [*, errW_none, errW_some] <;> rfl), by first | exact Kd.R_nil _ _ _ _ _ | exact Kd.N_nil _ _ _ _ _ | exact Kd.V_nil _ _ _ _ _ | exact Kd.Q_nil _ _ _ _ _ | exact Kd.S_nil _ _ _ _ _, by repeat (first | (with_reducible first | exact HB.out | apply below_alloc | apply pw_below_drewN | apply below_drew1) | exact HB.out)⟩
                · rw [if_neg c14] at H
                  exact absurd H (by simp)
              · replace c13 := Bool.eq_false_iff.mpr c13
                subst c13
                have H1 : (some (0, ([] : List Int))) = some (r1, r2) := by rw [if_neg (show ¬ (false = true) by decide)] at H; exact H
                clear H
                have H := H1
                clear H1
                simp only [Option.some.injEq, Prod.mk.injEq] at H
                obtain ⟨rfl, rfl⟩ := H
                have p206 : 0 ≤ (1 : Int) := (by omega)
                have q206 : 1 < (l0.length : Int) := of_decide_eq_true (by first | (with_reducible assumption) | assumption)
                obtain ⟨ad206, e206, hx206_0⟩ := Kd.at_int HR0.out 1 p206 q206
                cases e206
                (try simp only [show (1 : Int).toNat = 1 from rfl, Nat.reduceMul, Nat.reduceEqDiff, Go.Addr.add, ↓reduceIte] at hx206_0)
                have qi206 : (1 < l0.length) = True := eq_true (by omega)
                (try rw [show ((1 : Int)).toNat = 1 from rfl] at hx206_0)
                replace hx206_0 := (HB.out.cell (World.block_lt_of_cell? w _ hx206_0)).trans hx206_0
                replace p206 := eq_true p206
                replace q206 := eq_true q206
                obtain ⟨i028, hi028, _, hsz28, _⟩ := info_parts info3
                obtain ⟨A28, hcut28, hA28, hC28⟩ := print_mid_of (P := Try.prog) (Value.int .i64) 0 24 3 .i64 .i64 Try.underlying24 hi028 hsz28 (some ad206) c0 l0 2 (wrap64 (2 + (rd l0 1))) (by omega) (by first | omega | exact of_decide_eq_true (by first | (with_reducible assumption) | assumption)) (of_decide_eq_true (by first | (with_reducible assumption) | assumption)) HC0.out
                have HR207 := Aside0.mk (Kd.C_of_reads (h1 := fun _ => rfl) (hA28 _ (Kd.reads_of_C HR0.out)))
                have HC207 := Aside0.mk hC28
                clear hA28 hC28 hi028 hsz28
                go_wp2_with (first | ((with_reducible refine gate_callee (f := 63) rfl ?_); refine goesL_ (some 27) rfl rfl Try.func63 (by kernel_rfl) rfl #[.slice A28 ((l0.take ((wrap64 (2 + (rd l0 1))) : Int).toNat).drop 2).length (c0 - 2)] rfl (by (try simp only [List.map_toArray, List.map_cons, List.map_nil]); first | done | (rw [show ((l0.take ((wrap64 (2 + (rd l0 1))) : Int).toNat).drop 2).length = ((wrap64 (2 + (rd l0 1))).toNat - 2) from (by rw [List.length_drop, List.length_take]; have h_ : ((wrap64 (2 + (rd l0 1))) : Int) ≤ (l0.length : Int) := of_decide_eq_true (by first | (with_reducible assumption) | assumption); omega)] <;> rfl) | rfl | (simp only [List.length_drop, List.length_take]; rfl)) ?_; (with_reducible refine (slices_Clone_int_int.calls _ _ ((l0.take ((wrap64 (2 + (rd l0 1))) : Int).toNat).drop 2) t208 _ ?side1 ?side2 A11.out).mono ?_); (case side1 => repeat (first | exact (Kd.C_below HR207.out HB.out) | (with_reducible refine Kd.C_alloc ?_ _) | (with_reducible refine Kd.C_drewN ?_ _) | (with_reducible refine Kd.C_drew ?_))); (case side2 => exact HC207.out); rintro e w29 ⟨v209, rfl, ho0, hb⟩; refine ⟨_, rfl, ?_⟩; have n0_ := Aside0.mk (Kd.R_lower ho0 (below_size (by repeat (first | (with_reducible first | exact HB.out | apply below_alloc | apply pw_below_drewN | apply below_drew1) | exact HB.out)))); have n1_ := Aside0.mk (below_step (by repeat (first | (with_reducible first | exact HB.out | apply below_alloc | apply pw_below_drewN | apply below_drew1) | exact HB.out)) hb); clear HB; have HO210 := n0_; have HB := n1_; clear n0_ n1_; (try clear hb); (try clear hb2); (try clear hk); (try clear hi); (try clear ho0); obtain ⟨Ao30, co30, eo30⟩ := Kd.R_slice HO210.out; subst eo30) | ((with_reducible refine gate_callee (f := 57) rfl ?_); refine goesL_ (some 29) rfl rfl Try.func57 (by kernel_rfl) rfl #[.slice Ao30 t208.length co30] rfl (by (try simp only [List.map_toArray, List.map_cons, List.map_nil]); first | done | rfl | (simp only [List.length_drop, List.length_take]; rfl)) ?_; (with_reducible refine (impl_IsState.calls kj1 _ _ t208 false _ ?side1 ?side2 A12.out).mono ?_); (case side1 => repeat (first | exact (Kd.R_reads' HO210.out).2.2 | (with_reducible refine Kd.C_alloc ?_ _) | (with_reducible refine Kd.C_drewN ?_ _) | (with_reducible refine Kd.C_drew ?_))); (case side2 => exact (Kd.R_reads' HO210.out).2.1); rintro e w' ⟨rfl, ⟨nd, rfl⟩⟩; refine ⟨_, rfl, ?_⟩))
                go_ret2
                exact ⟨_, by first | rfl | (simp [errW_none, errW_some] <;> rfl) | (simp [*, errW_none, errW_some] <;> rfl), by first | exact Kd.R_nil _ _ _ _ _ | exact Kd.N_nil _ _ _ _ _ | exact Kd.V_nil _ _ _ _ _ | exact Kd.Q_nil _ _ _ _ _ | exact Kd.S_nil _ _ _ _ _, by repeat (first | (with_reducible first | exact HB.out | apply below_alloc | apply pw_below_drewN | apply below_drew1) | exact HB.out)⟩
            · rw [if_neg c10] at H
              exact absurd H (by simp)
          · rw [if_neg c9] at H
            exact absurd H (by simp)
        · rw [if_neg c8] at H
          exact absurd H (by simp)

/-! ### impl_newest: function 77 -/
def impl_newest.j0 : Nat → Int → List Int → Int → List Int → Bool → Option (Int × Int × List Int)
  | 0, _, _, _, _, _ => none
  | k + 1, x7, x8, x9, x10, x21 => if x21 = true then (some ((-1), 0, ([] : List Int))) else (if x7 ≥ x9 then (some (0, x7, x8)) else (some (1, x9, x10)))
def impl_newest.f (k : Nat) (l0 : List Int) (l1 : List Int) : Option (Int × Int × List Int) := (impl_readArea.f k l0).bind fun bt218 => ((impl_readArea.f k l1).bind fun bt222 => (if bt218.1 = 0 then (impl_newest.j0 k bt218.1 bt218.2 bt222.1 bt222.2 (bt222.1 == 0)) else (impl_newest.j0 k bt218.1 bt218.2 bt222.1 bt222.2 false)))
theorem impl_newest.mono_l : ∀ k, (∀ y0 y1 y2 y3 y4, LeO (impl_newest.j0 k y0 y1 y2 y3 y4) (impl_newest.j0 (k + 1) y0 y1 y2 y3 y4))
  | 0 => fun _ _ _ _ _ r h => by simp [impl_newest.j0] at h
  | k + 1 => by
    have ih0 := impl_newest.mono_l k
    · intro y0 y1 y2 y3 y4
      unfold impl_newest.j0
      repeat' first
      | (with_reducible exact ih0 _ _ _ _ _)
      | (with_reducible exact impl_readArea.mono _ _)
      | (with_reducible exact LeO.refl _)
      | (with_reducible exact LeO.none _)
      | (with_reducible refine LeO.ite ?_ ?_)
      | (with_reducible refine LeO.bind ?_ (fun _ => ?_))
      | exact ih0 _ _ _ _ _
      | exact impl_readArea.mono _ _
      | exact LeO.none _
      | refine LeO.ite ?_ ?_
      | refine LeO.bind ?_ (fun _ => ?_)
theorem impl_newest.mono : ∀ a0 a1 k, LeO (impl_newest.f k a0 a1) (impl_newest.f (k + 1) a0 a1) := by
  intro a0 a1 k
  have ih0 := impl_newest.mono_l k
  unfold impl_newest.f
  repeat' first
      | (with_reducible exact ih0 _ _ _ _ _)
      | (with_reducible exact impl_readArea.mono _ _)
      | (with_reducible exact LeO.refl _)
      | (with_reducible exact LeO.none _)
      | (with_reducible refine LeO.ite ?_ ?_)
      | (with_reducible refine LeO.bind ?_ (fun _ => ?_))
      | exact ih0 _ _ _ _ _
      | exact impl_readArea.mono _ _
      | exact LeO.none _
      | refine LeO.ite ?_ ?_
      | refine LeO.bind ?_ (fun _ => ?_)
set_option maxHeartbeats 8000000 in
set_option maxRecDepth 100000 in
theorem impl_newest.calls (k : Nat) (A0 : Option Addr) (c0 : Nat) (l0 : List Int) (A1 : Option Addr) (c1 : Nat) (l1 : List Int) (r1 : Int) (r2 : Int) (r3 : List Int) (w : World) (hr0 : Kd.C (Kd.int .i64) w A0 l0.length l0) (hc0 : l0.length ≤ c0) (hr1 : Kd.C (Kd.int .i64) w A1 l1.length l1) (hc1 : l1.length ≤ c1) (h : impl_newest.f k l0 l1 = some (r1, r2, r3)) :
    Calls Try.prog 77 #[.slice A0 l0.length c0, .slice A1 l1.length c1] w fun e w' => ∃ v2_ : Value, e = .returned (.tuple #[.int .i64 r1, .int .i64 r2, v2_]) ∧ Kd.R (Kd.int .i64) 3 w' w.heap.size (fun _ => True) v2_ r3 ∧ Below w.heap.size w w' := by
  have HR0 := Aside0.mk hr0
  have HC0 := Aside0.mk hc0
  clear hr0 hc0
  have HR1 := Aside0.mk hr1
  have HC1 := Aside0.mk hc1
  clear hr1 hc1
  have HB := Aside0.mk (Below.refl w.heap.size w)
  have H : ((impl_readArea.f k l0).bind fun bt218 => ((impl_readArea.f k l1).bind fun bt222 => (if bt218.1 = 0 then (impl_newest.j0 k bt218.1 bt218.2 bt222.1 bt222.2 (bt222.1 == 0)) else (impl_newest.j0 k bt218.1 bt218.2 bt222.1 bt222.2 false)))) = some (r1, r2, r3) := h
  clear h
  replace H := Option.bind_eq_some_iff.mp H
  obtain ⟨⟨t218, t219⟩, A30, H⟩ := H
  replace H : ((impl_readArea.f k l1).bind fun bt222 => (if t218 = 0 then (impl_newest.j0 k t218 t219 bt222.1 bt222.2 (bt222.1 == 0)) else (impl_newest.j0 k t218 t219 bt222.1 bt222.2 false))) = some (r1, r2, r3) := H
  have A3 := Aside0.mk A30
  clear A30
  replace H := Option.bind_eq_some_iff.mp H
  obtain ⟨⟨t222, t223⟩, A40, H⟩ := H
  replace H : (if t218 = 0 then (impl_newest.j0 k t218 t219 t222 t223 (t222 == 0)) else (impl_newest.j0 k t218 t219 t222 t223 false)) = some (r1, r2, r3) := H
  have A4 := Aside0.mk A40
  clear A40
  have HC5 := Aside0.mk H
  clear H
  go_enter Try.func77, Try.ntmps77
  go_upto_region 3 with (first | ((with_reducible refine gate_callee (f := 53) rfl ?_); refine goesL_ (some 13) rfl rfl Try.func53 (by kernel_rfl) rfl #[.slice A0 l0.length c0] rfl (by (try simp only [List.map_toArray, List.map_cons, List.map_nil]); first | done | rfl | (simp only [List.length_drop, List.length_take]; rfl)) ?_; (with_reducible refine (impl_readArea.calls k _ _ l0 t218 t219 _ ?side1 ?side2 A3.out).mono ?_); (case side1 => repeat (first | exact HR0.out | (with_reducible refine Kd.C_alloc ?_ _) | (with_reducible refine Kd.C_drewN ?_ _) | (with_reducible refine Kd.C_drew ?_))); (case side2 => exact HC0.out); rintro e w6 ⟨v220, rfl, ho0, hb⟩; refine ⟨_, rfl, ?_⟩; have n0_ := Aside0.mk (Kd.R_lower ho0 (below_size (by repeat (first | (with_reducible first | exact HB.out | apply below_alloc | apply pw_below_drewN | apply below_drew1) | exact HB.out)))); have n1_ := Aside0.mk (below_step (by repeat (first | (with_reducible first | exact HB.out | apply below_alloc | apply pw_below_drewN | apply below_drew1) | exact HB.out)) hb); clear HB; have HO221 := n0_; have HB := n1_; clear n0_ n1_; (try clear hb); (try clear hb2); (try clear hk); (try clear hi); (try clear ho0)) | ((with_reducible refine gate_callee (f := 53) rfl ?_); refine goesL_ (some 18) rfl rfl Try.func53 (by kernel_rfl) rfl #[.slice A1 l1.length c1] rfl (by (try simp only [List.map_toArray, List.map_cons, List.map_nil]); first | done | rfl | (simp only [List.length_drop, List.length_take]; rfl)) ?_; (with_reducible refine (impl_readArea.calls k _ _ l1 t222 t223 _ ?side1 ?side2 A4.out).mono ?_); (case side1 => repeat (first | exact (Kd.C_below HR1.out HB.out) | (with_reducible refine Kd.C_alloc ?_ _) | (with_reducible refine Kd.C_drewN ?_ _) | (with_reducible refine Kd.C_drew ?_))); (case side2 => exact HC1.out); rintro e w7 ⟨v224, rfl, ho0, hb⟩; refine ⟨_, rfl, ?_⟩; have n0_ := Aside0.mk (Kd.R_elder' (by (with_reducible repeat (first | apply Kd.R_alloc | apply Kd.R_drewN | apply Kd.R_drew)); exact HO221.out) (Kd.R_base ho0) hb); have n1_ := Aside0.mk (Kd.R_lower (Kd.R_new' ho0 (Kd.R_lt (by (with_reducible repeat (first | apply Kd.R_alloc | apply Kd.R_drewN | apply Kd.R_drew)); exact HO221.out))) (below_size (by repeat (first | (with_reducible first | exact HB.out | apply below_alloc | apply pw_below_drewN | apply below_drew1) | exact HB.out)))); have n2_ := Aside0.mk (below_step (by repeat (first | (with_reducible first | exact HB.out | apply below_alloc | apply pw_below_drewN | apply below_drew1) | exact HB.out)) hb); clear HO221; clear HB; have HO221 := n0_; have HO225 := n1_; have HB := n2_; clear n0_ n1_ n2_; (try clear hb); (try clear hb2); (try clear hk); (try clear hi); (try clear ho0)))
  (try simp only [Act.put, List.setIfInBounds_toArray, List.set_cons_zero, List.set_cons_succ])
  go_cut [21] (fun v21 wc => ∃ (kq : Nat) (x21_4 : Bool), v21 = .bool x21_4 ∧ Aside0 (impl_newest.j0 kq t218 t219 t222 t223 x21_4 = some (r1, r2, r3)) ∧ Aside0 (kq ≤ k) ∧ Aside0 (Kd.R (Kd.int .i64) 3 wc w.heap.size (fun k_ => some k_ ≠ (v224 : Value).ownBlock) v220 t219) ∧ Aside0 (Kd.R (Kd.int .i64) 3 wc w.heap.size (fun k_ => some k_ ≠ (v220 : Value).ownBlock) v224 t223) ∧ Aside0 (Below w.heap.size w wc))
  case first =>
    have H := HC5.out
    clear HC5
    by_cases c8 : t218 = 0
    · rw [if_pos c8] at H
      have c8b0 : (t218 == 0) = true := beq_iff_eq.mpr c8
      have c8b1 : (t218 != 0) = false := bne_eq_false_iff_eq.mpr c8
      clear c8
      (first | rw [c8b0] | (simp only [i64_w, i32_w]; rw [c8b0]) | skip)
      have H' := Aside0.mk H
      clear H
      go_wp2
      go_meet
      case rel => exact ⟨_, ((t222 == 0)), (by first | rfl | (simp; done) | (simp [*]; done)), H', ⟨by first | omega | exact Nat.le_refl _⟩, ⟨by (with_reducible repeat (first | apply Kd.R_alloc | apply Kd.R_drewN | apply Kd.R_drew)); exact Kd.R_mono HO221.out (fun _ hk => hk.2)⟩, ⟨by (with_reducible repeat (first | apply Kd.R_alloc | apply Kd.R_drewN | apply Kd.R_drew)); exact Kd.R_mono HO225.out (fun _ hk => hk.2)⟩, ⟨by repeat (first | (with_reducible first | exact HB.out | apply below_alloc | apply pw_below_drewN | apply below_drew1) | exact HB.out)⟩⟩
    · rw [if_neg c8] at H
      have c8b0 : (t218 == 0) = false := beq_eq_false_iff_ne.mpr c8
      have c8b1 : (t218 != 0) = true := bne_iff_ne.mpr c8
      (first | rw [c8b0] | (simp only [i64_w, i32_w]; rw [c8b0]) | skip)
      have H' := Aside0.mk H
      clear H
      go_wp2
      go_meet
      case rel => exact ⟨_, (false), (by first | rfl | (simp; done) | (simp [*]; done)), H', ⟨by first | omega | exact Nat.le_refl _⟩, ⟨by (with_reducible repeat (first | apply Kd.R_alloc | apply Kd.R_drewN | apply Kd.R_drew)); exact Kd.R_mono HO221.out (fun _ hk => hk.2)⟩, ⟨by (with_reducible repeat (first | apply Kd.R_alloc | apply Kd.R_drewN | apply Kd.R_drew)); exact Kd.R_mono HO225.out (fun _ hk => hk.2)⟩, ⟨by repeat (first | (with_reducible first | exact HB.out | apply below_alloc | apply pw_below_drewN | apply below_drew1) | exact HB.out)⟩⟩
  case rest =>
    clear HC5
    try clear c1
    try clear p2
    try clear c5
    try clear c7
    try clear c8
    try clear c8b0
    try clear c8b1
    obtain ⟨kq, x21_4, rfl, HA, HJ4, HO_8, HO_10, HB⟩ := hcut
    cases kq with
    | zero => exact absurd HA.out (by simp [impl_newest.j0])
    | succ kj4 =>
      have H := HA.out
      clear HA
      simp only [impl_newest.j0] at H
      by_cases c9 : x21_4 = true
      · subst c9
        have H1 : (some ((-1), 0, ([] : List Int))) = some (r1, r2, r3) := by rw [if_pos rfl] at H; exact H
        clear H
        have H := H1
        clear H1
        simp only [Option.some.injEq, Prod.mk.injEq] at H
        obtain ⟨rfl, rfl, rfl⟩ := H
        go_wp2
        go_ret3
        exact ⟨_, by first | rfl | (simp [errW_none, errW_some] <;> rfl) | (simp [*, errW_none, errW_some] <;> rfl), by first | exact Kd.R_nil _ _ _ _ _ | exact Kd.N_nil _ _ _ _ _ | exact Kd.V_nil _ _ _ _ _ | exact Kd.Q_nil _ _ _ _ _ | exact Kd.S_nil _ _ _ _ _, by repeat (first | (with_reducible first | exact HB.out | apply below_alloc | apply pw_below_drewN | apply below_drew1) | exact HB.out)⟩
      · replace c9 := Bool.eq_false_iff.mpr c9
        subst c9
        have H1 : (if t218 ≥ t222 then (some (0, t218, t219)) else (some (1, t222, t223))) = some (r1, r2, r3) := by rw [if_neg (show ¬ (false = true) by decide)] at H; exact H
        clear H
        have H := H1
        clear H1
        by_cases c10 : t218 ≥ t222
        · rw [if_pos c10] at H
          have c10b0 : decide (t222 ≤ t218) = true := decide_eq_true c10
          clear c10
          simp only [Option.some.injEq, Prod.mk.injEq] at H
          obtain ⟨rfl, rfl, rfl⟩ := H
          go_wp2
          go_ret3
          exact ⟨_, by first | rfl | (simp [errW_none, errW_some] <;> rfl) | (simp [*, errW_none, errW_some] <;> rfl), by (with_reducible repeat (first | apply Kd.R_alloc | apply Kd.R_drewN | apply Kd.R_drew)); exact Kd.R_mono HO_8.out (fun _ hk => trivial), by repeat (first | (with_reducible first | exact HB.out | apply below_alloc | apply pw_below_drewN | apply below_drew1) | exact HB.out)⟩
        · rw [if_neg c10] at H
          have c10b0 : decide (t222 ≤ t218) = false := decide_eq_false c10
          clear c10
          simp only [Option.some.injEq, Prod.mk.injEq] at H
          obtain ⟨rfl, rfl, rfl⟩ := H
          go_wp2
          go_ret3
          exact ⟨_, by first | rfl | (simp [errW_none, errW_some] <;> rfl) | (simp [*, errW_none, errW_some] <;> rfl), by (with_reducible repeat (first | apply Kd.R_alloc | apply Kd.R_drewN | apply Kd.R_drew)); exact Kd.R_mono HO_10.out (fun _ hk => trivial), by repeat (first | (with_reducible first | exact HB.out | apply below_alloc | apply pw_below_drewN | apply below_drew1) | exact HB.out)⟩

/-! ### impl_writeSteps: function 58 (by hand: copies of both areas, one of them written step by step) -/
def impl_writeSteps.steps : Nat → List Int → List Int → Int → Int → Option (List Int)
  | 0, _, _, _, _ => none
  | k + 1, x, nx, n, i => if i < n then (if 0 ≤ i then (if i = 0 then (impl_writeSteps.steps k (x.set 0 0) nx n (wrap64 (i + 1))) else (if i < 15 then (impl_writeSteps.steps k (x.set i.toNat (rd nx i)) nx n (wrap64 (i + 1))) else (impl_writeSteps.steps k (x.set 0 (rd nx 0)) nx n (wrap64 (i + 1))))) else none) else (some x)
def impl_writeSteps.f (k : Nat) (l0 : List Int) (l1 : List Int) (l2 : List Int) (a3 : Int) : Option (List Int × List Int × Bool) := (impl_newest.f k l0 l1).bind fun t => (if t.2.1 = 999 then (some ([], [], false)) else (if l0.length = 15 then (if l1.length = 15 then ((impl_areaOf.f (wrap64 (t.2.1 + 1)) l2).bind fun nx => (if t.1 = 0 then ((impl_writeSteps.steps k l1 nx a3 0).bind fun o => (some (l0, o, true))) else ((impl_writeSteps.steps k l0 nx a3 0).bind fun o => (some (o, l1, true))))) else none) else none))
theorem impl_writeSteps.mono_l : ∀ k, (∀ y0 y1 y2 y3, LeO (impl_writeSteps.steps k y0 y1 y2 y3) (impl_writeSteps.steps (k + 1) y0 y1 y2 y3))
  | 0 => fun _ _ _ _ r h => by simp [impl_writeSteps.steps] at h
  | k + 1 => by
    have ih0 := impl_writeSteps.mono_l k
    · intro y0 y1 y2 y3
      unfold impl_writeSteps.steps
      repeat' first
      | (with_reducible exact ih0 _ _ _ _)
      | (with_reducible exact LeO.refl _)
      | (with_reducible exact LeO.none _)
      | (with_reducible refine LeO.ite ?_ ?_)
theorem impl_writeSteps.mono : ∀ a0 a1 a2 a3 k, LeO (impl_writeSteps.f k a0 a1 a2 a3) (impl_writeSteps.f (k + 1) a0 a1 a2 a3) := by
  intro a0 a1 a2 a3 k
  have ih0 := impl_writeSteps.mono_l k
  unfold impl_writeSteps.f
  repeat' first
      | (with_reducible exact ih0 _ _ _ _)
      | (with_reducible exact impl_newest.mono _ _ _)
      | (with_reducible exact LeO.refl _)
      | (with_reducible exact LeO.none _)
      | (with_reducible refine LeO.ite ?_ ?_)
      | (with_reducible refine LeO.bind ?_ (fun _ => ?_))
theorem impl_writeSteps.len15 (a : Int) (l r : List Int) (h : impl_areaOf.f a l = some r) : r.length = 15 := by
  unfold impl_areaOf.f at h
  by_cases c : l.length ≤ 12
  · rw [if_pos c] at h
    obtain rfl := Option.some.inj h
    simp [impl_areaOf.body]; omega
  · rw [if_neg c] at h; cases h
set_option maxHeartbeats 4000000 in
set_option maxRecDepth 100000 in
theorem impl_writeSteps.calls (k : Nat) (A0 : Option Addr) (c0 : Nat) (l0 : List Int) (A1 : Option Addr) (c1 : Nat) (l1 : List Int) (A2 : Option Addr) (c2 : Nat) (l2 : List Int) (a3 : Int) (r1 : List Int) (r2 : List Int) (r3 : Bool) (w : World) (hr0 : Kd.C (Kd.int .i64) w A0 l0.length l0) (hc0 : l0.length ≤ c0) (hr1 : Kd.C (Kd.int .i64) w A1 l1.length l1) (hc1 : l1.length ≤ c1) (hr2 : Kd.C (Kd.int .i64) w A2 l2.length l2) (hc2 : l2.length ≤ c2) (h : impl_writeSteps.f k l0 l1 l2 a3 = some (r1, r2, r3)) :
    Calls Try.prog 58 #[.slice A0 l0.length c0, .slice A1 l1.length c1, .slice A2 l2.length c2, .int .i64 a3] w fun e w' => ∃ v0_ v1_ : Value, e = .returned (.tuple #[v0_, v1_, .bool r3]) ∧ Kd.R (Kd.int .i64) 3 w' w.heap.size (fun k_ => some k_ ≠ (v1_ : Value).ownBlock) v0_ r1 ∧ Kd.R (Kd.int .i64) 3 w' w.heap.size (fun k_ => some k_ ≠ (v0_ : Value).ownBlock) v1_ r2 ∧ Below w.heap.size w w' := by
  have HR0 := Aside0.mk hr0
  have HC0 := Aside0.mk hc0
  have HR1 := Aside0.mk hr1
  have HC1 := Aside0.mk hc1
  have HR2 := Aside0.mk hr2
  have HC2 := Aside0.mk hc2
  clear hr0 hc0 hr1 hc1 hr2 hc2
  have H := Option.bind_eq_some_iff.mp h
  clear h
  obtain ⟨⟨t1, t2, t3⟩, a1, H⟩ := H
  have A1_ := Aside0.mk a1
  clear a1
  dsimp only at H
  by_cases c9 : t2 = 999
  · rw [if_pos c9] at H
    simp only [Option.some.injEq, Prod.mk.injEq] at H
    obtain ⟨rfl, rfl, rfl⟩ := H
    have c9b : (t2 == 999) = true := beq_iff_eq.mpr c9
    clear c9
    go_enter Try.func58, Try.ntmps58
    go_wp2_with (go_at_call 77; refine (impl_newest.calls k A0 c0 l0 A1 c1 l1 t1 t2 t3 _ HR0.out HC0.out HR1.out HC1.out A1_.out).mono ?_; rintro e w1 ⟨v1, rfl, ho, hb⟩; have HB1 := Aside0.mk hb; clear ho hb)
    go_ret3
    exact ⟨_, _, rfl, Kd.R_nil _ _ _ _ _, Kd.R_nil _ _ _ _ _, HB1.out⟩
  · rw [if_neg c9] at H
    have c9b : (t2 == 999) = false := beq_eq_false_iff_ne.mpr c9
    clear c9
    by_cases h0 : l0.length = 15
    · rw [if_pos h0] at H
      by_cases h1 : l1.length = 15
      · rw [if_pos h1] at H
        replace H := Option.bind_eq_some_iff.mp H
        obtain ⟨nx, a2, H⟩ := H
        have hn := impl_writeSteps.len15 _ _ _ a2
        have hcl0 : slices_Clone_int_int.f l0 = some l0 := if_pos (by omega)
        have hcl1 : slices_Clone_int_int.f l1 = some l1 := if_pos (by omega)
        have A2_ := Aside0.mk a2
        have CL0 := Aside0.mk hcl0
        have CL1 := Aside0.mk hcl1
        have H0 := Aside0.mk h0
        have H1 := Aside0.mk h1
        have HN := Aside0.mk hn
        clear a2 hcl0 hcl1 h0 h1 hn
        by_cases c0_ : t1 = 0
        · rw [if_pos c0_] at H
          have c0b : (t1 == 0) = true := beq_iff_eq.mpr c0_
          clear c0_
          replace H := Option.bind_eq_some_iff.mp H
          obtain ⟨o, a4, H⟩ := H
          simp only [Option.some.injEq, Prod.mk.injEq] at H
          obtain ⟨rfl, rfl, rfl⟩ := H
          have A4 := Aside0.mk a4
          clear a4
          go_enter Try.func58, Try.ntmps58
          go_wp2_with (first
            | (go_at_call 77; refine (impl_newest.calls k A0 c0 l0 A1 c1 l1 t1 t2 t3 _ HR0.out HC0.out HR1.out HC1.out A1_.out).mono ?_; rintro e w1 ⟨v1, rfl, ho, hb⟩; have HB1 := Aside0.mk hb; clear ho hb)
            | (go_at_call 63; (with_reducible refine (slices_Clone_int_int.calls A0 c0 l0 l0 _ ?s1 HC0.out CL0.out).mono ?_); (case s1 => exact Kd.C_below HR0.out HB1.out); rintro e w2 ⟨v2, rfl, ho, hb⟩; obtain ⟨Aa, ca, ea⟩ := Kd.R_slice ho; subst ea; have HO2 := Aside0.mk ho; have HB2 := Aside0.mk (below_step HB1.out hb); have GE2 := Aside0.mk (show w.heap.size ≤ w1.heap.size from HB1.out.size); clear ho hb)
            | (go_at_call 63; (with_reducible refine (slices_Clone_int_int.calls A1 c1 l1 l1 _ ?s1 HC1.out CL1.out).mono ?_); (case s1 => exact Kd.C_below HR1.out HB2.out); rintro e w3 ⟨v3, rfl, ho, hb⟩; obtain ⟨Ab, cb, eb⟩ := Kd.R_slice ho; subst eb; have HO3a := Aside0.mk (Kd.R_lower (Kd.R_elder' HO2.out (Kd.R_base ho) hb) GE2.out); have HO3b := Aside0.mk (Kd.R_lower (Kd.R_new' ho (Kd.R_lt HO2.out)) HB2.out.size); have HB3 := Aside0.mk (below_step HB2.out hb); clear ho hb HO2)
            | ((with_reducible refine gate_dst (N := 31) rfl ?_); refine Kd.R_lit (Kd.raw 1) _ 24 ?hg (N := 31) ?hd (xs := ([[.slice Aa l0.length ca], [.slice Ab l1.length cb]] : List (List Value))) (inner := [.slice Aa l0.length ca, .slice Ab l1.length cb]) (ok := fun _ => True) (okp := fun _ => True) ?hr ?hp (fun _ hk => hk) trivial (Below.refl _ _) (Nat.le_refl _) (by simp) ?_; (case hd => rfl); (case hg => rfl); (case hr => first | (go_simp; done) | (go_simp; rfl)); (case hp => exact Reps.one ⟨rfl, rfl, by intro u hu; rw [List.mem_singleton.1 hu]; rfl⟩ (Reps.one ⟨rfl, rfl, by intro u hu; rw [List.mem_singleton.1 hu]; rfl⟩ (Reps.none _ _))); intro v4 w4 ho4 hb hg_ hnew_; clear hg_ hnew_; obtain ⟨gl, cl, el, hgl, hgl2, _⟩ := Kd.R_form ho4 (by simp); subst el; obtain ⟨q0, _, hM0, hq0, _⟩ := Kd.R_elem ho4 [] 0 (by omega) (by simp); obtain ⟨q1, _, hM1, hq1, _⟩ := Kd.R_elem ho4 [] 1 (by omega) (by simp); obtain ⟨rfl, _, _⟩ := hM0; obtain ⟨rfl, _, _⟩ := hM1; have hl0 : w4.cell? ⟨gl, 0, none⟩ = some (.slice Aa l0.length ca) := hq0 0 _ rfl; have hl1 : w4.cell? ⟨gl, 1, none⟩ = some (.slice Ab l1.length cb) := hq1 0 _ rfl; have HL := Aside0.mk (And.intro hl0 hl1); have GL := Aside0.mk hgl; have GL2 := Aside0.mk hgl2; have HO4a := Aside0.mk (Kd.R_below HO3a.out hb); have HO4b := Aside0.mk (Kd.R_below HO3b.out hb); have LTa := Aside0.mk (Kd.R_lt HO3a.out); have LTb := Aside0.mk (Kd.R_lt HO3b.out); have HB4 := Aside0.mk (below_step HB3.out hb); clear HO3a HO3b ho4 hb hq0 hq1 hgl hgl2)
            | (go_at_call 74; (with_reducible refine (impl_areaOf.calls (wrap64 (t2 + 1)) A2 c2 l2 nx _ ?s1 HC2.out A2_.out).mono ?_); (case s1 => exact Kd.C_below HR2.out HB4.out); rintro e w5 ⟨v5, rfl, ho, hb⟩; obtain ⟨An, cn, en⟩ := Kd.R_slice ho; subst en; have HO5a := Aside0.mk (Kd.R_elder' HO4a.out (Kd.R_base ho) hb); have HO5b := Aside0.mk (Kd.R_elder' HO4b.out (Kd.R_base ho) hb); have HO5n := Aside0.mk (Kd.R_lower (Kd.R_new' (Kd.R_new' ho (Kd.R_lt HO4a.out)) (Kd.R_lt HO4b.out)) HB4.out.size); have HL5 := Aside0.mk (And.intro (pw_cell_below hb HL.out.1) (pw_cell_below hb HL.out.2)); have HB5 := Aside0.mk (below_step HB4.out hb); clear ho hb HO4a HO4b))
          obtain ⟨gT, cT, eT, _, _, _⟩ := Kd.R_form HO5b.out (by have := H1.out; omega)
          obtain ⟨rfl, rfl⟩ : Ab = some ⟨gT, 0, none⟩ ∧ cb = cT := by injection eT with e1 e2 e3; exact ⟨e1, e3⟩
          clear eT
          obtain ⟨gN, cN, eN, _, _, _⟩ := Kd.R_form HO5n.out (by have := HN.out; omega)
          obtain ⟨rfl, rfl⟩ : An = some ⟨gN, 0, none⟩ ∧ cn = cN := by injection eN with e1 e2 e3; exact ⟨e1, e3⟩
          clear eN
          have NE : Aside0 (gl ≠ gT) := ⟨by have h1 := LTb.out gT rfl; have h2 := GL.out; omega⟩
          have GT : Aside0 (w.heap.size ≤ gT) := ⟨Kd.R_base HO5b.out gT rfl⟩
          have HT := Aside0.mk (Kd.R_mono (ok' := fun _ => True) HO5b.out (fun _ _ => trivial))
          have HO := Aside0.mk (Kd.R_mono (ok' := fun k_ => k_ ≠ gT) HO5a.out (fun k_ hk e_ => hk.1.2 (by rw [e_]; rfl)))
          have HX := Aside0.mk (Kd.R_mono (ok' := fun k_ => k_ ≠ gT) HO5n.out (fun k_ hk e_ => hk.2 (by rw [e_]; rfl)))
          clear HO5a HO5b HO5n HL
          go_loopg [45] k (fun kq v45 wr => ∃ (x : List Int) (xi : Int), v45 = .int .i64 xi ∧ Aside0 (x.length = 15) ∧ Aside0 (impl_writeSteps.steps kq x nx a3 xi = some o) ∧ Aside0 (kq ≤ k) ∧ Aside0 (Kd.R (Kd.int .i64) 3 wr w.heap.size (fun _ => True) (.slice (some ⟨gT, 0, none⟩) l1.length cb) x) ∧ Aside0 (Kd.R (Kd.int .i64) 3 wr w.heap.size (fun k_ => k_ ≠ gT) (.slice Aa l0.length ca) l0) ∧ Aside0 (Kd.R (Kd.int .i64) 3 wr w.heap.size (fun k_ => k_ ≠ gT) (.slice (some ⟨gN, 0, none⟩) nx.length cn) nx) ∧ Aside0 (wr.cell? ⟨gl, 0, none⟩ = some (.slice Aa l0.length ca) ∧ wr.cell? ⟨gl, 1, none⟩ = some (.slice (some ⟨gT, 0, none⟩) l1.length cb)) ∧ Aside0 (Below w.heap.size w wr))
          case atStart => exact ⟨l1, 0, (by first | rfl | (simp; done) | (simp [*]; done)), H1, A4, ⟨Nat.le_refl _⟩, HT, HO, HX, HL5, HB5⟩
          case round =>
            clear A4 HT HO HX HL5 HB5
            try clear p2
            obtain ⟨x, xi, rfl, HXL, HA, HK1, HT, HO, HX, HL, HB⟩ := hrel
            cases gk with
            | zero => exact absurd HA.out (by simp [impl_writeSteps.steps])
            | succ k1 =>
              have H := HA.out
              clear HA
              simp only [impl_writeSteps.steps] at H
              by_cases c4 : xi < a3
              · rw [if_pos c4] at H
                have c4b : decide (xi < a3) = true := decide_eq_true c4
                clear c4
                by_cases c5 : 0 ≤ xi
                · rw [if_pos c5] at H
                  by_cases c6 : xi = 0
                  · rw [if_pos c6] at H
                    subst c6
                    have H' := Aside0.mk H
                    clear H
                    obtain ⟨hx0, hf0⟩ := Kd.R_celln 0 HT.out (0 : Int) (by omega) (by have := H1.out; omega)
                    have hx1 : wr.cell? ⟨gT, 0, none⟩ = some (.int .i64 (rd x 0)) := hx0
                    have hf1 : wr.frozen? ⟨gT, 0, none⟩ = false := hf0
                    clear hx0 hf0
                    have q1 : (0 : Int) < (l1.length : Int) := by have := H1.out; omega
                    have q2 := eq_true q1
                    go_wp2
                    go_roundg k1
                    case measure => have := HK1.out; omega
                    case rel => exact ⟨x.set 0 0, wrap64 (0 + 1), (by first | rfl | (simp; done) | (simp [*]; done) | (simp; unfold wrap64; omega)), ⟨by rw [List.length_set]; exact HXL.out⟩, H', ⟨by have := HK1.out; omega⟩, ⟨(Kd.R_putg HT.out (0 : Int) 0).1⟩, ⟨Kd.R_far (p := ⟨gT, 0, none⟩) HO.out (fun _ hk => hk) _⟩, ⟨Kd.R_far (p := ⟨gT, 0, none⟩) HX.out (fun _ hk => hk) _⟩, ⟨(World.cell?_of_block (Below.heap_setCell wr ⟨gT, 0, none⟩ _ gl NE.out)).trans HL.out.1, (World.cell?_of_block (Below.heap_setCell wr ⟨gT, 0, none⟩ _ gl NE.out)).trans HL.out.2⟩, ⟨below_set HB.out GT.out⟩⟩
                  · rw [if_neg c6] at H
                    have c6b : (xi == 0) = false := beq_eq_false_iff_ne.mpr c6
                    clear c6
                    by_cases c7 : xi < 15
                    · rw [if_pos c7] at H
                      have H' := Aside0.mk H
                      clear H
                      have q1 : xi < (l1.length : Int) := by have := H1.out; omega
                      have q3 : xi < (nx.length : Int) := by have := HN.out; omega
                      obtain ⟨hx1, hf1⟩ := Kd.R_celln 0 HT.out xi c5 q1
                      obtain ⟨hn1, _⟩ := Kd.R_celln 0 HX.out xi c5 q3
                      have c7b : decide (xi < 15) = true := decide_eq_true c7
                      have q2 := eq_true q1
                      have q4 := eq_true q3
                      have q5 := eq_true c5
                      go_wp2
                      go_roundg k1
                      case measure => have := HK1.out; omega
                      case rel => exact ⟨x.set xi.toNat (rd nx xi), wrap64 (xi + 1), (by first | rfl | (simp; done) | (simp [*]; done) | (simp; unfold wrap64; omega)), ⟨by rw [List.length_set]; exact HXL.out⟩, H', ⟨by have := HK1.out; omega⟩, ⟨(Kd.R_putg HT.out xi (rd nx xi)).1⟩, ⟨Kd.R_far (p := ⟨gT, xi.toNat, none⟩) HO.out (fun _ hk => hk) _⟩, ⟨Kd.R_far (p := ⟨gT, xi.toNat, none⟩) HX.out (fun _ hk => hk) _⟩, ⟨(World.cell?_of_block (Below.heap_setCell wr ⟨gT, xi.toNat, none⟩ _ gl NE.out)).trans HL.out.1, (World.cell?_of_block (Below.heap_setCell wr ⟨gT, xi.toNat, none⟩ _ gl NE.out)).trans HL.out.2⟩, ⟨below_set HB.out GT.out⟩⟩
                    · rw [if_neg c7] at H
                      have H' := Aside0.mk H
                      clear H
                      have c7b : decide (xi < 15) = false := decide_eq_false c7
                      clear c7
                      have q1 : (0 : Int) < (l1.length : Int) := by have := H1.out; omega
                      have q3 : (0 : Int) < (nx.length : Int) := by have := HN.out; omega
                      obtain ⟨hx0, hf0⟩ := Kd.R_celln 0 HT.out (0 : Int) (by omega) q1
                      obtain ⟨hn0, _⟩ := Kd.R_celln 0 HX.out (0 : Int) (by omega) q3
                      have hx1 : wr.cell? ⟨gT, 0, none⟩ = some (.int .i64 (rd x 0)) := hx0
                      have hf1 : wr.frozen? ⟨gT, 0, none⟩ = false := hf0
                      have hn1 : wr.cell? ⟨gN, 0, none⟩ = some (.int .i64 (rd nx 0)) := hn0
                      clear hx0 hf0 hn0
                      have q2 := eq_true q1
                      have q4 := eq_true q3
                      go_wp2
                      go_roundg k1
                      case measure => have := HK1.out; omega
                      case rel => exact ⟨x.set 0 (rd nx 0), wrap64 (xi + 1), (by first | rfl | (simp; done) | (simp [*]; done) | (simp; unfold wrap64; omega)), ⟨by rw [List.length_set]; exact HXL.out⟩, H', ⟨by have := HK1.out; omega⟩, ⟨(Kd.R_putg HT.out (0 : Int) (rd nx 0)).1⟩, ⟨Kd.R_far (p := ⟨gT, 0, none⟩) HO.out (fun _ hk => hk) _⟩, ⟨Kd.R_far (p := ⟨gT, 0, none⟩) HX.out (fun _ hk => hk) _⟩, ⟨(World.cell?_of_block (Below.heap_setCell wr ⟨gT, 0, none⟩ _ gl NE.out)).trans HL.out.1, (World.cell?_of_block (Below.heap_setCell wr ⟨gT, 0, none⟩ _ gl NE.out)).trans HL.out.2⟩, ⟨below_set HB.out GT.out⟩⟩
                · rw [if_neg c5] at H
                  exact absurd H (by simp)
              · rw [if_neg c4] at H
                have c4b : decide (xi < a3) = false := decide_eq_false c4
                clear c4
                obtain rfl := Option.some.inj H
                clear H
                obtain ⟨hl0, hl1⟩ := HL.out
                go_wp2
                go_quiet (fail)
                go_wp2
                go_ret3
                exact ⟨_, _, rfl, Kd.R_drewN (Kd.R_mono (ok' := fun k_ => some k_ ≠ (.slice (some ⟨gT, 0, none⟩) l1.length cb : Value).ownBlock) HO.out (fun k_ hk e_ => hk (Option.some.inj e_))) _, Kd.R_drewN (Kd.R_mono (ok' := fun k_ => some k_ ≠ (.slice Aa l0.length ca : Value).ownBlock) (Kd.R_tight rfl HT.out) (fun k_ hk e_ => HO.out.1 k_ (Eq.symm e_) (Option.some.inj hk))) _, by repeat (first | (with_reducible first | exact HB.out | apply below_alloc | apply pw_below_drewN | apply below_drew1) | exact HB.out)⟩
        · rw [if_neg c0_] at H
          have c0b : (t1 == 0) = false := beq_eq_false_iff_ne.mpr c0_
          clear c0_
          replace H := Option.bind_eq_some_iff.mp H
          obtain ⟨o, a4, H⟩ := H
          simp only [Option.some.injEq, Prod.mk.injEq] at H
          obtain ⟨rfl, rfl, rfl⟩ := H
          have A4 := Aside0.mk a4
          clear a4
          go_enter Try.func58, Try.ntmps58
          go_wp2_with (first
            | (go_at_call 77; refine (impl_newest.calls k A0 c0 l0 A1 c1 l1 t1 t2 t3 _ HR0.out HC0.out HR1.out HC1.out A1_.out).mono ?_; rintro e w1 ⟨v1, rfl, ho, hb⟩; have HB1 := Aside0.mk hb; clear ho hb)
            | (go_at_call 63; (with_reducible refine (slices_Clone_int_int.calls A0 c0 l0 l0 _ ?s1 HC0.out CL0.out).mono ?_); (case s1 => exact Kd.C_below HR0.out HB1.out); rintro e w2 ⟨v2, rfl, ho, hb⟩; obtain ⟨Aa, ca, ea⟩ := Kd.R_slice ho; subst ea; have HO2 := Aside0.mk ho; have HB2 := Aside0.mk (below_step HB1.out hb); have GE2 := Aside0.mk (show w.heap.size ≤ w1.heap.size from HB1.out.size); clear ho hb)
            | (go_at_call 63; (with_reducible refine (slices_Clone_int_int.calls A1 c1 l1 l1 _ ?s1 HC1.out CL1.out).mono ?_); (case s1 => exact Kd.C_below HR1.out HB2.out); rintro e w3 ⟨v3, rfl, ho, hb⟩; obtain ⟨Ab, cb, eb⟩ := Kd.R_slice ho; subst eb; have HO3a := Aside0.mk (Kd.R_lower (Kd.R_elder' HO2.out (Kd.R_base ho) hb) GE2.out); have HO3b := Aside0.mk (Kd.R_lower (Kd.R_new' ho (Kd.R_lt HO2.out)) HB2.out.size); have HB3 := Aside0.mk (below_step HB2.out hb); clear ho hb HO2)
            | ((with_reducible refine gate_dst (N := 31) rfl ?_); refine Kd.R_lit (Kd.raw 1) _ 24 ?hg (N := 31) ?hd (xs := ([[.slice Aa l0.length ca], [.slice Ab l1.length cb]] : List (List Value))) (inner := [.slice Aa l0.length ca, .slice Ab l1.length cb]) (ok := fun _ => True) (okp := fun _ => True) ?hr ?hp (fun _ hk => hk) trivial (Below.refl _ _) (Nat.le_refl _) (by simp) ?_; (case hd => rfl); (case hg => rfl); (case hr => first | (go_simp; done) | (go_simp; rfl)); (case hp => exact Reps.one ⟨rfl, rfl, by intro u hu; rw [List.mem_singleton.1 hu]; rfl⟩ (Reps.one ⟨rfl, rfl, by intro u hu; rw [List.mem_singleton.1 hu]; rfl⟩ (Reps.none _ _))); intro v4 w4 ho4 hb hg_ hnew_; clear hg_ hnew_; obtain ⟨gl, cl, el, hgl, hgl2, _⟩ := Kd.R_form ho4 (by simp); subst el; obtain ⟨q0, _, hM0, hq0, _⟩ := Kd.R_elem ho4 [] 0 (by omega) (by simp); obtain ⟨q1, _, hM1, hq1, _⟩ := Kd.R_elem ho4 [] 1 (by omega) (by simp); obtain ⟨rfl, _, _⟩ := hM0; obtain ⟨rfl, _, _⟩ := hM1; have hl0 : w4.cell? ⟨gl, 0, none⟩ = some (.slice Aa l0.length ca) := hq0 0 _ rfl; have hl1 : w4.cell? ⟨gl, 1, none⟩ = some (.slice Ab l1.length cb) := hq1 0 _ rfl; have HL := Aside0.mk (And.intro hl0 hl1); have GL := Aside0.mk hgl; have GL2 := Aside0.mk hgl2; have HO4a := Aside0.mk (Kd.R_below HO3a.out hb); have HO4b := Aside0.mk (Kd.R_below HO3b.out hb); have LTa := Aside0.mk (Kd.R_lt HO3a.out); have LTb := Aside0.mk (Kd.R_lt HO3b.out); have HB4 := Aside0.mk (below_step HB3.out hb); clear HO3a HO3b ho4 hb hq0 hq1 hgl hgl2)
            | (go_at_call 74; (with_reducible refine (impl_areaOf.calls (wrap64 (t2 + 1)) A2 c2 l2 nx _ ?s1 HC2.out A2_.out).mono ?_); (case s1 => exact Kd.C_below HR2.out HB4.out); rintro e w5 ⟨v5, rfl, ho, hb⟩; obtain ⟨An, cn, en⟩ := Kd.R_slice ho; subst en; have HO5a := Aside0.mk (Kd.R_elder' HO4a.out (Kd.R_base ho) hb); have HO5b := Aside0.mk (Kd.R_elder' HO4b.out (Kd.R_base ho) hb); have HO5n := Aside0.mk (Kd.R_lower (Kd.R_new' (Kd.R_new' ho (Kd.R_lt HO4a.out)) (Kd.R_lt HO4b.out)) HB4.out.size); have HL5 := Aside0.mk (And.intro (pw_cell_below hb HL.out.1) (pw_cell_below hb HL.out.2)); have HB5 := Aside0.mk (below_step HB4.out hb); clear ho hb HO4a HO4b))
          obtain ⟨gT, cT, eT, _, _, _⟩ := Kd.R_form HO5a.out (by have := H0.out; omega)
          obtain ⟨rfl, rfl⟩ : Aa = some ⟨gT, 0, none⟩ ∧ ca = cT := by injection eT with e1 e2 e3; exact ⟨e1, e3⟩
          clear eT
          obtain ⟨gN, cN, eN, _, _, _⟩ := Kd.R_form HO5n.out (by have := HN.out; omega)
          obtain ⟨rfl, rfl⟩ : An = some ⟨gN, 0, none⟩ ∧ cn = cN := by injection eN with e1 e2 e3; exact ⟨e1, e3⟩
          clear eN
          have NE : Aside0 (gl ≠ gT) := ⟨by have h1 := LTa.out gT rfl; have h2 := GL.out; omega⟩
          have GT : Aside0 (w.heap.size ≤ gT) := ⟨Kd.R_base HO5a.out gT rfl⟩
          have HT := Aside0.mk (Kd.R_mono (ok' := fun _ => True) HO5a.out (fun _ _ => trivial))
          have HO := Aside0.mk (Kd.R_mono (ok' := fun k_ => k_ ≠ gT) HO5b.out (fun k_ hk e_ => hk.1.2 (by rw [e_]; rfl)))
          have HX := Aside0.mk (Kd.R_mono (ok' := fun k_ => k_ ≠ gT) HO5n.out (fun k_ hk e_ => hk.1.2 (by rw [e_]; rfl)))
          clear HO5a HO5b HO5n HL
          go_loopg [45] k (fun kq v45 wr => ∃ (x : List Int) (xi : Int), v45 = .int .i64 xi ∧ Aside0 (x.length = 15) ∧ Aside0 (impl_writeSteps.steps kq x nx a3 xi = some o) ∧ Aside0 (kq ≤ k) ∧ Aside0 (Kd.R (Kd.int .i64) 3 wr w.heap.size (fun _ => True) (.slice (some ⟨gT, 0, none⟩) l0.length ca) x) ∧ Aside0 (Kd.R (Kd.int .i64) 3 wr w.heap.size (fun k_ => k_ ≠ gT) (.slice Ab l1.length cb) l1) ∧ Aside0 (Kd.R (Kd.int .i64) 3 wr w.heap.size (fun k_ => k_ ≠ gT) (.slice (some ⟨gN, 0, none⟩) nx.length cn) nx) ∧ Aside0 (wr.cell? ⟨gl, 0, none⟩ = some (.slice (some ⟨gT, 0, none⟩) l0.length ca) ∧ wr.cell? ⟨gl, 1, none⟩ = some (.slice Ab l1.length cb)) ∧ Aside0 (Below w.heap.size w wr))
          case atStart => exact ⟨l0, 0, (by first | rfl | (simp; done) | (simp [*]; done)), H0, A4, ⟨Nat.le_refl _⟩, HT, HO, HX, HL5, HB5⟩
          case round =>
            clear A4 HT HO HX HL5 HB5
            try clear p2
            obtain ⟨x, xi, rfl, HXL, HA, HK1, HT, HO, HX, HL, HB⟩ := hrel
            cases gk with
            | zero => exact absurd HA.out (by simp [impl_writeSteps.steps])
            | succ k1 =>
              have H := HA.out
              clear HA
              simp only [impl_writeSteps.steps] at H
              by_cases c4 : xi < a3
              · rw [if_pos c4] at H
                have c4b : decide (xi < a3) = true := decide_eq_true c4
                clear c4
                by_cases c5 : 0 ≤ xi
                · rw [if_pos c5] at H
                  by_cases c6 : xi = 0
                  · rw [if_pos c6] at H
                    subst c6
                    have H' := Aside0.mk H
                    clear H
                    obtain ⟨hx0, hf0⟩ := Kd.R_celln 0 HT.out (0 : Int) (by omega) (by have := H0.out; omega)
                    have hx1 : wr.cell? ⟨gT, 0, none⟩ = some (.int .i64 (rd x 0)) := hx0
                    have hf1 : wr.frozen? ⟨gT, 0, none⟩ = false := hf0
                    clear hx0 hf0
                    have q1 : (0 : Int) < (l0.length : Int) := by have := H0.out; omega
                    have q2 := eq_true q1
                    go_wp2
                    go_roundg k1
                    case measure => have := HK1.out; omega
                    case rel => exact ⟨x.set 0 0, wrap64 (0 + 1), (by first | rfl | (simp; done) | (simp [*]; done) | (simp; unfold wrap64; omega)), ⟨by rw [List.length_set]; exact HXL.out⟩, H', ⟨by have := HK1.out; omega⟩, ⟨(Kd.R_putg HT.out (0 : Int) 0).1⟩, ⟨Kd.R_far (p := ⟨gT, 0, none⟩) HO.out (fun _ hk => hk) _⟩, ⟨Kd.R_far (p := ⟨gT, 0, none⟩) HX.out (fun _ hk => hk) _⟩, ⟨(World.cell?_of_block (Below.heap_setCell wr ⟨gT, 0, none⟩ _ gl NE.out)).trans HL.out.1, (World.cell?_of_block (Below.heap_setCell wr ⟨gT, 0, none⟩ _ gl NE.out)).trans HL.out.2⟩, ⟨below_set HB.out GT.out⟩⟩
                  · rw [if_neg c6] at H
                    have c6b : (xi == 0) = false := beq_eq_false_iff_ne.mpr c6
                    clear c6
                    by_cases c7 : xi < 15
                    · rw [if_pos c7] at H
                      have H' := Aside0.mk H
                      clear H
                      have q1 : xi < (l0.length : Int) := by have := H0.out; omega
                      have q3 : xi < (nx.length : Int) := by have := HN.out; omega
                      obtain ⟨hx1, hf1⟩ := Kd.R_celln 0 HT.out xi c5 q1
                      obtain ⟨hn1, _⟩ := Kd.R_celln 0 HX.out xi c5 q3
                      have c7b : decide (xi < 15) = true := decide_eq_true c7
                      have q2 := eq_true q1
                      have q4 := eq_true q3
                      have q5 := eq_true c5
                      go_wp2
                      go_roundg k1
                      case measure => have := HK1.out; omega
                      case rel => exact ⟨x.set xi.toNat (rd nx xi), wrap64 (xi + 1), (by first | rfl | (simp; done) | (simp [*]; done) | (simp; unfold wrap64; omega)), ⟨by rw [List.length_set]; exact HXL.out⟩, H', ⟨by have := HK1.out; omega⟩, ⟨(Kd.R_putg HT.out xi (rd nx xi)).1⟩, ⟨Kd.R_far (p := ⟨gT, xi.toNat, none⟩) HO.out (fun _ hk => hk) _⟩, ⟨Kd.R_far (p := ⟨gT, xi.toNat, none⟩) HX.out (fun _ hk => hk) _⟩, ⟨(World.cell?_of_block (Below.heap_setCell wr ⟨gT, xi.toNat, none⟩ _ gl NE.out)).trans HL.out.1, (World.cell?_of_block (Below.heap_setCell wr ⟨gT, xi.toNat, none⟩ _ gl NE.out)).trans HL.out.2⟩, ⟨below_set HB.out GT.out⟩⟩
                    · rw [if_neg c7] at H
                      have H' := Aside0.mk H
                      clear H
                      have c7b : decide (xi < 15) = false := decide_eq_false c7
                      clear c7
                      have q1 : (0 : Int) < (l0.length : Int) := by have := H0.out; omega
                      have q3 : (0 : Int) < (nx.length : Int) := by have := HN.out; omega
                      obtain ⟨hx0, hf0⟩ := Kd.R_celln 0 HT.out (0 : Int) (by omega) q1
                      obtain ⟨hn0, _⟩ := Kd.R_celln 0 HX.out (0 : Int) (by omega) q3
                      have hx1 : wr.cell? ⟨gT, 0, none⟩ = some (.int .i64 (rd x 0)) := hx0
                      have hf1 : wr.frozen? ⟨gT, 0, none⟩ = false := hf0
                      have hn1 : wr.cell? ⟨gN, 0, none⟩ = some (.int .i64 (rd nx 0)) := hn0
                      clear hx0 hf0 hn0
                      have q2 := eq_true q1
                      have q4 := eq_true q3
                      go_wp2
                      go_roundg k1
                      case measure => have := HK1.out; omega
                      case rel => exact ⟨x.set 0 (rd nx 0), wrap64 (xi + 1), (by first | rfl | (simp; done) | (simp [*]; done) | (simp; unfold wrap64; omega)), ⟨by rw [List.length_set]; exact HXL.out⟩, H', ⟨by have := HK1.out; omega⟩, ⟨(Kd.R_putg HT.out (0 : Int) (rd nx 0)).1⟩, ⟨Kd.R_far (p := ⟨gT, 0, none⟩) HO.out (fun _ hk => hk) _⟩, ⟨Kd.R_far (p := ⟨gT, 0, none⟩) HX.out (fun _ hk => hk) _⟩, ⟨(World.cell?_of_block (Below.heap_setCell wr ⟨gT, 0, none⟩ _ gl NE.out)).trans HL.out.1, (World.cell?_of_block (Below.heap_setCell wr ⟨gT, 0, none⟩ _ gl NE.out)).trans HL.out.2⟩, ⟨below_set HB.out GT.out⟩⟩
                · rw [if_neg c5] at H
                  exact absurd H (by simp)
              · rw [if_neg c4] at H
                have c4b : decide (xi < a3) = false := decide_eq_false c4
                clear c4
                obtain rfl := Option.some.inj H
                clear H
                obtain ⟨hl0, hl1⟩ := HL.out
                go_wp2
                go_quiet (fail)
                go_wp2
                go_ret3
                exact ⟨_, _, rfl, Kd.R_drewN (Kd.R_mono (ok' := fun k_ => some k_ ≠ (.slice Ab l1.length cb : Value).ownBlock) (Kd.R_tight rfl HT.out) (fun k_ hk e_ => HO.out.1 k_ (Eq.symm e_) (Option.some.inj hk))) _, Kd.R_drewN (Kd.R_mono (ok' := fun k_ => some k_ ≠ (.slice (some ⟨gT, 0, none⟩) l0.length ca : Value).ownBlock) HO.out (fun k_ hk e_ => hk (Option.some.inj e_))) _, by repeat (first | (with_reducible first | exact HB.out | apply below_alloc | apply pw_below_drewN | apply below_drew1) | exact HB.out)⟩
      · rw [if_neg h1] at H
        exact absurd H (by simp)
    · rw [if_neg h0] at H
      exact absurd H (by simp)


end Go.Proofs.Ytockbgeloiekdaa.QFnExactWriteAll
