/- Written by a program of this session (the kit's printer, with leaf contracts proved by hand put in): what each Go function computes, and that the call computes it. No condition but those that each theorem names. -/
import Derived.Test.YtlbbkepkincleaaQFnAreasx0
namespace Go.Proofs.Ytlbbkepkincleaa.QFnAreas
open Go.RowKit Go.Proofs.YtlbbkepkincleaaW.PrintWords Go.Proofs.YtlbbkepkincleaaW.PrintLast Go.Proofs.YtlbbkepkincleaaW.PrintMore
attribute [local go_sem] max2_int min2_int max_two min_two max_three min_three max_four min_four   -- for this text's walks alone
set_option linter.unusedVariables false
set_option linter.unusedSimpArgs false

/-! ### impl_IsState: function 36 -/
def impl_IsState.l0 : Nat → List Int → List Int → Int → Int → Option (Bool)
  | 0, _, _, _, _ => none
  | k + 1, x0, x5, x6, x7 => if x7 < x6 then (if 0 ≤ x7 then (if x7 < (x5.length : Int) then (if (rd x5 x7) < 0 then (some false) else (if (rd x5 x7) > 999 then (some false) else (impl_IsState.l0 k x0 x5 x6 (wrap64 (x7 + 1))))) else (none)) else (none)) else (some (decide ((x0.length : Int) ≤ 12)))
def impl_IsState.f (k : Nat) (l0 : List Int) : Option (Bool) := impl_IsState.l0 k l0 l0 (l0.length : Int) 0
theorem impl_IsState.mono_l : ∀ k, (∀ y0 y1 y2 y3, LeO (impl_IsState.l0 k y0 y1 y2 y3) (impl_IsState.l0 (k + 1) y0 y1 y2 y3))
  | 0 => fun _ _ _ _ r h => by simp [impl_IsState.l0] at h
  | k + 1 => by
    have ih0 := impl_IsState.mono_l k
    · intro y0 y1 y2 y3
      unfold impl_IsState.l0
      repeat' first
     |(with_reducible exact ih0 _ _ _ _)
     |(with_reducible exact LeO.refl _)
     |(with_reducible exact LeO.none _)
     |(with_reducible refine LeO.ite ?_ ?_)
     |(with_reducible refine LeO.bind ?_ (fun _ => ?_))
     |exact ih0 _ _ _ _
     |exact LeO.none _
      | refine LeO.ite ?_ ?_
      | refine LeO.bind ?_ (fun _ => ?_)
theorem impl_IsState.mono : ∀ a0 k, LeO (impl_IsState.f k a0) (impl_IsState.f (k + 1) a0) := by
  intro a0 k
  have ih0 := impl_IsState.mono_l k
  unfold impl_IsState.f
  repeat' first
     |(with_reducible exact ih0 _ _ _ _)
     |(with_reducible exact LeO.refl _)
     |(with_reducible exact LeO.none _)
     |(with_reducible refine LeO.ite ?_ ?_)
     |(with_reducible refine LeO.bind ?_ (fun _ => ?_))
     |exact ih0 _ _ _ _
     |exact LeO.none _
      | refine LeO.ite ?_ ?_
      | refine LeO.bind ?_ (fun _ => ?_)
set_option maxHeartbeats 8000000 in
set_option maxRecDepth 100000 in
theorem impl_IsState.calls (k : Nat) (A0 : Option Addr) (c0 : Nat) (l0 : List Int) (r : Bool) (w : World) (hr0 : Kd.C (Kd.int .i64) w A0 l0.length l0) (hc0 : l0.length ≤ c0) (h : impl_IsState.f k l0 = some r) :
    Calls Try.prog 36 #[.slice A0 l0.length c0] w fun e w' => e = .returned (.bool r) ∧ Drawn0 w w' := by
  have HR0 := Aside0.mk hr0
  have HC0 := Aside0.mk hc0
  clear hr0 hc0
  have H : (impl_IsState.l0 k l0 l0 (l0.length : Int) 0) = some r := h
  clear h
  have H' := Aside0.mk H
  clear H
  go_enter Try.func36, Try.ntmps36
  go_wp2
  go_loopg [7] k (fun kq v7 w' => ∃ (x7_1 : Int), v7 = .int .i64 x7_1 ∧ Aside0 (impl_IsState.l0 kq l0 l0 (l0.length : Int) x7_1 = some r) ∧ Aside0 (kq ≤ k) ∧ Drawn0 w w')
  case atStart => exact ⟨(0), (by first | rfl|(simp;done)|(simp [*];done)), H', ⟨Nat.le_refl _⟩, by repeat (first|exact Drawn0.refl _|apply Drawn0.step)⟩
  case round =>
    clear H'
    obtain ⟨x7_1, rfl, HA, HK1, ⟨m1, rfl⟩⟩ := hrel
    cases gk with
    | zero => exact absurd HA.out (by simp [impl_IsState.l0])
    | succ k1 =>
      have H := HA.out
      clear HA
      simp only [impl_IsState.l0] at H
      by_cases c2 : x7_1 < (l0.length : Int)
      · rw [if_pos c2] at H
        have c2b0 : decide (x7_1 < (l0.length : Int)) = true := decide_eq_true c2
        clear c2
        by_cases c3 : 0 ≤ x7_1
        · rw [if_pos c3] at H
          have c3b0 : decide (0 ≤ x7_1) = true := decide_eq_true c3
          clear c3
          by_cases c4 : x7_1 < (l0.length : Int)
          · rw [if_pos c4] at H
            have c4b0 : decide (x7_1 < (l0.length : Int)) = true := decide_eq_true c4
            clear c4
            by_cases c5 : (rd l0 x7_1) < 0
            · rw [if_pos c5] at H
              have c5b0 : decide ((rd l0 x7_1) < 0) = true := decide_eq_true c5
              clear c5
              obtain rfl := Option.some.inj H
              have p169 : 0 ≤ (x7_1 : Int) := of_decide_eq_true (by first|(with_reducible assumption) | assumption)
              have q169 : x7_1 < (l0.length : Int) := of_decide_eq_true (by first|(with_reducible assumption) | assumption)
              obtain ⟨ad169, e169, hx169_0⟩ := Kd.at_int HR0.out x7_1 p169 q169
              cases e169
              replace p169 := eq_true p169
              replace q169 := eq_true q169
              go_wp2
              go_ret
              exact ⟨by first | rfl|(simp;done)|(simp [*];done), by repeat (first|exact Drawn0.refl _|apply Drawn0.step)⟩
            · rw [if_neg c5] at H
              have c5b0 : decide ((rd l0 x7_1) < 0) = false := decide_eq_false c5
              clear c5
              by_cases c6 : (rd l0 x7_1) > 999
              · rw [if_pos c6] at H
                have c6b0 : decide (999 < (rd l0 x7_1)) = true := decide_eq_true c6
                clear c6
                obtain rfl := Option.some.inj H
                have p169 : 0 ≤ (x7_1 : Int) := of_decide_eq_true (by first|(with_reducible assumption) | assumption)
                have q169 : x7_1 < (l0.length : Int) := of_decide_eq_true (by first|(with_reducible assumption) | assumption)
                obtain ⟨ad169, e169, hx169_0⟩ := Kd.at_int HR0.out x7_1 p169 q169
                cases e169
                replace p169 := eq_true p169
                replace q169 := eq_true q169
                go_wp2
                go_ret
                exact ⟨by first | rfl|(simp;done)|(simp [*];done), by repeat (first|exact Drawn0.refl _|apply Drawn0.step)⟩
              · rw [if_neg c6] at H
                have c6b0 : decide (999 < (rd l0 x7_1)) = false := decide_eq_false c6
                clear c6
                have H' := Aside0.mk H
                clear H
                have p169 : 0 ≤ (x7_1 : Int) := of_decide_eq_true (by first|(with_reducible assumption) | assumption)
                have q169 : x7_1 < (l0.length : Int) := of_decide_eq_true (by first|(with_reducible assumption) | assumption)
                obtain ⟨ad169, e169, hx169_0⟩ := Kd.at_int HR0.out x7_1 p169 q169
                cases e169
                replace p169 := eq_true p169
                replace q169 := eq_true q169
                go_wp2
                go_roundg k1
                case measure => have := HK1.out; omega
                case rel => exact ⟨(wrap64 (x7_1 + 1)), (by first | rfl|(simp;done)|(simp [*];done)), H', ⟨by have := HK1.out; omega⟩, by repeat (first|exact Drawn0.refl _|apply Drawn0.step)⟩
          · rw [if_neg c4] at H
            exact absurd H (by simp)
        · rw [if_neg c3] at H
          exact absurd H (by simp)
      · rw [if_neg c2] at H
        have c2b0 : decide (x7_1 < (l0.length : Int)) = false := decide_eq_false c2
        clear c2
        obtain rfl := Option.some.inj H
        go_wp2
        go_ret
        exact ⟨by first | rfl|(simp;done)|(simp [*];done), by repeat (first|exact Drawn0.refl _|apply Drawn0.step)⟩

/-! ### impl_areaOf: function 85 (by hand: the area of a state) -/
def impl_areaOf.sum : Int → List Int → Int → Int
  | _, [], s => s
  | i, x :: l, s => impl_areaOf.sum (i + 1) l (wrap64 (s + wrap64 ((i + 3) * x)))
def impl_areaOf.body (a0 : Int) (l1 : List Int) : List Int := a0 :: (l1.length : Int) :: (l1 ++ List.replicate (12 - l1.length) 0)
def impl_areaOf.f (a0 : Int) (l1 : List Int) : Option (List Int) := if l1.length ≤ 12 then some (impl_areaOf.body a0 l1 ++ [Int.tmod (impl_areaOf.sum 0 (impl_areaOf.body a0 l1) 0) 9973]) else none
theorem impl_areaOf.snoc (l : List Int) : ∀ (i s x : Int), impl_areaOf.sum i (l ++ [x]) s = wrap64 (impl_areaOf.sum i l s + wrap64 ((i + l.length + 3) * x)) := by
  induction l with
  | nil => intro i s x; simp [impl_areaOf.sum]
  | cons y l ih =>
    intro i s x
    simp only [List.cons_append, impl_areaOf.sum, ih, List.length_cons]
    have e : i + 1 + (l.length : Int) + 3 = i + ((l.length + 1 : Nat) : Int) + 3 := by simp; omega
    rw [e]
theorem impl_areaOf.step (zs : List Int) (k : Nat) (hk : k < zs.length) : impl_areaOf.sum 0 (zs.take (k + 1)) 0 = wrap64 (impl_areaOf.sum 0 (zs.take k) 0 + wrap64 (((k : Int) + 3) * zs.getD k 0)) := by
  have e : zs.take (k + 1) = zs.take k ++ [zs.getD k 0] := by
    rw [List.take_succ_eq_append_getElem hk, List.getD_eq_getElem?_getD, List.getElem?_eq_getElem hk]; rfl
  rw [e, impl_areaOf.snoc, List.length_take, Nat.min_eq_left (by omega), Int.zero_add]
theorem impl_areaOf.setCells_new (w : World) (t : TypeId) : ∀ (vs Z pre post : List Value), vs.length = Z.length → (w.alloc (.cells (pre ++ (Z ++ post)).toArray t)).setCells w.heap.size pre.length vs = w.alloc (.cells (pre ++ (vs ++ post)).toArray t)
  | [], [], _, _, _ => rfl
  | [], _ :: _, _, _, h => by simp at h
  | _ :: _, [], _, _, h => by simp at h
  | v :: vs, z :: Z, pre, post, h => by
    have ih := impl_areaOf.setCells_new w t vs Z (pre ++ [v]) post (by simpa using h)
    simp only [World.setCells]
    rw [World.setCell_alloc_new]
    have e : ((pre ++ (z :: Z ++ post)).toArray.setIfInBounds pre.length v) = ((pre ++ [v]) ++ (Z ++ post)).toArray := by
      simp [List.setIfInBounds_toArray]
    rw [e]
    have e2 : (pre ++ [v]).length = pre.length + 1 := by simp
    rw [e2] at ih
    rw [ih]
    simp
theorem impl_areaOf.own (w : World) (l : List Int) (hl : l.length = 15) : Kd.R (Kd.int .i64) 3 (w.alloc (.cells (l.map (Value.int .i64)).toArray 3)) w.heap.size (fun _ => True) (.slice (some ⟨w.heap.size, 0, none⟩) 15 15) l := by
  refine Kd.R_of_own (enc := Value.int .i64) (h1 := fun _ => rfl) ?_ (fun _ _ => trivial)
  refine ⟨by simp [encs], .inr ⟨w.heap.size, 15, (l.map (Value.int .i64)).toArray, ?_, Nat.le_refl _, heap_alloc_new w _, ?_, ?_, ?_, ?_⟩⟩
  all_goals first|(rw [hl];done)|(simp [hl, maxLen];done)|(simp [hl, encs, List.take_of_length_le];done) | skip
set_option maxHeartbeats 8000000 in
set_option maxRecDepth 100000 in
theorem impl_areaOf.calls (a0 : Int) (A1 : Option Addr) (c1 : Nat) (l1 : List Int) (r : List Int) (w : World) (hr1 : Kd.C (Kd.int .i64) w A1 l1.length l1) (hc1 : l1.length ≤ c1) (h : impl_areaOf.f a0 l1 = some r) :
    Calls Try.prog 85 #[.int .i64 a0, .slice A1 l1.length c1] w fun e w' => ∃ v0_ : Value, e = .returned (v0_) ∧ Kd.R (Kd.int .i64) 3 w' w.heap.size (fun _ => True) v0_ r ∧ Below w.heap.size w w' := by
  unfold impl_areaOf.f at h
  by_cases hlen : l1.length ≤ 12
  · rw [if_pos hlen] at h
    obtain rfl := Option.some.inj h
    clear h
    have hmk : ∀ W : World, (Instr.makeSlice 37 (.int .i64 15) (.int .i64 15)).run Try.prog W = .ok (.slice (some ⟨W.heap.size, 0, none⟩) 15 15) (W.alloc (.cells #[.int .i64 0, .int .i64 0, .int .i64 0, .int .i64 0, .int .i64 0, .int .i64 0, .int .i64 0, .int .i64 0, .int .i64 0, .int .i64 0, .int .i64 0, .int .i64 0, .int .i64 0, .int .i64 0, .int .i64 0] 3)) := fun _ => by kernel_rfl
    have hcp : (Builtin.copy_ #[37, 37] 3 #[.slice (some ⟨w.heap.size, 2, none⟩) 13 13, .slice A1 l1.length c1]).run Try.prog (w.alloc (.cells #[.int .i64 a0, .int .i64 (l1.length : Int), .int .i64 0, .int .i64 0, .int .i64 0, .int .i64 0, .int .i64 0, .int .i64 0, .int .i64 0, .int .i64 0, .int .i64 0, .int .i64 0, .int .i64 0, .int .i64 0, .int .i64 0] 3)) =
        .ok (goInt l1.length) (w.alloc (.cells (((impl_areaOf.body a0 l1) ++ [0]).map (Value.int .i64)).toArray 3)) := by
      rcases Nat.eq_zero_or_pos l1.length with h0 | h0
      · obtain rfl : l1 = [] := List.eq_nil_of_length_eq_zero h0
        exact run_copy_none _ _ _ _ _ _ _ _ _ _ _ Try.underlying37 (by kernel_rfl) rfl
      · obtain ⟨ad, e0, hcell⟩ := hr1.2.2 h0
        subst e0
        have hx := run_copy_cells (P := Try.prog) (w.alloc (.cells #[.int .i64 a0, .int .i64 (l1.length : Int), .int .i64 0, .int .i64 0, .int .i64 0, .int .i64 0, .int .i64 0, .int .i64 0, .int .i64 0, .int .i64 0, .int .i64 0, .int .i64 0, .int .i64 0, .int .i64 0, .int .i64 0] 3)) 37 37 3 3 w.heap.size 2 13 13 ad l1.length c1 (l1.map (Value.int .i64)) Try.underlying37 (by kernel_rfl) (by rw [List.length_map]; exact (Nat.min_eq_left (by omega)).symm) ?h1 ?h2 ?h3 ?h4
        case h1 =>
          intro j v hj
          rw [List.getElem?_map, Option.map_eq_some_iff] at hj
          obtain ⟨x, hx1, rfl⟩ := hj
          obtain ⟨c, hc1, hc2, hc3⟩ := hcell j x hx1
          have hc4 : c = [.int .i64 x] := hc2
          have h5 := hc3 0 (.int .i64 x) (by rw [hc4]; rfl)
          have h6 : (Kd.int .i64).sz = 1 := rfl
          rw [h6, Nat.mul_one, Nat.add_zero] at h5
          exact pw_cell_below (below_alloc (Below.refl _ _) _) h5
        case h2 =>
          intro j hj
          rw [List.length_map] at hj
          rw [blk_cell (blk_new w _), Array.getElem?_eq_getElem (by simp; omega)]
          rfl
        case h3 =>
          intro j _
          exact blk_frozen (blk_new w _) _
        case h4 =>
          intro v hv
          obtain ⟨x, _, rfl⟩ := List.mem_map.1 hv
          rfl
        rw [hx]
        have hy := impl_areaOf.setCells_new w 3 (l1.map (Value.int .i64)) ((List.replicate l1.length (0 : Int)).map (Value.int .i64)) [.int .i64 a0, .int .i64 (l1.length : Int)] ((List.replicate (13 - l1.length) (0 : Int)).map (Value.int .i64)) (by simp)
        rw [← List.map_append, List.replicate_append_replicate, show l1.length + (13 - l1.length) = 13 by omega] at hy
        have e2 : [Value.int .i64 a0, .int .i64 (l1.length : Int)] ++ (l1.map (Value.int .i64) ++ (List.replicate (13 - l1.length) (0 : Int)).map (Value.int .i64)) = ((impl_areaOf.body a0 l1) ++ [0]).map (Value.int .i64) := by
          rw [show 13 - l1.length = (12 - l1.length) + 1 by omega, List.replicate_succ']
          simp [impl_areaOf.body]
        rw [e2] at hy
        have e3 : (l1.map (Value.int .i64)).length = l1.length := by simp
        rw [e3]
        exact congrArg (Result.ok (goInt l1.length)) hy
    have hbl : (impl_areaOf.body a0 l1).length = 14 := by simp [impl_areaOf.body]; omega
    have hnn : (l1.length : Int) ≤ 12 := by omega
    have hn0 : (0 : Int) ≤ (l1.length : Int) := by omega
    clear hr1 hc1
    have hstep := Aside0.mk (impl_areaOf.step (impl_areaOf.body a0 l1))
    obtain ⟨ARR, hA⟩ : ∃ ARR : Array Value, ARR = (((impl_areaOf.body a0 l1) ++ [0]).map (Value.int .i64)).toArray := ⟨_, rfl⟩
    rw [← hA] at hcp
    generalize impl_areaOf.body a0 l1 = zs at hA hbl hstep ⊢
    generalize l1.length = n at *
    have hce : ∀ j : Nat, j < 14 → (w.alloc (.cells ARR 3)).cell? ⟨w.heap.size, j, none⟩ = some (.int .i64 (zs.getD j 0)) := by
      intro j hj
      rw [blk_cell (blk_new w _), hA]
      have e : ((zs ++ [0]).map (Value.int .i64))[j]? = some (.int .i64 (zs.getD j 0)) := by
        rw [List.getElem?_map, List.getElem?_append_left (by omega), List.getD_eq_getElem?_getD, List.getElem?_eq_getElem (show j < zs.length by omega)]
        rfl
      simpa using e
    have hlast : (w.alloc (.cells ARR 3)).cell? ⟨w.heap.size, 14, none⟩ = some (.int .i64 0) := by
      rw [blk_cell (blk_new w _), hA]
      simp [List.getElem?_append_right (show zs.length ≤ 14 by omega), hbl]
    have hset : ∀ v : Int, ARR.setIfInBounds 14 (.int .i64 v) = ((zs ++ [v]).map (Value.int .i64)).toArray := by
      intro v
      rw [hA]
      simp [List.setIfInBounds_toArray, List.set_append_right, hbl]
    have HA := Aside0.mk hset
    have HL := Aside0.mk hbl
    clear hA hset hlen hbl
    have HZ : ∀ v : Int, (zs ++ [v]).length = 15 := by intro v; simp [HL.out]
    have HZ := Aside0.mk HZ
    go_enter Try.func85, Try.ntmps85
    go_wp2
    go_loop [6, 24] (fun s i => ∃ k : Nat, k ≤ 14 ∧ i = .int .i64 k ∧ s = .int .i64 (impl_areaOf.sum 0 (zs.take k) 0)) (fun _ i => 14 - (intOf i).toNat)
    case atStart => exact ⟨0, Nat.zero_le _, rfl, rfl⟩
    case round =>
      obtain ⟨k, hk, rfl, rfl⟩ := hrel
      by_cases hlt : k < 14
      · have hx := hce k hlt
        have hst := Aside0.mk (hstep.out k (by have := HL.out; omega))
        clear hce hcp hmk hlast
        generalize zs.getD k 0 = x at hx hst
        generalize impl_areaOf.sum 0 (zs.take k) 0 = s at hst ⊢
        go_wp2
        go_round
        case rel => exact ⟨k + 1, by omega, by go_num, by rw [hst.out]⟩
        case measure => simp [intOf]; omega
      · obtain rfl : k = 14 := by omega
        clear hce hcp hmk
        go_wp2
        go_ret
        have hzt : zs.take 14 = zs := List.take_of_length_le (Nat.le_of_eq HL.out)
        rw [hzt]
        refine ⟨_, rfl, ?_, below_alloc (Below.refl _ _) _⟩
        have h9 := impl_areaOf.own w (zs ++ [Int.tmod (impl_areaOf.sum 0 zs 0) 9973]) (HZ.out _)
        rw [← HA.out] at h9
        exact h9
  · rw [if_neg hlen] at h
    exact absurd h (by simp)


/-! ### impl_AreaOf: function 23 -/
def impl_AreaOf.f (k : Nat) (a0 : Int) (l1 : List Int) : Option (List Int × Bool) := if a0 < 1 then (some (([] : List Int), false)) else (if a0 > 999 then (some (([] : List Int), false)) else ((impl_IsState.f k l1).bind fun t170 => (if t170 = true then ((impl_areaOf.f a0 l1).bind fun t171 => (some (t171, true))) else (some (([] : List Int), false)))))
theorem impl_AreaOf.mono : ∀ a0 a1 k, LeO (impl_AreaOf.f k a0 a1) (impl_AreaOf.f (k + 1) a0 a1) := by
  intro a0 a1 k
  unfold impl_AreaOf.f
  repeat' first
     |(with_reducible exact impl_IsState.mono _ _)
     |(with_reducible exact LeO.refl _)
     |(with_reducible exact LeO.none _)
     |(with_reducible refine LeO.ite ?_ ?_)
     |(with_reducible refine LeO.bind ?_ (fun _ => ?_))
     |exact impl_IsState.mono _ _
     |exact LeO.none _
      | refine LeO.ite ?_ ?_
      | refine LeO.bind ?_ (fun _ => ?_)
set_option maxHeartbeats 8000000 in
set_option maxRecDepth 100000 in
theorem impl_AreaOf.calls (k : Nat) (a0 : Int) (A1 : Option Addr) (c1 : Nat) (l1 : List Int) (r1 : List Int) (r2 : Bool) (w : World) (hr1 : Kd.C (Kd.int .i64) w A1 l1.length l1) (hc1 : l1.length ≤ c1) (h : impl_AreaOf.f k a0 l1 = some (r1, r2)) :
    Calls Try.prog 23 #[.int .i64 a0, .slice A1 l1.length c1] w fun e w' => ∃ v0_ : Value, e = .returned (.tuple #[v0_, .bool r2]) ∧ Kd.R (Kd.int .i64) 3 w' w.heap.size (fun _ => True) v0_ r1 ∧ Below w.heap.size w w' := by
  have HR1 := Aside0.mk hr1
  have HC1 := Aside0.mk hc1
  clear hr1 hc1
  have HB := Aside0.mk (Below.refl w.heap.size w)
  have H : (if a0 < 1 then (some (([] : List Int), false)) else (if a0 > 999 then (some (([] : List Int), false)) else ((impl_IsState.f k l1).bind fun t170 => (if t170 = true then ((impl_areaOf.f a0 l1).bind fun t171 => (some (t171, true))) else (some (([] : List Int), false)))))) = some (r1, r2) := h
  clear h
  by_cases c3 : a0 < 1
  · rw [if_pos c3] at H
    have c3b0 : decide (a0 < 1) = true := decide_eq_true c3
    clear c3
    simp only [Option.some.injEq, Prod.mk.injEq] at H
    obtain ⟨rfl, rfl⟩ := H
    go_enter Try.func23, Try.ntmps23
    go_wp2
    go_ret2
    exact ⟨_, by first | rfl|(simp [errW_none, errW_some] <;> rfl)|(simp [*, errW_none, errW_some] <;> rfl), by first|exact Kd.R_nil _ _ _ _ _|exact Kd.N_nil _ _ _ _ _|exact Kd.V_nil _ _ _ _ _|exact Kd.Q_nil _ _ _ _ _|exact Kd.S_nil _ _ _ _ _, by repeat (first|(with_reducible first|exact HB.out|apply below_alloc|apply pw_below_drewN|apply below_drew1)|exact HB.out)⟩
  · rw [if_neg c3] at H
    have c3b0 : decide (a0 < 1) = false := decide_eq_false c3
    clear c3
    by_cases c4 : a0 > 999
    · rw [if_pos c4] at H
      have c4b0 : decide (999 < a0) = true := decide_eq_true c4
      clear c4
      simp only [Option.some.injEq, Prod.mk.injEq] at H
      obtain ⟨rfl, rfl⟩ := H
      go_enter Try.func23, Try.ntmps23
      go_wp2
      go_ret2
      exact ⟨_, by first | rfl|(simp [errW_none, errW_some] <;> rfl)|(simp [*, errW_none, errW_some] <;> rfl), by first|exact Kd.R_nil _ _ _ _ _|exact Kd.N_nil _ _ _ _ _|exact Kd.V_nil _ _ _ _ _|exact Kd.Q_nil _ _ _ _ _|exact Kd.S_nil _ _ _ _ _, by repeat (first|(with_reducible first|exact HB.out|apply below_alloc|apply pw_below_drewN|apply below_drew1)|exact HB.out)⟩
    · rw [if_neg c4] at H
      have c4b0 : decide (999 < a0) = false := decide_eq_false c4
      clear c4
      replace H := Option.bind_eq_some_iff.mp H
      obtain ⟨t170, A50, H⟩ := H
      try dsimp only at H
      have A5 := Aside0.mk A50
      clear A50
      by_cases c6 : t170 = true
      · subst c6
        have H1 : ((impl_areaOf.f a0 l1).bind fun t171 => (some (t171, true))) = some (r1, r2) := by rw [if_pos rfl] at H; exact H
        clear H
        have H := H1
        clear H1
        replace H := Option.bind_eq_some_iff.mp H
        obtain ⟨t171, A70, H⟩ := H
        try dsimp only at H
        have A7 := Aside0.mk A70
        clear A70
        simp only [Option.some.injEq, Prod.mk.injEq] at H
        obtain ⟨rfl, rfl⟩ := H
        go_enter Try.func23, Try.ntmps23
        go_wp2_with (first|(go_at_call 36; (with_reducible refine (impl_IsState.calls k _ _ l1 true _ ?side1 ?side2 A5.out).mono ?_);(case side1 => repeat (first|exact HR1.out|(with_reducible refine Kd.C_alloc ?_ _)|(with_reducible refine Kd.C_drewN ?_ _)|(with_reducible refine Kd.C_drew ?_)));(case side2 => exact HC1.out); rintro e w' ⟨rfl, ⟨nd, rfl⟩⟩)|((with_reducible refine gate_callee (f := 85) rfl ?_); refine goesL_ (some 19) rfl rfl Try.func85 (by kernel_rfl) rfl #[.int .i64 a0, .slice A1 l1.length c1] rfl (by (try simp only [List.map_toArray, List.map_cons, List.map_nil]); first | done | rfl|(simp only [List.length_drop, List.length_take]; rfl)) ?_; (with_reducible refine (impl_areaOf.calls a0 _ _ l1 t171 _ ?side1 ?side2 A7.out).mono ?_);(case side1 => repeat (first|exact HR1.out|(with_reducible refine Kd.C_alloc ?_ _)|(with_reducible refine Kd.C_drewN ?_ _)|(with_reducible refine Kd.C_drew ?_)));(case side2 => exact HC1.out); rintro e w8 ⟨v172, rfl, ho0, hb⟩; refine ⟨_, rfl, ?_⟩; have n0_ := Aside0.mk (Kd.R_lower ho0 (below_size (by repeat (first|(with_reducible first|exact HB.out|apply below_alloc|apply pw_below_drewN|apply below_drew1)|exact HB.out)))); have n1_ := Aside0.mk (below_step (by repeat (first|(with_reducible first|exact HB.out|apply below_alloc|apply pw_below_drewN|apply below_drew1)|exact HB.out)) hb); clear HB; have HO173 := n0_; have HB := n1_; clear n0_ n1_; (try clear hb); (try clear hb2); (try clear hk); (try clear hi); (try clear ho0)))
        go_ret2
        exact ⟨_, by first | rfl|(simp [errW_none, errW_some] <;> rfl)|(simp [*, errW_none, errW_some] <;> rfl), by (with_reducible repeat (first|apply Kd.R_alloc|apply Kd.R_drewN|apply Kd.R_drew)); exact HO173.out, by repeat (first|(with_reducible first|exact HB.out|apply below_alloc|apply pw_below_drewN|apply below_drew1)|exact HB.out)⟩
      · replace c6 := Bool.eq_false_iff.mpr c6
        subst c6
        have H1 : (some (([] : List Int), false)) = some (r1, r2) := by rw [if_neg (show ¬ (false = true) by decide)] at H; exact H
        clear H
        have H := H1
        clear H1
        simp only [Option.some.injEq, Prod.mk.injEq] at H
        obtain ⟨rfl, rfl⟩ := H
        go_enter Try.func23, Try.ntmps23
        go_wp2_with (first|(go_at_call 36; (with_reducible refine (impl_IsState.calls k _ _ l1 false _ ?side1 ?side2 A5.out).mono ?_);(case side1 => repeat (first|exact HR1.out|(with_reducible refine Kd.C_alloc ?_ _)|(with_reducible refine Kd.C_drewN ?_ _)|(with_reducible refine Kd.C_drew ?_)));(case side2 => exact HC1.out); rintro e w' ⟨rfl, ⟨nd, rfl⟩⟩))
        go_ret2
        exact ⟨_, by first | rfl|(simp [errW_none, errW_some] <;> rfl)|(simp [*, errW_none, errW_some] <;> rfl), by first|exact Kd.R_nil _ _ _ _ _|exact Kd.N_nil _ _ _ _ _|exact Kd.V_nil _ _ _ _ _|exact Kd.Q_nil _ _ _ _ _|exact Kd.S_nil _ _ _ _ _, by repeat (first|(with_reducible first|exact HB.out|apply below_alloc|apply pw_below_drewN|apply below_drew1)|exact HB.out)⟩

/-! ### spec_l1In: function 97 -/
def spec_l1In.f (a0 : Int) (a1 : Int) (a2 : Int) : Option (Bool) := if a0 ≥ a1 then (some (decide (a0 ≤ a2))) else (some false)
set_option maxHeartbeats 8000000 in
set_option maxRecDepth 100000 in
theorem spec_l1In.calls (a0 : Int) (a1 : Int) (a2 : Int) (r : Bool) (w : World) (h : spec_l1In.f a0 a1 a2 = some r) :
    Calls Try.prog 97 #[.int .i64 a0, .int .i64 a1, .int .i64 a2] w fun e w' => e = .returned (.bool r) ∧ Drawn0 w w' := by
  have H : (if a0 ≥ a1 then (some (decide (a0 ≤ a2))) else (some false)) = some r := h
  clear h
  by_cases c4 : a0 ≥ a1
  · rw [if_pos c4] at H
    have c4b0 : decide (a1 ≤ a0) = true := decide_eq_true c4
    clear c4
    obtain rfl := Option.some.inj H
    go_enter Try.func97, Try.ntmps97
    go_wp2
    go_ret
    exact ⟨by first | rfl|(simp;done)|(simp [*];done), by repeat (first|exact Drawn0.refl _|apply Drawn0.step)⟩
  · rw [if_neg c4] at H
    have c4b0 : decide (a1 ≤ a0) = false := decide_eq_false c4
    clear c4
    obtain rfl := Option.some.inj H
    go_enter Try.func97, Try.ntmps97
    go_wp2
    go_ret
    exact ⟨by first | rfl|(simp;done)|(simp [*];done), by repeat (first|exact Drawn0.refl _|apply Drawn0.step)⟩

/-! ### spec_jrGeneration: function 86 -/
def spec_jrGeneration.f (a0 : Int) : Option (Bool) := (spec_l1In.f a0 1 999).bind fun t174 => (some t174)
set_option maxHeartbeats 8000000 in
set_option maxRecDepth 100000 in
theorem spec_jrGeneration.calls (a0 : Int) (r : Bool) (w : World) (h : spec_jrGeneration.f a0 = some r) :
    Calls Try.prog 86 #[.int .i64 a0] w fun e w' => e = .returned (.bool r) ∧ Drawn0 w w' := by
  have H : ((spec_l1In.f a0 1 999).bind fun t174 => (some t174)) = some r := h
  clear h
  replace H := Option.bind_eq_some_iff.mp H
  obtain ⟨t174, A20, H⟩ := H
  try dsimp only at H
  have A2 := Aside0.mk A20
  clear A20
  obtain rfl := Option.some.inj H
  go_enter Try.func86, Try.ntmps86
  go_wp2_with (first|((with_reducible refine gate_callee (f := 97) rfl ?_); refine goesL_ (some 4) rfl rfl Try.func97 (by kernel_rfl) rfl #[.int .i64 a0, .int .i64 1, .int .i64 999] rfl (by (try simp only [List.map_toArray, List.map_cons, List.map_nil]); first | done | rfl|(simp only [List.length_drop, List.length_take]; rfl)) ?_; (with_reducible refine (spec_l1In.calls a0 1 999 t174 _ A2.out).mono ?_); rintro e w' ⟨rfl, ⟨nd, rfl⟩⟩; refine ⟨_, rfl, ?_⟩))
  go_ret
  exact ⟨by first | rfl|(simp;done)|(simp [*];done), by repeat (first|exact Drawn0.refl _|apply Drawn0.step)⟩

/-! ### spec_l1All: function 130 -/
def spec_l1All.l0 : Nat → Int → Int → List Int → Int → Int → Option (Bool)
  | 0, _, _, _, _, _ => none
  | k + 1, x1, x2, x9, x10, x11 => if x11 < x10 then (if 0 ≤ x11 then (if x11 < (x9.length : Int) then ((spec_l1In.f (rd x9 x11) x1 x2).bind fun t176 => (if t176 = true then (spec_l1All.l0 k x1 x2 x9 x10 (wrap64 (x11 + 1))) else (some false))) else (none)) else (none)) else (some true)
def spec_l1All.f (k : Nat) (l0 : List Int) (a1 : Int) (a2 : Int) : Option (Bool) := spec_l1All.l0 k a1 a2 l0 (l0.length : Int) 0
theorem spec_l1All.mono_l : ∀ k, (∀ y0 y1 y2 y3 y4, LeO (spec_l1All.l0 k y0 y1 y2 y3 y4) (spec_l1All.l0 (k + 1) y0 y1 y2 y3 y4))
  | 0 => fun _ _ _ _ _ r h => by simp [spec_l1All.l0] at h
  | k + 1 => by
    have ih0 := spec_l1All.mono_l k
    · intro y0 y1 y2 y3 y4
      unfold spec_l1All.l0
      repeat' first
     |(with_reducible exact ih0 _ _ _ _ _)
     |(with_reducible exact LeO.refl _)
     |(with_reducible exact LeO.none _)
     |(with_reducible refine LeO.ite ?_ ?_)
     |(with_reducible refine LeO.bind ?_ (fun _ => ?_))
     |exact ih0 _ _ _ _ _
     |exact LeO.none _
      | refine LeO.ite ?_ ?_
      | refine LeO.bind ?_ (fun _ => ?_)
theorem spec_l1All.mono : ∀ a0 a1 a2 k, LeO (spec_l1All.f k a0 a1 a2) (spec_l1All.f (k + 1) a0 a1 a2) := by
  intro a0 a1 a2 k
  have ih0 := spec_l1All.mono_l k
  unfold spec_l1All.f
  repeat' first
     |(with_reducible exact ih0 _ _ _ _ _)
     |(with_reducible exact LeO.refl _)
     |(with_reducible exact LeO.none _)
     |(with_reducible refine LeO.ite ?_ ?_)
     |(with_reducible refine LeO.bind ?_ (fun _ => ?_))
     |exact ih0 _ _ _ _ _
     |exact LeO.none _
      | refine LeO.ite ?_ ?_
      | refine LeO.bind ?_ (fun _ => ?_)
set_option maxHeartbeats 8000000 in
set_option maxRecDepth 100000 in
theorem spec_l1All.calls (k : Nat) (A0 : Option Addr) (c0 : Nat) (l0 : List Int) (a1 : Int) (a2 : Int) (r : Bool) (w : World) (hr0 : Kd.C (Kd.int .i64) w A0 l0.length l0) (hc0 : l0.length ≤ c0) (h : spec_l1All.f k l0 a1 a2 = some r) :
    Calls Try.prog 130 #[.slice A0 l0.length c0, .int .i64 a1, .int .i64 a2] w fun e w' => e = .returned (.bool r) ∧ Drawn0 w w' := by
  have HR0 := Aside0.mk hr0
  have HC0 := Aside0.mk hc0
  clear hr0 hc0
  have H : (spec_l1All.l0 k a1 a2 l0 (l0.length : Int) 0) = some r := h
  clear h
  have H' := Aside0.mk H
  clear H
  go_enter Try.func130, Try.ntmps130
  go_wp2
  go_loopg [11] k (fun kq v11 w' => ∃ (x11_1 : Int), v11 = .int .i64 x11_1 ∧ Aside0 (spec_l1All.l0 kq a1 a2 l0 (l0.length : Int) x11_1 = some r) ∧ Aside0 (kq ≤ k) ∧ Drawn0 w w')
  case atStart => exact ⟨(0), (by first | rfl|(simp;done)|(simp [*];done)), H', ⟨Nat.le_refl _⟩, by repeat (first|exact Drawn0.refl _|apply Drawn0.step)⟩
  case round =>
    clear H'
    try clear c1
    try clear p2
    obtain ⟨x11_1, rfl, HA, HK1, ⟨m1, rfl⟩⟩ := hrel
    cases gk with
    | zero => exact absurd HA.out (by simp [spec_l1All.l0])
    | succ k1 =>
      have H := HA.out
      clear HA
      simp only [spec_l1All.l0] at H
      by_cases c4 : x11_1 < (l0.length : Int)
      · rw [if_pos c4] at H
        have c4b0 : decide (x11_1 < (l0.length : Int)) = true := decide_eq_true c4
        clear c4
        by_cases c5 : 0 ≤ x11_1
        · rw [if_pos c5] at H
          have c5b0 : decide (0 ≤ x11_1) = true := decide_eq_true c5
          clear c5
          by_cases c6 : x11_1 < (l0.length : Int)
          · rw [if_pos c6] at H
            have c6b0 : decide (x11_1 < (l0.length : Int)) = true := decide_eq_true c6
            clear c6
            replace H := Option.bind_eq_some_iff.mp H
            obtain ⟨t176, A70, H⟩ := H
            try dsimp only at H
            have A7 := Aside0.mk A70
            clear A70
            by_cases c8 : t176 = true
            · subst c8
              have H1 : (spec_l1All.l0 k1 a1 a2 l0 (l0.length : Int) (wrap64 (x11_1 + 1))) = some r := by rw [if_pos rfl] at H; exact H
              clear H
              have H := H1
              clear H1
              have H' := Aside0.mk H
              clear H
              have p175 : 0 ≤ (x11_1 : Int) := of_decide_eq_true (by first|(with_reducible assumption) | assumption)
              have q175 : x11_1 < (l0.length : Int) := of_decide_eq_true (by first|(with_reducible assumption) | assumption)
              obtain ⟨ad175, e175, hx175_0⟩ := Kd.at_int HR0.out x11_1 p175 q175
              cases e175
              replace p175 := eq_true p175
              replace q175 := eq_true q175
              go_wp2_with (first|((with_reducible refine gate_callee (f := 97) rfl ?_); refine goesL_ (some 18) rfl rfl Try.func97 (by kernel_rfl) rfl #[.int .i64 (rd l0 x11_1), .int .i64 a1, .int .i64 a2] rfl (by (try simp only [List.map_toArray, List.map_cons, List.map_nil]); first | done | rfl|(simp only [List.length_drop, List.length_take]; rfl)) ?_; (with_reducible refine (spec_l1In.calls (rd l0 x11_1) a1 a2 true _ A7.out).mono ?_); rintro e w' ⟨rfl, ⟨nd, rfl⟩⟩; refine ⟨_, rfl, ?_⟩))
              go_roundg k1
              case measure => have := HK1.out; omega
              case rel => exact ⟨(wrap64 (x11_1 + 1)), (by first | rfl|(simp;done)|(simp [*];done)), H', ⟨by have := HK1.out; omega⟩, by repeat (first|exact Drawn0.refl _|apply Drawn0.step)⟩
            · replace c8 := Bool.eq_false_iff.mpr c8
              subst c8
              have H1 : (some false) = some r := by rw [if_neg (show ¬ (false = true) by decide)] at H; exact H
              clear H
              have H := H1
              clear H1
              obtain rfl := Option.some.inj H
              have p175 : 0 ≤ (x11_1 : Int) := of_decide_eq_true (by first|(with_reducible assumption) | assumption)
              have q175 : x11_1 < (l0.length : Int) := of_decide_eq_true (by first|(with_reducible assumption) | assumption)
              obtain ⟨ad175, e175, hx175_0⟩ := Kd.at_int HR0.out x11_1 p175 q175
              cases e175
              replace p175 := eq_true p175
              replace q175 := eq_true q175
              go_wp2_with (first|((with_reducible refine gate_callee (f := 97) rfl ?_); refine goesL_ (some 18) rfl rfl Try.func97 (by kernel_rfl) rfl #[.int .i64 (rd l0 x11_1), .int .i64 a1, .int .i64 a2] rfl (by (try simp only [List.map_toArray, List.map_cons, List.map_nil]); first | done | rfl|(simp only [List.length_drop, List.length_take]; rfl)) ?_; (with_reducible refine (spec_l1In.calls (rd l0 x11_1) a1 a2 false _ A7.out).mono ?_); rintro e w' ⟨rfl, ⟨nd, rfl⟩⟩; refine ⟨_, rfl, ?_⟩))
              go_ret
              exact ⟨by first | rfl|(simp;done)|(simp [*];done), by repeat (first|exact Drawn0.refl _|apply Drawn0.step)⟩
          · rw [if_neg c6] at H
            exact absurd H (by simp)
        · rw [if_neg c5] at H
          exact absurd H (by simp)
      · rw [if_neg c4] at H
        have c4b0 : decide (x11_1 < (l0.length : Int)) = false := decide_eq_false c4
        clear c4
        obtain rfl := Option.some.inj H
        go_wp2
        go_ret
        exact ⟨by first | rfl|(simp;done)|(simp [*];done), by repeat (first|exact Drawn0.refl _|apply Drawn0.step)⟩

/-! ### spec_jrState: function 87 -/
def spec_jrState.f (k : Nat) (l0 : List Int) : Option (Bool) := if (l0.length : Int) ≤ 12 then ((spec_l1All.f k l0 0 999).bind fun t177 => (some t177)) else (some false)
theorem spec_jrState.mono : ∀ a0 k, LeO (spec_jrState.f k a0) (spec_jrState.f (k + 1) a0) := by
  intro a0 k
  unfold spec_jrState.f
  repeat' first
     |(with_reducible exact spec_l1All.mono _ _ _ _)
     |(with_reducible exact LeO.refl _)
     |(with_reducible exact LeO.none _)
     |(with_reducible refine LeO.ite ?_ ?_)
     |(with_reducible refine LeO.bind ?_ (fun _ => ?_))
     |exact spec_l1All.mono _ _ _ _
     |exact LeO.none _
      | refine LeO.ite ?_ ?_
      | refine LeO.bind ?_ (fun _ => ?_)
set_option maxHeartbeats 8000000 in
set_option maxRecDepth 100000 in
theorem spec_jrState.calls (k : Nat) (A0 : Option Addr) (c0 : Nat) (l0 : List Int) (r : Bool) (w : World) (hr0 : Kd.C (Kd.int .i64) w A0 l0.length l0) (hc0 : l0.length ≤ c0) (h : spec_jrState.f k l0 = some r) :
    Calls Try.prog 87 #[.slice A0 l0.length c0] w fun e w' => e = .returned (.bool r) ∧ Drawn0 w w' := by
  have HR0 := Aside0.mk hr0
  have HC0 := Aside0.mk hc0
  clear hr0 hc0
  have H : (if (l0.length : Int) ≤ 12 then ((spec_l1All.f k l0 0 999).bind fun t177 => (some t177)) else (some false)) = some r := h
  clear h
  by_cases c2 : (l0.length : Int) ≤ 12
  · rw [if_pos c2] at H
    have c2b0 : decide ((l0.length : Int) ≤ 12) = true := decide_eq_true c2
    have c2b1 : decide (l0.length ≤ 12) = true := decide_eq_true (by omega)
    clear c2
    replace H := Option.bind_eq_some_iff.mp H
    obtain ⟨t177, A30, H⟩ := H
    try dsimp only at H
    have A3 := Aside0.mk A30
    clear A30
    obtain rfl := Option.some.inj H
    go_enter Try.func87, Try.ntmps87
    go_wp2_with (first|(go_at_call 130; (with_reducible refine (spec_l1All.calls k _ _ l0 0 999 t177 _ ?side1 ?side2 A3.out).mono ?_);(case side1 => repeat (first|exact HR0.out|(with_reducible refine Kd.C_alloc ?_ _)|(with_reducible refine Kd.C_drewN ?_ _)|(with_reducible refine Kd.C_drew ?_)));(case side2 => exact HC0.out); rintro e w' ⟨rfl, ⟨nd, rfl⟩⟩))
    go_ret
    exact ⟨by first | rfl|(simp;done)|(simp [*];done), by repeat (first|exact Drawn0.refl _|apply Drawn0.step)⟩
  · rw [if_neg c2] at H
    have c2b0 : decide ((l0.length : Int) ≤ 12) = false := decide_eq_false c2
    have c2b1 : decide (l0.length ≤ 12) = false := decide_eq_false (by omega)
    clear c2
    obtain rfl := Option.some.inj H
    go_enter Try.func87, Try.ntmps87
    go_wp2
    go_ret
    exact ⟨by first | rfl|(simp;done)|(simp [*];done), by repeat (first|exact Drawn0.refl _|apply Drawn0.step)⟩

/-! ### spec_jrCheck: function 131 (by hand: the check of an area) -/
def spec_jrCheck.sum : Int → List Int → Int → Int
  | _, [], s => s
  | i, x :: l, s => spec_jrCheck.sum (i + 1) l (wrap64 (s + wrap64 ((i + 3) * x)))
def spec_jrCheck.f (l0 : List Int) : Option Int := if l0.length = 15 then some (Int.tmod (spec_jrCheck.sum 0 (l0.take 14) 0) 9973) else none
theorem spec_jrCheck.snoc (l : List Int) : ∀ (i s x : Int), spec_jrCheck.sum i (l ++ [x]) s = wrap64 (spec_jrCheck.sum i l s + wrap64 ((i + l.length + 3) * x)) := by
  induction l with
  | nil => intro i s x; simp [spec_jrCheck.sum]
  | cons y l ih =>
    intro i s x
    simp only [List.cons_append, spec_jrCheck.sum, ih, List.length_cons]
    have e : i + 1 + (l.length : Int) + 3 = i + ((l.length + 1 : Nat) : Int) + 3 := by simp; omega
    rw [e]
theorem spec_jrCheck.step (zs : List Int) (k : Nat) (hk : k < zs.length) : spec_jrCheck.sum 0 (zs.take (k + 1)) 0 = wrap64 (spec_jrCheck.sum 0 (zs.take k) 0 + wrap64 (((k : Int) + 3) * zs.getD k 0)) := by
  have e : zs.take (k + 1) = zs.take k ++ [zs.getD k 0] := by
    rw [List.take_succ_eq_append_getElem hk, List.getD_eq_getElem?_getD, List.getElem?_eq_getElem hk]; rfl
  rw [e, spec_jrCheck.snoc, List.length_take, Nat.min_eq_left (by omega), Int.zero_add]
set_option maxHeartbeats 8000000 in
set_option maxRecDepth 100000 in
theorem spec_jrCheck.calls (A0 : Option Addr) (c0 : Nat) (l0 : List Int) (r : Int) (w : World) (hr0 : Kd.C (Kd.int .i64) w A0 l0.length l0) (hc0 : l0.length ≤ c0) (h : spec_jrCheck.f l0 = some r) :
    Calls Try.prog 131 #[.slice A0 l0.length c0] w fun e w' => e = .returned (.int .i64 r) ∧ Drawn0 w w' := by
  unfold spec_jrCheck.f at h
  by_cases hlen : l0.length = 15
  · rw [if_pos hlen] at h
    obtain rfl := Option.some.inj h
    clear h
    obtain ⟨ad, e0, hcell⟩ := hr0.2.2 (by omega)
    subst e0
    have hz14 : (l0.take 14).length = 14 := by simp; omega
    have hce : ∀ j : Nat, j < 14 → w.cell? (ad.add j) = some (.int .i64 ((l0.take 14).getD j 0)) := by
      intro j hj
      obtain ⟨c, hc1, hc2, hc3⟩ := hcell j (l0.getD j 0) (by rw [List.getD_eq_getElem?_getD, List.getElem?_eq_getElem (by omega)]; simp)
      have hc4 : c = [.int .i64 (l0.getD j 0)] := hc2
      have h5 := hc3 0 (.int .i64 (l0.getD j 0)) (by rw [hc4]; rfl)
      have h6 : (Kd.int .i64).sz = 1 := rfl
      rw [h6, Nat.mul_one, Nat.add_zero] at h5
      have h7 : (l0.take 14).getD j 0 = l0.getD j 0 := by
        simp [List.getD_eq_getElem?_getD, List.getElem?_take, hj]
      rw [h7]; exact h5
    have hstep := spec_jrCheck.step (l0.take 14)
    rw [hz14] at hstep
    rw [hlen]
    have hcut : ∀ W : World, (Instr.slice 37 (.slice (some ad) 15 c0) none (some (.int .i64 14)) none).run Try.prog W = .ok (.slice (some ad) 14 c0) W := by
      intro W
      obtain ⟨i03, hi03, _, hsz3, _⟩ := info_parts (e := 3) (P := Try.prog) (z := .int .i64 0) (size := 1) (bytes := 8) (by kernel_rfl)
      have h1 := (print_take_of (P := Try.prog) (Value.int .i64) (0 : Int) 37 3 .i64 Try.underlying37 hi03 hsz3 (some ad) c0 l0 14 (by omega) (by omega) hc0).1 W
      have h2 : (l0.take (14 : Int).toNat).length = 14 := hz14
      rw [hlen, h2] at h1
      exact h1
    generalize l0.take 14 = zs at hce hstep hz14 ⊢
    have HC := Aside0.mk hc0
    have HZ := Aside0.mk (List.take_of_length_le (i := 14) (Nat.le_of_eq hz14))
    clear hr0 hcell hz14 hlen hc0
    have HS := Aside0.mk hstep
    clear hstep
    go_enter Try.func131, Try.ntmps131
    go_wp2
    go_loop [3, 9] (fun s i => ∃ k : Nat, k ≤ 14 ∧ i = .int .i64 k ∧ s = .int .i64 (spec_jrCheck.sum 0 (zs.take k) 0)) (fun _ i => 14 - (intOf i).toNat)
    case atStart => exact ⟨0, Nat.zero_le _, rfl, rfl⟩
    case round =>
      obtain ⟨k, hk, rfl, rfl⟩ := hrel
      by_cases hlt : k < 14
      · have hx := hce k hlt
        have hst := Aside0.mk (HS.out k hlt)
        clear hce
        generalize zs.getD k 0 = x at hx hst
        generalize spec_jrCheck.sum 0 (zs.take k) 0 = s at hst ⊢
        go_wp2
        go_round
        case rel => exact ⟨k + 1, by omega, by go_num, by rw [hst.out]⟩
        case measure => simp [intOf]; omega
      · obtain rfl : k = 14 := by omega
        clear hce
        go_wp2
        go_ret
        exact ⟨by rw [HZ.out]; first | rfl|(simp;done), Drawn0.refl _⟩
  · rw [if_neg hlen] at h
    exact absurd h (by simp)


/-! ### spec_jrMake: function 88 -/
def spec_jrMake.l0 : Nat → List Int → List Int → Int → Int → Option (List Int)
  | 0, _, _, _, _ => none
  | k + 1, x5, x16, x17, x18 => if x18 < x17 then (if 0 ≤ x18 then (if x18 < (x16.length : Int) then (if 0 ≤ (wrap64 (2 + x18)) then (if (wrap64 (2 + x18)) < (x5.length : Int) then (spec_jrMake.l0 k (x5.set ((wrap64 (2 + x18)) : Int).toNat (rd x16 x18)) x16 x17 (wrap64 (x18 + 1))) else (none)) else (none)) else (none)) else (none)) else ((spec_jrCheck.f x5).bind fun t185 => (if 14 < (x5.length : Int) then (some (x5.set (14 : Int).toNat t185)) else (none)))
def spec_jrMake.f (k : Nat) (a0 : Int) (l1 : List Int) : Option (List Int) := if 15 ≤ 35184372088832 then ((some (List.replicate 15 0 : List Int)).bind fun y178 => (if 0 < (y178.length : Int) then (if 1 < (y178.length : Int) then (spec_jrMake.l0 k ((y178.set (0 : Int).toNat a0).set (1 : Int).toNat (l1.length : Int)) l1 (l1.length : Int) 0) else (none)) else (none))) else (none)
theorem spec_jrMake.mono_l : ∀ k, (∀ y0 y1 y2 y3, LeO (spec_jrMake.l0 k y0 y1 y2 y3) (spec_jrMake.l0 (k + 1) y0 y1 y2 y3))
  | 0 => fun _ _ _ _ r h => by simp [spec_jrMake.l0] at h
  | k + 1 => by
    have ih0 := spec_jrMake.mono_l k
    · intro y0 y1 y2 y3
      unfold spec_jrMake.l0
      repeat' first
     |(with_reducible exact ih0 _ _ _ _)
     |(with_reducible exact LeO.refl _)
     |(with_reducible exact LeO.none _)
     |(with_reducible refine LeO.ite ?_ ?_)
     |(with_reducible refine LeO.bind ?_ (fun _ => ?_))
     |exact ih0 _ _ _ _
     |exact LeO.none _
      | refine LeO.ite ?_ ?_
      | refine LeO.bind ?_ (fun _ => ?_)
theorem spec_jrMake.mono : ∀ a0 a1 k, LeO (spec_jrMake.f k a0 a1) (spec_jrMake.f (k + 1) a0 a1) := by
  intro a0 a1 k
  have ih0 := spec_jrMake.mono_l k
  unfold spec_jrMake.f
  repeat' first
     |(with_reducible exact ih0 _ _ _ _)
     |(with_reducible exact LeO.refl _)
     |(with_reducible exact LeO.none _)
     |(with_reducible refine LeO.ite ?_ ?_)
     |(with_reducible refine LeO.bind ?_ (fun _ => ?_))
     |exact ih0 _ _ _ _
     |exact LeO.none _
      | refine LeO.ite ?_ ?_
      | refine LeO.bind ?_ (fun _ => ?_)
set_option maxHeartbeats 8000000 in
set_option maxRecDepth 100000 in
theorem spec_jrMake.calls (k : Nat) (a0 : Int) (A1 : Option Addr) (c1 : Nat) (l1 : List Int) (r : List Int) (w : World) (hr1 : Kd.C (Kd.int .i64) w A1 l1.length l1) (hc1 : l1.length ≤ c1) (h : spec_jrMake.f k a0 l1 = some r) :
    Calls Try.prog 88 #[.int .i64 a0, .slice A1 l1.length c1] w fun e w' => ∃ v0_ : Value, e = .returned (v0_) ∧ Kd.R (Kd.int .i64) 3 w' w.heap.size (fun _ => True) v0_ r ∧ Below w.heap.size w w' := by
  have HR1 := Aside0.mk hr1
  have HC1 := Aside0.mk hc1
  clear hr1 hc1
  have HB := Aside0.mk (Below.refl w.heap.size w)
  have H : (if 15 ≤ 35184372088832 then ((some (List.replicate 15 0 : List Int)).bind fun y178 => (if 0 < (y178.length : Int) then (if 1 < (y178.length : Int) then (spec_jrMake.l0 k ((y178.set (0 : Int).toNat a0).set (1 : Int).toNat (l1.length : Int)) l1 (l1.length : Int) 0) else (none)) else (none))) else (none)) = some r := h
  clear h
  by_cases c3 : 15 ≤ 35184372088832
  · rw [if_pos c3] at H
    have c3b0 := eq_true c3
    have c3b1 : decide (15 ≤ 35184372088832) = true := decide_eq_true c3
    clear c3
    obtain ⟨y178, hy178⟩ : ∃ y_ : List Int, y_ = (List.replicate 15 0) := ⟨_, rfl⟩
    replace H : (if 0 < (y178.length : Int) then (if 1 < (y178.length : Int) then (spec_jrMake.l0 k ((y178.set (0 : Int).toNat a0).set (1 : Int).toNat (l1.length : Int)) l1 (l1.length : Int) 0) else (none)) else (none)) = some r := by first|(rw [hy178]; with_reducible exact H)|(have H2_ := (Option.bind_some _ _).symm.trans H; rw [hy178]; with_reducible exact H2_)|(have H2_ := (Option.bind_some _ _).symm.trans H; with_reducible exact H2_) | with_reducible exact H|(rw [hy178]; exact H)|exact H
    have Ny178 := Aside0.mk hy178
    clear hy178
    by_cases c4 : 0 < (y178.length : Int)
    · rw [if_pos c4] at H
      have c4b0 : decide (0 < (y178.length : Int)) = true := decide_eq_true c4
      have c4b1 : decide (0 < y178.length) = true := decide_eq_true (by omega)
      clear c4
      obtain ⟨y181, hy181⟩ : ∃ y_ : List Int, y_ = (y178.set (0 : Int).toNat a0) := ⟨_, rfl⟩
      replace H : (if 1 < (y178.length : Int) then (spec_jrMake.l0 k (y181.set (1 : Int).toNat (l1.length : Int)) l1 (l1.length : Int) 0) else (none)) = some r := by first|(rw [hy181]; with_reducible exact H)|(have H2_ := (Option.bind_some _ _).symm.trans H; rw [hy181]; with_reducible exact H2_)|(have H2_ := (Option.bind_some _ _).symm.trans H; with_reducible exact H2_) | with_reducible exact H|(rw [hy181]; exact H)|exact H
      have Ny181 := Aside0.mk hy181
      clear hy181
      by_cases c6 : 1 < (y178.length : Int)
      · rw [if_pos c6] at H
        have c6b0 : decide (1 < (y178.length : Int)) = true := decide_eq_true c6
        have c6b1 : decide (1 < y178.length) = true := decide_eq_true (by omega)
        clear c6
        obtain ⟨y182, hy182⟩ : ∃ y_ : List Int, y_ = (y181.set (1 : Int).toNat (l1.length : Int)) := ⟨_, rfl⟩
        replace H : (spec_jrMake.l0 k y182 l1 (l1.length : Int) 0) = some r := by first|(rw [hy182]; with_reducible exact H)|(have H2_ := (Option.bind_some _ _).symm.trans H; rw [hy182]; with_reducible exact H2_)|(have H2_ := (Option.bind_some _ _).symm.trans H; with_reducible exact H2_) | with_reducible exact H|(rw [hy182]; exact H)|exact H
        have Ny182 := Aside0.mk hy182
        clear hy182
        have H' := Aside0.mk H
        clear H
        go_enter Try.func88, Try.ntmps88
        go_wp2_with (first|((with_reducible refine gate_dst (N := 8) rfl ?_); refine Kd.R_make (Kd.int .i64) _ 3 rfl (N := 8) rfl 37 _ _ rfl 15 rfl rfl Try.underlying37 (.int .i64 0) 8 info3 rfl (by decide) (by omega) 0 (ok := fun _ => True) (okp := fun _ => True) rfl (fun _ hk => hk) trivial (by omega) (by omega) (Below.refl _ _) (Nat.le_refl _) ?_; intro v179 w8 ho9 hb hg_ hnew_; clear hg_ hnew_; (first|rw [← Ny178.out] at ho9|(simp only [Int.reduceToNat] at ho9; rw [← Ny178.out] at ho9)); have n0_ := Aside0.mk (Kd.R_lower ho9 (below_size (by repeat (first|(with_reducible first|exact HB.out|apply below_alloc|apply pw_below_drewN|apply below_drew1)|exact HB.out)))); have n1_ := Aside0.mk (below_step (by repeat (first|(with_reducible first|exact HB.out|apply below_alloc|apply pw_below_drewN|apply below_drew1)|exact HB.out)) hb); clear HB; have HO180 := n0_; have HB := n1_; clear n0_ n1_; clear hb ho9; have p5 : 0 ≤ (0 : Int) := (by omega); have q5 : (0 : Int) < ((y178.length : Int) : Int) := of_decide_eq_true (by first|(with_reducible assumption) | assumption); have qi5 : (0 < y178.length) = True := eq_true (by omega); obtain ⟨go5, co5, eo5, gb5, gl5, cl5, HG5⟩ := Kd.R_form HO180.out (by omega); (first|cases eo5|(injection eo5 with ea_ en_ ec_; (first|subst ea_|(injection ea_ with ea_; subst ea_)); subst ec_; clear en_)); have GB5 := Aside0.mk gb5; have GG5 := Aside0.mk HG5; clear gb5 gl5 HG5; obtain ⟨hx5_0, hf5_0⟩ := Kd.R_celln 0 HO180.out (0 : Int) p5 q5; (try rw [show ((0 : Int)).toNat = 0 from rfl] at hx5_0); (try simp only [Nat.reduceMul, Nat.zero_mul, Nat.zero_add, Nat.reduceAdd] at hx5_0); (try rw [show ((0 : Int)).toNat = 0 from rfl] at hf5_0); (try simp only [Nat.reduceMul, Nat.zero_mul, Nat.zero_add, Nat.reduceAdd] at hf5_0); replace p5 := eq_true p5; replace q5 := eq_true q5; obtain ⟨hy10_, hz10_⟩ := Kd.R_celln 0 HO180.out (0 : Int) (by omega) (of_decide_eq_true (by first|(with_reducible assumption) | assumption)); (try simp only [Int.reduceToNat, Int.toNat_zero, Int.toNat_ofNat, Nat.reduceMul, Nat.zero_mul, Nat.zero_add] at hy10_ hz10_); (try rw [show ((0 : Int)).toNat = 0 from rfl] at hy10_); (try rw [show ((0 : Int)).toNat = 0 from rfl] at hz10_); have HP10 := Kd.R_putg HO180.out (0 : Int) a0)|((with_reducible refine gate_store (t := 3) (p := 11) rfl ?_); refine store_event (t := 3) (p := 11) (v := ?vo_w11) (w1 := (w8.setCell ⟨go5, (0 : Int).toNat, none⟩ (.int .i64 a0))) ?hg ?ho ?hn ?hr ?_;(case ho => rfl);(case hg => rfl);(case hn => rfl);(case hr => first|(go_simp;done)|(go_simp; rfl)); intro w11 hw; have hg : w8.grownBy w11 (some go5) := (by rw [hw]; exact HP10.2); have hp_ : Kd.R (Kd.int .i64) 3 w11 w.heap.size (fun _ => True) (.slice (some ⟨go5, 0, none⟩) y178.length co5) y181 := (by rw [hw, Ny181.out]; exact HP10.1); clear HP10; have n0_ := Aside0.mk (hp_); have n1_ := Aside0.mk ((by rw [hw]; exact below_set (HB.out) GB5.out : Below w.heap.size w w11)); clear HO180; clear HB; have HO180 := n0_; have HB := n1_; clear n0_ n1_; clear hg hw hp_; have p7 : 0 ≤ (1 : Int) := (by omega); have q7 : (1 : Int) < ((y178.length : Int) : Int) := of_decide_eq_true (by first|(with_reducible assumption) | assumption); have qi7 : (1 < y178.length) = True := eq_true (by omega); obtain ⟨hx7_0, hf7_0⟩ := Kd.R_celln 0 HO180.out (1 : Int) p7 q7; (try rw [show ((1 : Int)).toNat = 1 from rfl] at hx7_0); (try simp only [Nat.reduceMul, Nat.zero_mul, Nat.zero_add, Nat.reduceAdd] at hx7_0); (try rw [show ((1 : Int)).toNat = 1 from rfl] at hf7_0); (try simp only [Nat.reduceMul, Nat.zero_mul, Nat.zero_add, Nat.reduceAdd] at hf7_0); replace p7 := eq_true p7; replace q7 := eq_true q7; obtain ⟨hy12_, hz12_⟩ := Kd.R_celln 0 HO180.out (1 : Int) (by omega) (of_decide_eq_true (by first|(with_reducible assumption) | assumption)); (try simp only [Int.reduceToNat, Int.toNat_zero, Int.toNat_ofNat, Nat.reduceMul, Nat.zero_mul, Nat.zero_add] at hy12_ hz12_); (try rw [show ((1 : Int)).toNat = 1 from rfl] at hy12_); (try rw [show ((1 : Int)).toNat = 1 from rfl] at hz12_); have HP12 := Kd.R_putg HO180.out (1 : Int) (l1.length : Int))|((with_reducible refine gate_store (t := 3) (p := 15) rfl ?_); refine store_event (t := 3) (p := 15) (v := ?vo_w13) (w1 := (w11.setCell ⟨go5, (1 : Int).toNat, none⟩ (.int .i64 (l1.length : Int)))) ?hg ?ho ?hn ?hr ?_;(case ho => rfl);(case hg => rfl);(case hn => rfl);(case hr => first|(go_simp;done)|(go_simp; rfl)); intro w13 hw; have hg : w11.grownBy w13 (some go5) := (by rw [hw]; exact HP12.2); have hp_ : Kd.R (Kd.int .i64) 3 w13 w.heap.size (fun _ => True) (.slice (some ⟨go5, 0, none⟩) y178.length co5) y182 := (by rw [hw, Ny182.out]; exact HP12.1); clear HP12; have n0_ := Aside0.mk (hp_); have n1_ := Aside0.mk ((by rw [hw]; exact below_set (HB.out) GB5.out : Below w.heap.size w w13)); clear HO180; clear HB; have HO180 := n0_; have HB := n1_; clear n0_ n1_; clear hg hw hp_))
        go_loopg [18] k (fun kq v18 w' => ∃ (x5_1 : List Int) (x18_1 : Int), v18 = .int .i64 x18_1 ∧ Aside0 (spec_jrMake.l0 kq x5_1 l1 (l1.length : Int) x18_1 = some r) ∧ Aside0 (kq ≤ k) ∧ Aside0 (Kd.R (Kd.int .i64) 3 w' w.heap.size (fun _ => True) (.slice (some ⟨go5, 0, none⟩) y178.length co5) x5_1) ∧ Aside0 (Below w.heap.size w w'))
        case atStart => exact ⟨(y182), (0), (by first | rfl|(simp;done)|(simp [*];done)), H', ⟨Nat.le_refl _⟩, ⟨by (with_reducible repeat (first|apply Kd.R_alloc|apply Kd.R_drewN|apply Kd.R_drew)); exact HO180.out⟩, ⟨by repeat (first|(with_reducible first|exact HB.out|apply below_alloc|apply pw_below_drewN|apply below_drew1)|exact HB.out)⟩⟩
        case round =>
          clear H'
          try clear c1
          try clear p2
          try clear c3
          try clear c3b0
          try clear c3b1
          try clear c4
          try clear c4b0
          try clear c4b1
          try clear p5
          try clear q5
          try clear hx5
          try clear qi5
          try clear hf5
          try clear c6
          try clear c6b0
          try clear c6b1
          try clear p7
          try clear q7
          try clear hx7
          try clear qi7
          try clear hf7
          try clear c8
          try clear hx5_0
          try clear hx7_0
          try clear p5
          try clear p7
          try clear q5
          try clear q7
          obtain ⟨x5_1, x18_1, rfl, HA, HK1, HO_5, HB⟩ := hrel
          have hl5_1 := (Kd.R_reads' HO_5.out).1
          rw [hl5_1] at HO_5
          (try simp only [hl5_1])
          cases gk with
          | zero => exact absurd HA.out (by simp [spec_jrMake.l0])
          | succ k1 =>
            have H := HA.out
            clear HA
            simp only [spec_jrMake.l0] at H
            by_cases c14 : x18_1 < (l1.length : Int)
            · rw [if_pos c14] at H
              have c14b0 : decide (x18_1 < (l1.length : Int)) = true := decide_eq_true c14
              clear c14
              by_cases c15 : 0 ≤ x18_1
              · rw [if_pos c15] at H
                have c15b0 : decide (0 ≤ x18_1) = true := decide_eq_true c15
                clear c15
                by_cases c16 : x18_1 < (l1.length : Int)
                · rw [if_pos c16] at H
                  have c16b0 : decide (x18_1 < (l1.length : Int)) = true := decide_eq_true c16
                  clear c16
                  obtain ⟨ji17, hji17⟩ : ∃ j_ : Int, (wrap64 (2 + x18_1)) = j_ := ⟨_, rfl⟩
                  replace H : (if 0 ≤ (ji17) then (if (ji17) < (x5_1.length : Int) then (spec_jrMake.l0 k1 (x5_1.set ((ji17) : Int).toNat (rd l1 x18_1)) l1 (l1.length : Int) (wrap64 (x18_1 + 1))) else (none)) else (none)) = some r := by first|(rw [hji17] at H; exact H)|(simp only [hji17] at H ⊢; exact H)
                  have hji17w : (IntKind.i64.wrap (2 + x18_1)) = ji17 := (i64_w _).trans hji17
                  by_cases c18 : 0 ≤ (ji17)
                  · rw [if_pos c18] at H
                    have c18b0 : decide (0 ≤ (ji17)) = true := decide_eq_true c18
                    clear c18
                    by_cases c19 : (ji17) < (x5_1.length : Int)
                    · rw [if_pos c19] at H
                      have c19b0 : decide ((ji17) < (x5_1.length : Int)) = true := decide_eq_true c19
                      clear c19
                      obtain ⟨y184, hy184⟩ : ∃ y_ : List Int, y_ = (x5_1.set ((ji17) : Int).toNat (rd l1 x18_1)) := ⟨_, rfl⟩
                      replace H : (spec_jrMake.l0 k1 y184 l1 (l1.length : Int) (wrap64 (x18_1 + 1))) = some r := by first|(rw [hy184]; with_reducible exact H)|(have H2_ := (Option.bind_some _ _).symm.trans H; rw [hy184]; with_reducible exact H2_)|(have H2_ := (Option.bind_some _ _).symm.trans H; with_reducible exact H2_) | with_reducible exact H|(rw [hy184]; exact H)|exact H
                      have Ny184 := Aside0.mk hy184
                      clear hy184
                      have H' := Aside0.mk H
                      clear H
                      have p183 : 0 ≤ (x18_1 : Int) := of_decide_eq_true (by first|(with_reducible assumption) | assumption)
                      have q183 : x18_1 < (l1.length : Int) := of_decide_eq_true (by first|(with_reducible assumption) | assumption)
                      obtain ⟨ad183, e183, hx183_0⟩ := Kd.at_int HR1.out x18_1 p183 q183
                      cases e183
                      replace hx183_0 := (HB.out.cell (World.block_lt_of_cell? w _ hx183_0)).trans hx183_0
                      replace p183 := eq_true p183
                      replace q183 := eq_true q183
                      have p20 : 0 ≤ ((ji17) : Int) := of_decide_eq_true (by first|(with_reducible assumption) | assumption)
                      have q20 : ((ji17) : Int) < ((x5_1.length : Int) : Int) := of_decide_eq_true (by first|(with_reducible assumption) | assumption)
                      obtain ⟨hx20_0, hf20_0⟩ := Kd.R_celln 0 HO_5.out ((ji17) : Int) p20 q20
                      replace p20 := eq_true p20
                      replace q20 := eq_true q20
                      have HP21 := Kd.R_putg HO_5.out ((ji17) : Int) (rd l1 x18_1)
                      go_wp2_with (first|((with_reducible refine gate_store (t := 3) (p := 27) rfl ?_); refine store_event (t := 3) (p := 27) (v := ?vo_w22) (w1 := (wr.setCell ⟨go5, ((ji17) : Int).toNat, none⟩ (.int .i64 (rd l1 x18_1)))) ?hg ?ho ?hn ?hr ?_;(case ho => rfl);(case hg => rfl);(case hn => rfl);(case hr => first|(go_simp;done)|(go_simp; rfl)); intro w22 hw; have hg : wr.grownBy w22 (some go5) := (by rw [hw]; exact HP21.2); have hp_ : Kd.R (Kd.int .i64) 3 w22 w.heap.size (fun _ => True) (.slice (some ⟨go5, 0, none⟩) x5_1.length co5) y184 := (by rw [hw, Ny184.out]; exact HP21.1); clear HP21; have n0_ := Aside0.mk (hp_); have n1_ := Aside0.mk ((by rw [hw]; exact below_set (HB.out) GB5.out : Below w.heap.size w w22)); clear HO_5; clear HB; have HO_5 := n0_; have HB := n1_; clear n0_ n1_; clear hg hw hp_))
                      (try simp only [← hl5_1])
                      go_roundg k1
                      case measure => have := HK1.out; omega
                      case rel => exact ⟨(y184), (wrap64 (x18_1 + 1)), (by first | rfl|(simp;done)|(simp [*];done)), H', ⟨by have := HK1.out; omega⟩, ⟨by (try simp only [hl5_1]); (with_reducible repeat (first|apply Kd.R_alloc|apply Kd.R_drewN|apply Kd.R_drew)); exact HO_5.out⟩, ⟨by repeat (first|(with_reducible first|exact HB.out|apply below_alloc|apply pw_below_drewN|apply below_drew1)|exact HB.out)⟩⟩
                    · rw [if_neg c19] at H
                      exact absurd H (by simp)
                  · rw [if_neg c18] at H
                    exact absurd H (by simp)
                · rw [if_neg c16] at H
                  exact absurd H (by simp)
              · rw [if_neg c15] at H
                exact absurd H (by simp)
            · rw [if_neg c14] at H
              have c14b0 : decide (x18_1 < (l1.length : Int)) = false := decide_eq_false c14
              clear c14
              replace H := Option.bind_eq_some_iff.mp H
              obtain ⟨t185, A230, H⟩ := H
              try dsimp only at H
              have A23 := Aside0.mk A230
              clear A230
              by_cases c24 : 14 < (x5_1.length : Int)
              · rw [if_pos c24] at H
                have c24b0 : decide (14 < (x5_1.length : Int)) = true := decide_eq_true c24
                have c24b1 : decide (14 < x5_1.length) = true := decide_eq_true (by omega)
                clear c24
                obtain ⟨y186, hy186⟩ : ∃ y_ : List Int, y_ = (x5_1.set (14 : Int).toNat t185) := ⟨_, rfl⟩
                replace H : (some y186) = some r := by first|(rw [hy186]; with_reducible exact H)|(have H2_ := (Option.bind_some _ _).symm.trans H; rw [hy186]; with_reducible exact H2_)|(have H2_ := (Option.bind_some _ _).symm.trans H; with_reducible exact H2_) | with_reducible exact H|(rw [hy186]; exact H)|exact H
                have Ny186 := Aside0.mk hy186
                clear hy186
                obtain rfl := Option.some.inj H
                go_wp2_with (first|((with_reducible refine gate_callee (f := 131) rfl ?_); refine goesL_ (some 31) rfl rfl Try.func131 (by kernel_rfl) rfl #[.slice (some ⟨go5, 0, none⟩) x5_1.length co5] rfl (by (try simp only [List.map_toArray, List.map_cons, List.map_nil]); first | done | rfl|(simp only [List.length_drop, List.length_take]; rfl)) ?_; (with_reducible refine (spec_jrCheck.calls _ _ x5_1 t185 _ ?side1 ?side2 A23.out).mono ?_);(case side1 => repeat (first|exact (Kd.R_reads' HO_5.out).2.2|(with_reducible refine Kd.C_alloc ?_ _)|(with_reducible refine Kd.C_drewN ?_ _)|(with_reducible refine Kd.C_drew ?_)));(case side2 => exact (Kd.R_reads' HO_5.out).2.1); rintro e w' ⟨rfl, ⟨nd, rfl⟩⟩; refine ⟨_, rfl, ?_⟩; (try (rw [drewN_self wr]; generalize hq_ : World.drewN wr _ = wr; have n0_ : Aside0 (Kd.R (Kd.int .i64) 3 wr w.heap.size (fun _ => True) (.slice (some ⟨go5, 0, none⟩) x5_1.length co5) x5_1) := ⟨by rw [← hq_]; exact (by (with_reducible repeat (first|apply Kd.R_alloc|apply Kd.R_drewN|apply Kd.R_drew)); exact HO_5.out)⟩; have n1_ : Aside0 (Below w.heap.size w wr) := ⟨by rw [← hq_]; exact (by repeat (first|(with_reducible first|exact HB.out|apply below_alloc|apply pw_below_drewN|apply below_drew1)|exact HB.out))⟩; clear HO_5 HB hq_; have HO_5 := n0_; have HB := n1_; clear n0_ n1_)); have p25 : 0 ≤ (14 : Int) := (by omega); have q25 : (14 : Int) < ((x5_1.length : Int) : Int) := of_decide_eq_true (by first|(with_reducible assumption) | assumption); have qi25 : (14 < x5_1.length) = True := eq_true (by omega); obtain ⟨hx25_0, hf25_0⟩ := Kd.R_celln 0 HO_5.out (14 : Int) p25 q25; (try rw [show ((14 : Int)).toNat = 14 from rfl] at hx25_0); (try simp only [Nat.reduceMul, Nat.zero_mul, Nat.zero_add, Nat.reduceAdd] at hx25_0); (try rw [show ((14 : Int)).toNat = 14 from rfl] at hf25_0); (try simp only [Nat.reduceMul, Nat.zero_mul, Nat.zero_add, Nat.reduceAdd] at hf25_0); replace p25 := eq_true p25; replace q25 := eq_true q25; obtain ⟨hy26_, hz26_⟩ := Kd.R_celln 0 HO_5.out (14 : Int) (by omega) (of_decide_eq_true (by first|(with_reducible assumption) | assumption)); (try simp only [Int.reduceToNat, Int.toNat_zero, Int.toNat_ofNat, Nat.reduceMul, Nat.zero_mul, Nat.zero_add] at hy26_ hz26_); (try rw [show ((14 : Int)).toNat = 14 from rfl] at hy26_); (try rw [show ((14 : Int)).toNat = 14 from rfl] at hz26_); have HP26 := Kd.R_putg HO_5.out (14 : Int) t185)|((with_reducible refine gate_store (t := 3) (p := 32) rfl ?_); refine store_event (t := 3) (p := 32) (v := ?vo_w27) (w1 := (wr.setCell ⟨go5, (14 : Int).toNat, none⟩ (.int .i64 t185))) ?hg ?ho ?hn ?hr ?_;(case ho => rfl);(case hg => rfl);(case hn => rfl);(case hr => first|(go_simp;done)|(go_simp; rfl)); intro w27 hw; have hg : wr.grownBy w27 (some go5) := (by rw [hw]; exact HP26.2); have hp_ : Kd.R (Kd.int .i64) 3 w27 w.heap.size (fun _ => True) (.slice (some ⟨go5, 0, none⟩) x5_1.length co5) y186 := (by rw [hw, Ny186.out]; exact HP26.1); clear HP26; have n0_ := Aside0.mk (hp_); have n1_ := Aside0.mk ((by rw [hw]; exact below_set (HB.out) GB5.out : Below w.heap.size w w27)); clear HO_5; clear HB; have HO_5 := n0_; have HB := n1_; clear n0_ n1_; clear hg hw hp_))
                go_ret
                exact ⟨_, by first | rfl|(simp [errW_none, errW_some] <;> rfl)|(simp [*, errW_none, errW_some] <;> rfl), by (with_reducible repeat (first|apply Kd.R_alloc|apply Kd.R_drewN|apply Kd.R_drew)); exact HO_5.out, by repeat (first|(with_reducible first|exact HB.out|apply below_alloc|apply pw_below_drewN|apply below_drew1)|exact HB.out)⟩
              · rw [if_neg c24] at H
                exact absurd H (by simp)
      · rw [if_neg c6] at H
        exact absurd H (by simp)
    · rw [if_neg c4] at H
      exact absurd H (by simp)
  · rw [if_neg c3] at H
    exact absurd H (by simp)

end Go.Proofs.Ytlbbkepkincleaa.QFnAreas
