/- Written by a program of this session (the kit's printer, with leaf contracts proved by hand put in): what each Go function computes, and that the call computes it. No condition but those that each theorem names. -/
import Derived.Test.YtlbbkepkincleaaQFnAreasx0
import Derived.Test.YtlbbkepkincleaaQFnAreasx2
import Derived.Test.YtlbbkepkincleaaQFnAreasx3
namespace Go.Proofs.Ytlbbkepkincleaa.QFnAreas
open Go.RowKit Go.Proofs.YtlbbkepkincleaaW.PrintWords Go.Proofs.YtlbbkepkincleaaW.PrintLast Go.Proofs.YtlbbkepkincleaaW.PrintMore
attribute [local go_sem] max2_int min2_int max_two min_two max_three min_three max_four min_four   -- for this text's walks alone
set_option linter.unusedVariables false
set_option linter.unusedSimpArgs false

/-! ### impl_newest: function 101 -/
def impl_newest.j0 : Nat → Int → List Int → Int → List Int → Bool → Option (Int × Int × List Int)
  | 0, _, _, _, _, _ => none
  | k + 1, x7, x8, x9, x10, x21 => if x21 = true then (some ((-1), 0, ([] : List Int))) else (if x7 ≥ x9 then (some (0, x7, x8)) else (some (1, x9, x10)))
def impl_newest.f (k : Nat) (l0 : List Int) (l1 : List Int) : Option (Int × Int × List Int) := (impl_readArea.f k l0).bind fun bt234 => ((impl_readArea.f k l1).bind fun bt238 => (if bt234.1 = 0 then (impl_newest.j0 k bt234.1 bt234.2 bt238.1 bt238.2 (bt238.1 == 0)) else (impl_newest.j0 k bt234.1 bt234.2 bt238.1 bt238.2 false)))
theorem impl_newest.mono_l : ∀ k, (∀ y0 y1 y2 y3 y4, LeO (impl_newest.j0 k y0 y1 y2 y3 y4) (impl_newest.j0 (k + 1) y0 y1 y2 y3 y4))
  | 0 => fun _ _ _ _ _ r h => by simp [impl_newest.j0] at h
  | k + 1 => by
    have ih0 := impl_newest.mono_l k
    · intro y0 y1 y2 y3 y4
      unfold impl_newest.j0
      repeat' first
     |(with_reducible exact ih0 _ _ _ _ _)
     |(with_reducible exact impl_readArea.mono _ _)
     |(with_reducible exact LeO.refl _)
     |(with_reducible exact LeO.none _)
     |(with_reducible refine LeO.ite ?_ ?_)
     |(with_reducible refine LeO.bind ?_ (fun _ => ?_))
     |exact ih0 _ _ _ _ _
     |exact impl_readArea.mono _ _
     |exact LeO.none _
      | refine LeO.ite ?_ ?_
      | refine LeO.bind ?_ (fun _ => ?_)
theorem impl_newest.mono : ∀ a0 a1 k, LeO (impl_newest.f k a0 a1) (impl_newest.f (k + 1) a0 a1) := by
  intro a0 a1 k
  have ih0 := impl_newest.mono_l k
  unfold impl_newest.f
  repeat' first
     |(with_reducible exact ih0 _ _ _ _ _)
     |(with_reducible exact impl_readArea.mono _ _)
     |(with_reducible exact LeO.refl _)
     |(with_reducible exact LeO.none _)
     |(with_reducible refine LeO.ite ?_ ?_)
     |(with_reducible refine LeO.bind ?_ (fun _ => ?_))
     |exact ih0 _ _ _ _ _
     |exact impl_readArea.mono _ _
     |exact LeO.none _
      | refine LeO.ite ?_ ?_
      | refine LeO.bind ?_ (fun _ => ?_)
set_option maxHeartbeats 8000000 in
set_option maxRecDepth 100000 in
theorem impl_newest.calls (k : Nat) (A0 : Option Addr) (c0 : Nat) (l0 : List Int) (A1 : Option Addr) (c1 : Nat) (l1 : List Int) (r1 : Int) (r2 : Int) (r3 : List Int) (w : World) (hr0 : Kd.C (Kd.int .i64) w A0 l0.length l0) (hc0 : l0.length ≤ c0) (hr1 : Kd.C (Kd.int .i64) w A1 l1.length l1) (hc1 : l1.length ≤ c1) (h : impl_newest.f k l0 l1 = some (r1, r2, r3)) :
    Calls Try.prog 101 #[.slice A0 l0.length c0, .slice A1 l1.length c1] w fun e w' => ∃ v2_ : Value, e = .returned (.tuple #[.int .i64 r1, .int .i64 r2, v2_]) ∧ Kd.R (Kd.int .i64) 3 w' w.heap.size (fun _ => True) v2_ r3 ∧ Below w.heap.size w w' := by
  have HR0 := Aside0.mk hr0
  have HC0 := Aside0.mk hc0
  clear hr0 hc0
  have HR1 := Aside0.mk hr1
  have HC1 := Aside0.mk hc1
  clear hr1 hc1
  have HB := Aside0.mk (Below.refl w.heap.size w)
  have H : ((impl_readArea.f k l0).bind fun bt234 => ((impl_readArea.f k l1).bind fun bt238 => (if bt234.1 = 0 then (impl_newest.j0 k bt234.1 bt234.2 bt238.1 bt238.2 (bt238.1 == 0)) else (impl_newest.j0 k bt234.1 bt234.2 bt238.1 bt238.2 false)))) = some (r1, r2, r3) := h
  clear h
  replace H := Option.bind_eq_some_iff.mp H
  obtain ⟨⟨t234, t235⟩, A30, H⟩ := H
  try dsimp only at H
  have A3 := Aside0.mk A30
  clear A30
  replace H := Option.bind_eq_some_iff.mp H
  obtain ⟨⟨t238, t239⟩, A40, H⟩ := H
  try dsimp only at H
  have A4 := Aside0.mk A40
  clear A40
  have HC5 := Aside0.mk H
  clear H
  go_enter Try.func101, Try.ntmps101
  go_upto_region 3 with (first|((with_reducible refine gate_callee (f := 99) rfl ?_); refine goesL_ (some 13) rfl rfl Try.func99 (by kernel_rfl) rfl #[.slice A0 l0.length c0] rfl (by (try simp only [List.map_toArray, List.map_cons, List.map_nil]); first | done | rfl|(simp only [List.length_drop, List.length_take]; rfl)) ?_; (with_reducible refine (impl_readArea.calls k _ _ l0 t234 t235 _ ?side1 ?side2 A3.out).mono ?_);(case side1 => repeat (first|exact HR0.out|(with_reducible refine Kd.C_alloc ?_ _)|(with_reducible refine Kd.C_drewN ?_ _)|(with_reducible refine Kd.C_drew ?_)));(case side2 => exact HC0.out); rintro e w6 ⟨v236, rfl, ho0, hb⟩; refine ⟨_, rfl, ?_⟩; have n0_ := Aside0.mk (Kd.R_lower ho0 (below_size (by repeat (first|(with_reducible first|exact HB.out|apply below_alloc|apply pw_below_drewN|apply below_drew1)|exact HB.out)))); have n1_ := Aside0.mk (below_step (by repeat (first|(with_reducible first|exact HB.out|apply below_alloc|apply pw_below_drewN|apply below_drew1)|exact HB.out)) hb); clear HB; have HO237 := n0_; have HB := n1_; clear n0_ n1_; (try clear hb); (try clear hb2); (try clear hk); (try clear hi); (try clear ho0))|((with_reducible refine gate_callee (f := 99) rfl ?_); refine goesL_ (some 18) rfl rfl Try.func99 (by kernel_rfl) rfl #[.slice A1 l1.length c1] rfl (by (try simp only [List.map_toArray, List.map_cons, List.map_nil]); first | done | rfl|(simp only [List.length_drop, List.length_take]; rfl)) ?_; (with_reducible refine (impl_readArea.calls k _ _ l1 t238 t239 _ ?side1 ?side2 A4.out).mono ?_);(case side1 => repeat (first|exact (Kd.C_below HR1.out HB.out)|(with_reducible refine Kd.C_alloc ?_ _)|(with_reducible refine Kd.C_drewN ?_ _)|(with_reducible refine Kd.C_drew ?_)));(case side2 => exact HC1.out); rintro e w7 ⟨v240, rfl, ho0, hb⟩; refine ⟨_, rfl, ?_⟩; have n0_ := Aside0.mk (Kd.R_elder' (by (with_reducible repeat (first|apply Kd.R_alloc|apply Kd.R_drewN|apply Kd.R_drew)); exact HO237.out) (Kd.R_base ho0) hb); have n1_ := Aside0.mk (Kd.R_lower (Kd.R_new' ho0 (Kd.R_lt (by (with_reducible repeat (first|apply Kd.R_alloc|apply Kd.R_drewN|apply Kd.R_drew)); exact HO237.out))) (below_size (by repeat (first|(with_reducible first|exact HB.out|apply below_alloc|apply pw_below_drewN|apply below_drew1)|exact HB.out)))); have n2_ := Aside0.mk (below_step (by repeat (first|(with_reducible first|exact HB.out|apply below_alloc|apply pw_below_drewN|apply below_drew1)|exact HB.out)) hb); clear HO237; clear HB; have HO237 := n0_; have HO241 := n1_; have HB := n2_; clear n0_ n1_ n2_; (try clear hb); (try clear hb2); (try clear hk); (try clear hi); (try clear ho0)))
  (try simp only [Act.put, List.setIfInBounds_toArray, List.set_cons_zero, List.set_cons_succ])
  go_cut [21] (fun v21 wc => ∃ (kq : Nat) (x21_4 : Bool), v21 = .bool x21_4 ∧ Aside0 (impl_newest.j0 kq t234 t235 t238 t239 x21_4 = some (r1, r2, r3)) ∧ Aside0 (kq ≤ k) ∧ Aside0 (Kd.R (Kd.int .i64) 3 wc w.heap.size (fun k_ => some k_ ≠ (v240 : Value).ownBlock) v236 t235) ∧ Aside0 (Kd.R (Kd.int .i64) 3 wc w.heap.size (fun k_ => some k_ ≠ (v236 : Value).ownBlock) v240 t239) ∧ Aside0 (Below w.heap.size w wc))
  case first =>
    have H := HC5.out
    clear HC5
    by_cases c8 : t234 = 0
    · rw [if_pos c8] at H
      have c8b0 : (t234 == 0) = true := beq_iff_eq.mpr c8
      have c8b1 : (t234 != 0) = false := bne_eq_false_iff_eq.mpr c8
      clear c8
      (first|rw [c8b0]|(simp only [i64_w, i32_w]; rw [c8b0]) | skip)
      have H' := Aside0.mk H
      clear H
      go_wp2
      go_meet
      case rel => exact ⟨_, ((t238 == 0)), (by first | rfl|(simp;done)|(simp [*];done)), H', ⟨by first | omega|exact Nat.le_refl _⟩, ⟨by (with_reducible repeat (first|apply Kd.R_alloc|apply Kd.R_drewN|apply Kd.R_drew)); exact Kd.R_mono HO237.out (fun _ hk => hk.2)⟩, ⟨by (with_reducible repeat (first|apply Kd.R_alloc|apply Kd.R_drewN|apply Kd.R_drew)); exact Kd.R_mono HO241.out (fun _ hk => hk.2)⟩, ⟨by repeat (first|(with_reducible first|exact HB.out|apply below_alloc|apply pw_below_drewN|apply below_drew1)|exact HB.out)⟩⟩
    · rw [if_neg c8] at H
      have c8b0 : (t234 == 0) = false := beq_eq_false_iff_ne.mpr c8
      have c8b1 : (t234 != 0) = true := bne_iff_ne.mpr c8
      (first|rw [c8b0]|(simp only [i64_w, i32_w]; rw [c8b0]) | skip)
      have H' := Aside0.mk H
      clear H
      go_wp2
      go_meet
      case rel => exact ⟨_, (false), (by first | rfl|(simp;done)|(simp [*];done)), H', ⟨by first | omega|exact Nat.le_refl _⟩, ⟨by (with_reducible repeat (first|apply Kd.R_alloc|apply Kd.R_drewN|apply Kd.R_drew)); exact Kd.R_mono HO237.out (fun _ hk => hk.2)⟩, ⟨by (with_reducible repeat (first|apply Kd.R_alloc|apply Kd.R_drewN|apply Kd.R_drew)); exact Kd.R_mono HO241.out (fun _ hk => hk.2)⟩, ⟨by repeat (first|(with_reducible first|exact HB.out|apply below_alloc|apply pw_below_drewN|apply below_drew1)|exact HB.out)⟩⟩
  case rest =>
    clear HC5
    try clear c1
    try clear p2
    try clear c8
    try clear c8b0
    try clear c8b1
    obtain ⟨kq, x21_4, rfl, HA, HJ4, HO_8, HO_10, HB⟩ := hcut
    cases kq with
    | zero => exact absurd HA.out (by simp [impl_newest.j0])
    | succ kj4 =>
      have H := HA.out
      clear HA
      simp only [impl_newest.j0] at H
      by_cases c9 : x21_4 = true
      · subst c9
        have H1 : (some ((-1), 0, ([] : List Int))) = some (r1, r2, r3) := by rw [if_pos rfl] at H; exact H
        clear H
        have H := H1
        clear H1
        simp only [Option.some.injEq, Prod.mk.injEq] at H
        obtain ⟨rfl, rfl, rfl⟩ := H
        go_wp2
        go_ret3
        exact ⟨_, by first | rfl|(simp [errW_none, errW_some] <;> rfl)|(simp [*, errW_none, errW_some] <;> rfl), by first|exact Kd.R_nil _ _ _ _ _|exact Kd.N_nil _ _ _ _ _|exact Kd.V_nil _ _ _ _ _|exact Kd.Q_nil _ _ _ _ _|exact Kd.S_nil _ _ _ _ _, by repeat (first|(with_reducible first|exact HB.out|apply below_alloc|apply pw_below_drewN|apply below_drew1)|exact HB.out)⟩
      · replace c9 := Bool.eq_false_iff.mpr c9
        subst c9
        have H1 : (if t234 ≥ t238 then (some (0, t234, t235)) else (some (1, t238, t239))) = some (r1, r2, r3) := by rw [if_neg (show ¬ (false = true) by decide)] at H; exact H
        clear H
        have H := H1
        clear H1
        by_cases c10 : t234 ≥ t238
        · rw [if_pos c10] at H
          have c10b0 : decide (t238 ≤ t234) = true := decide_eq_true c10
          clear c10
          simp only [Option.some.injEq, Prod.mk.injEq] at H
          obtain ⟨rfl, rfl, rfl⟩ := H
          go_wp2
          go_ret3
          exact ⟨_, by first | rfl|(simp [errW_none, errW_some] <;> rfl)|(simp [*, errW_none, errW_some] <;> rfl), by (with_reducible repeat (first|apply Kd.R_alloc|apply Kd.R_drewN|apply Kd.R_drew)); exact Kd.R_mono HO_8.out (fun _ hk => trivial), by repeat (first|(with_reducible first|exact HB.out|apply below_alloc|apply pw_below_drewN|apply below_drew1)|exact HB.out)⟩
        · rw [if_neg c10] at H
          have c10b0 : decide (t238 ≤ t234) = false := decide_eq_false c10
          clear c10
          simp only [Option.some.injEq, Prod.mk.injEq] at H
          obtain ⟨rfl, rfl, rfl⟩ := H
          go_wp2
          go_ret3
          exact ⟨_, by first | rfl|(simp [errW_none, errW_some] <;> rfl)|(simp [*, errW_none, errW_some] <;> rfl), by (with_reducible repeat (first|apply Kd.R_alloc|apply Kd.R_drewN|apply Kd.R_drew)); exact Kd.R_mono HO_10.out (fun _ hk => trivial), by repeat (first|(with_reducible first|exact HB.out|apply below_alloc|apply pw_below_drewN|apply below_drew1)|exact HB.out)⟩

/-! ### impl_writeSteps: function 91 (by hand: copies of both areas, one of them written step by step) -/
def impl_writeSteps.steps : Nat → List Int → List Int → Int → Int → Option (List Int)
  | 0, _, _, _, _ => none
  | k + 1, x, nx, n, i => if i < n then (if 0 ≤ i then (if i = 0 then (impl_writeSteps.steps k (x.set 0 0) nx n (wrap64 (i + 1))) else (if i < 15 then (impl_writeSteps.steps k (x.set i.toNat (rd nx i)) nx n (wrap64 (i + 1))) else (impl_writeSteps.steps k (x.set 0 (rd nx 0)) nx n (wrap64 (i + 1))))) else none) else (some x)
def impl_writeSteps.f (k : Nat) (l0 : List Int) (l1 : List Int) (l2 : List Int) (a3 : Int) : Option (List Int × List Int × Bool) := (impl_newest.f k l0 l1).bind fun t => (if t.2.1 = 999 then (some ([], [], false)) else (if l0.length = 15 then (if l1.length = 15 then ((impl_areaOf.f (wrap64 (t.2.1 + 1)) l2).bind fun nx => (if t.1 = 0 then ((impl_writeSteps.steps k l1 nx a3 0).bind fun o => (some (l0, o, true))) else ((impl_writeSteps.steps k l0 nx a3 0).bind fun o => (some (o, l1, true))))) else none) else none))
theorem impl_writeSteps.mono_l : ∀ k, (∀ y0 y1 y2 y3, LeO (impl_writeSteps.steps k y0 y1 y2 y3) (impl_writeSteps.steps (k + 1) y0 y1 y2 y3))
  | 0 => fun _ _ _ _ r h => by simp [impl_writeSteps.steps] at h
  | k + 1 => by
    have ih0 := impl_writeSteps.mono_l k
    · intro y0 y1 y2 y3
      unfold impl_writeSteps.steps
      repeat' first
     |(with_reducible exact ih0 _ _ _ _)
     |(with_reducible exact LeO.refl _)
     |(with_reducible exact LeO.none _)
     |(with_reducible refine LeO.ite ?_ ?_)
theorem impl_writeSteps.mono : ∀ a0 a1 a2 a3 k, LeO (impl_writeSteps.f k a0 a1 a2 a3) (impl_writeSteps.f (k + 1) a0 a1 a2 a3) := by
  intro a0 a1 a2 a3 k
  have ih0 := impl_writeSteps.mono_l k
  unfold impl_writeSteps.f
  repeat' first
     |(with_reducible exact ih0 _ _ _ _)
     |(with_reducible exact impl_newest.mono _ _ _)
     |(with_reducible exact LeO.refl _)
     |(with_reducible exact LeO.none _)
     |(with_reducible refine LeO.ite ?_ ?_)
     |(with_reducible refine LeO.bind ?_ (fun _ => ?_))
theorem impl_writeSteps.len15 (a : Int) (l r : List Int) (h : impl_areaOf.f a l = some r) : r.length = 15 := by
  unfold impl_areaOf.f at h
  by_cases c : l.length ≤ 12
  · rw [if_pos c] at h
    obtain rfl := Option.some.inj h
    simp [impl_areaOf.body]; omega
  · rw [if_neg c] at h; cases h
set_option maxHeartbeats 4000000 in
set_option maxRecDepth 100000 in
theorem impl_writeSteps.calls (k : Nat) (A0 : Option Addr) (c0 : Nat) (l0 : List Int) (A1 : Option Addr) (c1 : Nat) (l1 : List Int) (A2 : Option Addr) (c2 : Nat) (l2 : List Int) (a3 : Int) (r1 : List Int) (r2 : List Int) (r3 : Bool) (w : World) (hr0 : Kd.C (Kd.int .i64) w A0 l0.length l0) (hc0 : l0.length ≤ c0) (hr1 : Kd.C (Kd.int .i64) w A1 l1.length l1) (hc1 : l1.length ≤ c1) (hr2 : Kd.C (Kd.int .i64) w A2 l2.length l2) (hc2 : l2.length ≤ c2) (h : impl_writeSteps.f k l0 l1 l2 a3 = some (r1, r2, r3)) :
    Calls Try.prog 91 #[.slice A0 l0.length c0, .slice A1 l1.length c1, .slice A2 l2.length c2, .int .i64 a3] w fun e w' => ∃ v0_ v1_ : Value, e = .returned (.tuple #[v0_, v1_, .bool r3]) ∧ Kd.R (Kd.int .i64) 3 w' w.heap.size (fun k_ => some k_ ≠ (v1_ : Value).ownBlock) v0_ r1 ∧ Kd.R (Kd.int .i64) 3 w' w.heap.size (fun k_ => some k_ ≠ (v0_ : Value).ownBlock) v1_ r2 ∧ Below w.heap.size w w' := by
  have HR0 := Aside0.mk hr0
  have HC0 := Aside0.mk hc0
  have HR1 := Aside0.mk hr1
  have HC1 := Aside0.mk hc1
  have HR2 := Aside0.mk hr2
  have HC2 := Aside0.mk hc2
  clear hr0 hc0 hr1 hc1 hr2 hc2
  have H := Option.bind_eq_some_iff.mp h
  clear h
  obtain ⟨⟨t1, t2, t3⟩, a1, H⟩ := H
  have A1_ := Aside0.mk a1
  clear a1
  dsimp only at H
  by_cases c9 : t2 = 999
  · rw [if_pos c9] at H
    simp only [Option.some.injEq, Prod.mk.injEq] at H
    obtain ⟨rfl, rfl, rfl⟩ := H
    have c9b : (t2 == 999) = true := beq_iff_eq.mpr c9
    clear c9
    go_enter Try.func91, Try.ntmps91
    go_wp2_with (go_at_call 101; refine (impl_newest.calls k A0 c0 l0 A1 c1 l1 t1 t2 t3 _ HR0.out HC0.out HR1.out HC1.out A1_.out).mono ?_; rintro e w1 ⟨v1, rfl, ho, hb⟩; have HB1 := Aside0.mk hb; clear ho hb)
    go_ret3
    exact ⟨_, _, rfl, Kd.R_nil _ _ _ _ _, Kd.R_nil _ _ _ _ _, HB1.out⟩
  · rw [if_neg c9] at H
    have c9b : (t2 == 999) = false := beq_eq_false_iff_ne.mpr c9
    clear c9
    by_cases h0 : l0.length = 15
    · rw [if_pos h0] at H
      by_cases h1 : l1.length = 15
      · rw [if_pos h1] at H
        replace H := Option.bind_eq_some_iff.mp H
        obtain ⟨nx, a2, H⟩ := H
        have hn := impl_writeSteps.len15 _ _ _ a2
        have hcl0 : slices_Clone_int_int.f l0 = some l0 := if_pos (by omega)
        have hcl1 : slices_Clone_int_int.f l1 = some l1 := if_pos (by omega)
        have A2_ := Aside0.mk a2
        have CL0 := Aside0.mk hcl0
        have CL1 := Aside0.mk hcl1
        have H0 := Aside0.mk h0
        have H1 := Aside0.mk h1
        have HN := Aside0.mk hn
        clear a2 hcl0 hcl1 h0 h1 hn
        by_cases c0_ : t1 = 0
        · rw [if_pos c0_] at H
          have c0b : (t1 == 0) = true := beq_iff_eq.mpr c0_
          clear c0_
          replace H := Option.bind_eq_some_iff.mp H
          obtain ⟨o, a4, H⟩ := H
          simp only [Option.some.injEq, Prod.mk.injEq] at H
          obtain ⟨rfl, rfl, rfl⟩ := H
          have A4 := Aside0.mk a4
          clear a4
          go_enter Try.func91, Try.ntmps91
          go_wp2_with (first
           |(go_at_call 101; refine (impl_newest.calls k A0 c0 l0 A1 c1 l1 t1 t2 t3 _ HR0.out HC0.out HR1.out HC1.out A1_.out).mono ?_; rintro e w1 ⟨v1, rfl, ho, hb⟩; have HB1 := Aside0.mk hb; clear ho hb)
           |(go_at_call 95; (with_reducible refine (slices_Clone_int_int.calls A0 c0 l0 l0 _ ?s1 HC0.out CL0.out).mono ?_);(case s1 => exact Kd.C_below HR0.out HB1.out); rintro e w2 ⟨v2, rfl, ho, hb⟩; obtain ⟨Aa, ca, ea⟩ := Kd.R_slice ho; subst ea; have HO2 := Aside0.mk ho; have HB2 := Aside0.mk (below_step HB1.out hb); have GE2 := Aside0.mk (show w.heap.size ≤ w1.heap.size from HB1.out.size); clear ho hb)
           |(go_at_call 95; (with_reducible refine (slices_Clone_int_int.calls A1 c1 l1 l1 _ ?s1 HC1.out CL1.out).mono ?_);(case s1 => exact Kd.C_below HR1.out HB2.out); rintro e w3 ⟨v3, rfl, ho, hb⟩; obtain ⟨Ab, cb, eb⟩ := Kd.R_slice ho; subst eb; have HO3a := Aside0.mk (Kd.R_lower (Kd.R_elder' HO2.out (Kd.R_base ho) hb) GE2.out); have HO3b := Aside0.mk (Kd.R_lower (Kd.R_new' ho (Kd.R_lt HO2.out)) HB2.out.size); have HB3 := Aside0.mk (below_step HB2.out hb); clear ho hb HO2)
           |((with_reducible refine gate_dst (N := 31) rfl ?_); refine Kd.R_lit (Kd.raw 1) _ 37 ?hg (N := 31) ?hd (xs := ([[.slice Aa l0.length ca], [.slice Ab l1.length cb]] : List (List Value))) (inner := [.slice Aa l0.length ca, .slice Ab l1.length cb]) (ok := fun _ => True) (okp := fun _ => True) ?hr ?hp (fun _ hk => hk) trivial (Below.refl _ _) (Nat.le_refl _) (by simp) ?_;(case hd => rfl);(case hg => rfl);(case hr => first|(go_simp;done)|(go_simp; rfl));(case hp => exact Reps.one ⟨rfl, rfl, by intro u hu; rw [List.mem_singleton.1 hu]; rfl⟩ (Reps.one ⟨rfl, rfl, by intro u hu; rw [List.mem_singleton.1 hu]; rfl⟩ (Reps.none _ _))); intro v4 w4 ho4 hb hg_ hnew_; clear hg_ hnew_; obtain ⟨gl, cl, el, hgl, hgl2, _⟩ := Kd.R_form ho4 (by simp); subst el; obtain ⟨q0, _, hM0, hq0, _⟩ := Kd.R_elem ho4 [] 0 (by omega) (by simp); obtain ⟨q1, _, hM1, hq1, _⟩ := Kd.R_elem ho4 [] 1 (by omega) (by simp); obtain ⟨rfl, _, _⟩ := hM0; obtain ⟨rfl, _, _⟩ := hM1; have hl0 : w4.cell? ⟨gl, 0, none⟩ = some (.slice Aa l0.length ca) := hq0 0 _ rfl; have hl1 : w4.cell? ⟨gl, 1, none⟩ = some (.slice Ab l1.length cb) := hq1 0 _ rfl; have HL := Aside0.mk (And.intro hl0 hl1); have GL := Aside0.mk hgl; have GL2 := Aside0.mk hgl2; have HO4a := Aside0.mk (Kd.R_below HO3a.out hb); have HO4b := Aside0.mk (Kd.R_below HO3b.out hb); have LTa := Aside0.mk (Kd.R_lt HO3a.out); have LTb := Aside0.mk (Kd.R_lt HO3b.out); have HB4 := Aside0.mk (below_step HB3.out hb); clear HO3a HO3b ho4 hb hq0 hq1 hgl hgl2)
           |(go_at_call 85; (with_reducible refine (impl_areaOf.calls (wrap64 (t2 + 1)) A2 c2 l2 nx _ ?s1 HC2.out A2_.out).mono ?_);(case s1 => exact Kd.C_below HR2.out HB4.out); rintro e w5 ⟨v5, rfl, ho, hb⟩; obtain ⟨An, cn, en⟩ := Kd.R_slice ho; subst en; have HO5a := Aside0.mk (Kd.R_elder' HO4a.out (Kd.R_base ho) hb); have HO5b := Aside0.mk (Kd.R_elder' HO4b.out (Kd.R_base ho) hb); have HO5n := Aside0.mk (Kd.R_lower (Kd.R_new' (Kd.R_new' ho (Kd.R_lt HO4a.out)) (Kd.R_lt HO4b.out)) HB4.out.size); have HL5 := Aside0.mk (And.intro (pw_cell_below hb HL.out.1) (pw_cell_below hb HL.out.2)); have HB5 := Aside0.mk (below_step HB4.out hb); clear ho hb HO4a HO4b))
          obtain ⟨gT, cT, eT, _, _, _⟩ := Kd.R_form HO5b.out (by have := H1.out; omega)
          obtain ⟨rfl, rfl⟩ : Ab = some ⟨gT, 0, none⟩ ∧ cb = cT := by injection eT with e1 e2 e3; exact ⟨e1, e3⟩
          clear eT
          obtain ⟨gN, cN, eN, _, _, _⟩ := Kd.R_form HO5n.out (by have := HN.out; omega)
          obtain ⟨rfl, rfl⟩ : An = some ⟨gN, 0, none⟩ ∧ cn = cN := by injection eN with e1 e2 e3; exact ⟨e1, e3⟩
          clear eN
          have NE : Aside0 (gl ≠ gT) := ⟨by have h1 := LTb.out gT rfl; have h2 := GL.out; omega⟩
          have GT : Aside0 (w.heap.size ≤ gT) := ⟨Kd.R_base HO5b.out gT rfl⟩
          have HT := Aside0.mk (Kd.R_mono (ok' := fun _ => True) HO5b.out (fun _ _ => trivial))
          have HO := Aside0.mk (Kd.R_mono (ok' := fun k_ => k_ ≠ gT) HO5a.out (fun k_ hk e_ => hk.1.2 (by rw [e_]; rfl)))
          have HX := Aside0.mk (Kd.R_mono (ok' := fun k_ => k_ ≠ gT) HO5n.out (fun k_ hk e_ => hk.2 (by rw [e_]; rfl)))
          clear HO5a HO5b HO5n HL
          go_loopg [45] k (fun kq v45 wr => ∃ (x : List Int) (xi : Int), v45 = .int .i64 xi ∧ Aside0 (x.length = 15) ∧ Aside0 (impl_writeSteps.steps kq x nx a3 xi = some o) ∧ Aside0 (kq ≤ k) ∧ Aside0 (Kd.R (Kd.int .i64) 3 wr w.heap.size (fun _ => True) (.slice (some ⟨gT, 0, none⟩) l1.length cb) x) ∧ Aside0 (Kd.R (Kd.int .i64) 3 wr w.heap.size (fun k_ => k_ ≠ gT) (.slice Aa l0.length ca) l0) ∧ Aside0 (Kd.R (Kd.int .i64) 3 wr w.heap.size (fun k_ => k_ ≠ gT) (.slice (some ⟨gN, 0, none⟩) nx.length cn) nx) ∧ Aside0 (wr.cell? ⟨gl, 0, none⟩ = some (.slice Aa l0.length ca) ∧ wr.cell? ⟨gl, 1, none⟩ = some (.slice (some ⟨gT, 0, none⟩) l1.length cb)) ∧ Aside0 (Below w.heap.size w wr))
          case atStart => exact ⟨l1, 0, (by first | rfl|(simp;done)|(simp [*];done)), H1, A4, ⟨Nat.le_refl _⟩, HT, HO, HX, HL5, HB5⟩
          case round =>
            clear A4 HT HO HX HL5 HB5
            try clear p2
            obtain ⟨x, xi, rfl, HXL, HA, HK1, HT, HO, HX, HL, HB⟩ := hrel
            cases gk with
            | zero => exact absurd HA.out (by simp [impl_writeSteps.steps])
            | succ k1 =>
              have H := HA.out
              clear HA
              simp only [impl_writeSteps.steps] at H
              by_cases c4 : xi < a3
              · rw [if_pos c4] at H
                have c4b : decide (xi < a3) = true := decide_eq_true c4
                clear c4
                by_cases c5 : 0 ≤ xi
                · rw [if_pos c5] at H
                  by_cases c6 : xi = 0
                  · rw [if_pos c6] at H
                    subst c6
                    have H' := Aside0.mk H
                    clear H
                    obtain ⟨hx0, hf0⟩ := Kd.R_celln 0 HT.out (0 : Int) (by omega) (by have := H1.out; omega)
                    have hx1 : wr.cell? ⟨gT, 0, none⟩ = some (.int .i64 (rd x 0)) := hx0
                    have hf1 : wr.frozen? ⟨gT, 0, none⟩ = false := hf0
                    clear hx0 hf0
                    have q1 : (0 : Int) < (l1.length : Int) := by have := H1.out; omega
                    have q2 := eq_true q1
                    go_wp2
                    go_roundg k1
                    case measure => have := HK1.out; omega
                    case rel => exact ⟨x.set 0 0, wrap64 (0 + 1), (by first | rfl|(simp;done)|(simp [*];done)|(simp; unfold wrap64; omega)), ⟨by rw [List.length_set]; exact HXL.out⟩, H', ⟨by have := HK1.out; omega⟩, ⟨(Kd.R_putg HT.out (0 : Int) 0).1⟩, ⟨Kd.R_far (p := ⟨gT, 0, none⟩) HO.out (fun _ hk => hk) _⟩, ⟨Kd.R_far (p := ⟨gT, 0, none⟩) HX.out (fun _ hk => hk) _⟩, ⟨(World.cell?_of_block (Below.heap_setCell wr ⟨gT, 0, none⟩ _ gl NE.out)).trans HL.out.1, (World.cell?_of_block (Below.heap_setCell wr ⟨gT, 0, none⟩ _ gl NE.out)).trans HL.out.2⟩, ⟨below_set HB.out GT.out⟩⟩
                  · rw [if_neg c6] at H
                    have c6b : (xi == 0) = false := beq_eq_false_iff_ne.mpr c6
                    clear c6
                    by_cases c7 : xi < 15
                    · rw [if_pos c7] at H
                      have H' := Aside0.mk H
                      clear H
                      have q1 : xi < (l1.length : Int) := by have := H1.out; omega
                      have q3 : xi < (nx.length : Int) := by have := HN.out; omega
                      obtain ⟨hx1, hf1⟩ := Kd.R_celln 0 HT.out xi c5 q1
                      obtain ⟨hn1, _⟩ := Kd.R_celln 0 HX.out xi c5 q3
                      have c7b : decide (xi < 15) = true := decide_eq_true c7
                      have q2 := eq_true q1
                      have q4 := eq_true q3
                      have q5 := eq_true c5
                      go_wp2
                      go_roundg k1
                      case measure => have := HK1.out; omega
                      case rel => exact ⟨x.set xi.toNat (rd nx xi), wrap64 (xi + 1), (by first | rfl|(simp;done)|(simp [*];done)|(simp; unfold wrap64; omega)), ⟨by rw [List.length_set]; exact HXL.out⟩, H', ⟨by have := HK1.out; omega⟩, ⟨(Kd.R_putg HT.out xi (rd nx xi)).1⟩, ⟨Kd.R_far (p := ⟨gT, xi.toNat, none⟩) HO.out (fun _ hk => hk) _⟩, ⟨Kd.R_far (p := ⟨gT, xi.toNat, none⟩) HX.out (fun _ hk => hk) _⟩, ⟨(World.cell?_of_block (Below.heap_setCell wr ⟨gT, xi.toNat, none⟩ _ gl NE.out)).trans HL.out.1, (World.cell?_of_block (Below.heap_setCell wr ⟨gT, xi.toNat, none⟩ _ gl NE.out)).trans HL.out.2⟩, ⟨below_set HB.out GT.out⟩⟩
                    · rw [if_neg c7] at H
                      have H' := Aside0.mk H
                      clear H
                      have c7b : decide (xi < 15) = false := decide_eq_false c7
                      clear c7
                      have q1 : (0 : Int) < (l1.length : Int) := by have := H1.out; omega
                      have q3 : (0 : Int) < (nx.length : Int) := by have := HN.out; omega
                      obtain ⟨hx0, hf0⟩ := Kd.R_celln 0 HT.out (0 : Int) (by omega) q1
                      obtain ⟨hn0, _⟩ := Kd.R_celln 0 HX.out (0 : Int) (by omega) q3
                      have hx1 : wr.cell? ⟨gT, 0, none⟩ = some (.int .i64 (rd x 0)) := hx0
                      have hf1 : wr.frozen? ⟨gT, 0, none⟩ = false := hf0
                      have hn1 : wr.cell? ⟨gN, 0, none⟩ = some (.int .i64 (rd nx 0)) := hn0
                      clear hx0 hf0 hn0
                      have q2 := eq_true q1
                      have q4 := eq_true q3
                      go_wp2
                      go_roundg k1
                      case measure => have := HK1.out; omega
                      case rel => exact ⟨x.set 0 (rd nx 0), wrap64 (xi + 1), (by first | rfl|(simp;done)|(simp [*];done)|(simp; unfold wrap64; omega)), ⟨by rw [List.length_set]; exact HXL.out⟩, H', ⟨by have := HK1.out; omega⟩, ⟨(Kd.R_putg HT.out (0 : Int) (rd nx 0)).1⟩, ⟨Kd.R_far (p := ⟨gT, 0, none⟩) HO.out (fun _ hk => hk) _⟩, ⟨Kd.R_far (p := ⟨gT, 0, none⟩) HX.out (fun _ hk => hk) _⟩, ⟨(World.cell?_of_block (Below.heap_setCell wr ⟨gT, 0, none⟩ _ gl NE.out)).trans HL.out.1, (World.cell?_of_block (Below.heap_setCell wr ⟨gT, 0, none⟩ _ gl NE.out)).trans HL.out.2⟩, ⟨below_set HB.out GT.out⟩⟩
                · rw [if_neg c5] at H
                  exact absurd H (by simp)
              · rw [if_neg c4] at H
                have c4b : decide (xi < a3) = false := decide_eq_false c4
                clear c4
                obtain rfl := Option.some.inj H
                clear H
                obtain ⟨hl0, hl1⟩ := HL.out
                go_wp2
                go_quiet (fail)
                go_wp2
                go_ret3
                exact ⟨_, _, rfl, Kd.R_drewN (Kd.R_mono (ok' := fun k_ => some k_ ≠ (.slice (some ⟨gT, 0, none⟩) l1.length cb : Value).ownBlock) HO.out (fun k_ hk e_ => hk (Option.some.inj e_))) _, Kd.R_drewN (Kd.R_mono (ok' := fun k_ => some k_ ≠ (.slice Aa l0.length ca : Value).ownBlock) (Kd.R_tight rfl HT.out) (fun k_ hk e_ => HO.out.1 k_ (Eq.symm e_) (Option.some.inj hk))) _, by repeat (first|(with_reducible first|exact HB.out|apply below_alloc|apply pw_below_drewN|apply below_drew1)|exact HB.out)⟩
        · rw [if_neg c0_] at H
          have c0b : (t1 == 0) = false := beq_eq_false_iff_ne.mpr c0_
          clear c0_
          replace H := Option.bind_eq_some_iff.mp H
          obtain ⟨o, a4, H⟩ := H
          simp only [Option.some.injEq, Prod.mk.injEq] at H
          obtain ⟨rfl, rfl, rfl⟩ := H
          have A4 := Aside0.mk a4
          clear a4
          go_enter Try.func91, Try.ntmps91
          go_wp2_with (first
           |(go_at_call 101; refine (impl_newest.calls k A0 c0 l0 A1 c1 l1 t1 t2 t3 _ HR0.out HC0.out HR1.out HC1.out A1_.out).mono ?_; rintro e w1 ⟨v1, rfl, ho, hb⟩; have HB1 := Aside0.mk hb; clear ho hb)
           |(go_at_call 95; (with_reducible refine (slices_Clone_int_int.calls A0 c0 l0 l0 _ ?s1 HC0.out CL0.out).mono ?_);(case s1 => exact Kd.C_below HR0.out HB1.out); rintro e w2 ⟨v2, rfl, ho, hb⟩; obtain ⟨Aa, ca, ea⟩ := Kd.R_slice ho; subst ea; have HO2 := Aside0.mk ho; have HB2 := Aside0.mk (below_step HB1.out hb); have GE2 := Aside0.mk (show w.heap.size ≤ w1.heap.size from HB1.out.size); clear ho hb)
           |(go_at_call 95; (with_reducible refine (slices_Clone_int_int.calls A1 c1 l1 l1 _ ?s1 HC1.out CL1.out).mono ?_);(case s1 => exact Kd.C_below HR1.out HB2.out); rintro e w3 ⟨v3, rfl, ho, hb⟩; obtain ⟨Ab, cb, eb⟩ := Kd.R_slice ho; subst eb; have HO3a := Aside0.mk (Kd.R_lower (Kd.R_elder' HO2.out (Kd.R_base ho) hb) GE2.out); have HO3b := Aside0.mk (Kd.R_lower (Kd.R_new' ho (Kd.R_lt HO2.out)) HB2.out.size); have HB3 := Aside0.mk (below_step HB2.out hb); clear ho hb HO2)
           |((with_reducible refine gate_dst (N := 31) rfl ?_); refine Kd.R_lit (Kd.raw 1) _ 37 ?hg (N := 31) ?hd (xs := ([[.slice Aa l0.length ca], [.slice Ab l1.length cb]] : List (List Value))) (inner := [.slice Aa l0.length ca, .slice Ab l1.length cb]) (ok := fun _ => True) (okp := fun _ => True) ?hr ?hp (fun _ hk => hk) trivial (Below.refl _ _) (Nat.le_refl _) (by simp) ?_;(case hd => rfl);(case hg => rfl);(case hr => first|(go_simp;done)|(go_simp; rfl));(case hp => exact Reps.one ⟨rfl, rfl, by intro u hu; rw [List.mem_singleton.1 hu]; rfl⟩ (Reps.one ⟨rfl, rfl, by intro u hu; rw [List.mem_singleton.1 hu]; rfl⟩ (Reps.none _ _))); intro v4 w4 ho4 hb hg_ hnew_; clear hg_ hnew_; obtain ⟨gl, cl, el, hgl, hgl2, _⟩ := Kd.R_form ho4 (by simp); subst el; obtain ⟨q0, _, hM0, hq0, _⟩ := Kd.R_elem ho4 [] 0 (by omega) (by simp); obtain ⟨q1, _, hM1, hq1, _⟩ := Kd.R_elem ho4 [] 1 (by omega) (by simp); obtain ⟨rfl, _, _⟩ := hM0; obtain ⟨rfl, _, _⟩ := hM1; have hl0 : w4.cell? ⟨gl, 0, none⟩ = some (.slice Aa l0.length ca) := hq0 0 _ rfl; have hl1 : w4.cell? ⟨gl, 1, none⟩ = some (.slice Ab l1.length cb) := hq1 0 _ rfl; have HL := Aside0.mk (And.intro hl0 hl1); have GL := Aside0.mk hgl; have GL2 := Aside0.mk hgl2; have HO4a := Aside0.mk (Kd.R_below HO3a.out hb); have HO4b := Aside0.mk (Kd.R_below HO3b.out hb); have LTa := Aside0.mk (Kd.R_lt HO3a.out); have LTb := Aside0.mk (Kd.R_lt HO3b.out); have HB4 := Aside0.mk (below_step HB3.out hb); clear HO3a HO3b ho4 hb hq0 hq1 hgl hgl2)
           |(go_at_call 85; (with_reducible refine (impl_areaOf.calls (wrap64 (t2 + 1)) A2 c2 l2 nx _ ?s1 HC2.out A2_.out).mono ?_);(case s1 => exact Kd.C_below HR2.out HB4.out); rintro e w5 ⟨v5, rfl, ho, hb⟩; obtain ⟨An, cn, en⟩ := Kd.R_slice ho; subst en; have HO5a := Aside0.mk (Kd.R_elder' HO4a.out (Kd.R_base ho) hb); have HO5b := Aside0.mk (Kd.R_elder' HO4b.out (Kd.R_base ho) hb); have HO5n := Aside0.mk (Kd.R_lower (Kd.R_new' (Kd.R_new' ho (Kd.R_lt HO4a.out)) (Kd.R_lt HO4b.out)) HB4.out.size); have HL5 := Aside0.mk (And.intro (pw_cell_below hb HL.out.1) (pw_cell_below hb HL.out.2)); have HB5 := Aside0.mk (below_step HB4.out hb); clear ho hb HO4a HO4b))
          obtain ⟨gT, cT, eT, _, _, _⟩ := Kd.R_form HO5a.out (by have := H0.out; omega)
          obtain ⟨rfl, rfl⟩ : Aa = some ⟨gT, 0, none⟩ ∧ ca = cT := by injection eT with e1 e2 e3; exact ⟨e1, e3⟩
          clear eT
          obtain ⟨gN, cN, eN, _, _, _⟩ := Kd.R_form HO5n.out (by have := HN.out; omega)
          obtain ⟨rfl, rfl⟩ : An = some ⟨gN, 0, none⟩ ∧ cn = cN := by injection eN with e1 e2 e3; exact ⟨e1, e3⟩
          clear eN
          have NE : Aside0 (gl ≠ gT) := ⟨by have h1 := LTa.out gT rfl; have h2 := GL.out; omega⟩
          have GT : Aside0 (w.heap.size ≤ gT) := ⟨Kd.R_base HO5a.out gT rfl⟩
          have HT := Aside0.mk (Kd.R_mono (ok' := fun _ => True) HO5a.out (fun _ _ => trivial))
          have HO := Aside0.mk (Kd.R_mono (ok' := fun k_ => k_ ≠ gT) HO5b.out (fun k_ hk e_ => hk.1.2 (by rw [e_]; rfl)))
          have HX := Aside0.mk (Kd.R_mono (ok' := fun k_ => k_ ≠ gT) HO5n.out (fun k_ hk e_ => hk.1.2 (by rw [e_]; rfl)))
          clear HO5a HO5b HO5n HL
          go_loopg [45] k (fun kq v45 wr => ∃ (x : List Int) (xi : Int), v45 = .int .i64 xi ∧ Aside0 (x.length = 15) ∧ Aside0 (impl_writeSteps.steps kq x nx a3 xi = some o) ∧ Aside0 (kq ≤ k) ∧ Aside0 (Kd.R (Kd.int .i64) 3 wr w.heap.size (fun _ => True) (.slice (some ⟨gT, 0, none⟩) l0.length ca) x) ∧ Aside0 (Kd.R (Kd.int .i64) 3 wr w.heap.size (fun k_ => k_ ≠ gT) (.slice Ab l1.length cb) l1) ∧ Aside0 (Kd.R (Kd.int .i64) 3 wr w.heap.size (fun k_ => k_ ≠ gT) (.slice (some ⟨gN, 0, none⟩) nx.length cn) nx) ∧ Aside0 (wr.cell? ⟨gl, 0, none⟩ = some (.slice (some ⟨gT, 0, none⟩) l0.length ca) ∧ wr.cell? ⟨gl, 1, none⟩ = some (.slice Ab l1.length cb)) ∧ Aside0 (Below w.heap.size w wr))
          case atStart => exact ⟨l0, 0, (by first | rfl|(simp;done)|(simp [*];done)), H0, A4, ⟨Nat.le_refl _⟩, HT, HO, HX, HL5, HB5⟩
          case round =>
            clear A4 HT HO HX HL5 HB5
            try clear p2
            obtain ⟨x, xi, rfl, HXL, HA, HK1, HT, HO, HX, HL, HB⟩ := hrel
            cases gk with
            | zero => exact absurd HA.out (by simp [impl_writeSteps.steps])
            | succ k1 =>
              have H := HA.out
              clear HA
              simp only [impl_writeSteps.steps] at H
              by_cases c4 : xi < a3
              · rw [if_pos c4] at H
                have c4b : decide (xi < a3) = true := decide_eq_true c4
                clear c4
                by_cases c5 : 0 ≤ xi
                · rw [if_pos c5] at H
                  by_cases c6 : xi = 0
                  · rw [if_pos c6] at H
                    subst c6
                    have H' := Aside0.mk H
                    clear H
                    obtain ⟨hx0, hf0⟩ := Kd.R_celln 0 HT.out (0 : Int) (by omega) (by have := H0.out; omega)
                    have hx1 : wr.cell? ⟨gT, 0, none⟩ = some (.int .i64 (rd x 0)) := hx0
                    have hf1 : wr.frozen? ⟨gT, 0, none⟩ = false := hf0
                    clear hx0 hf0
                    have q1 : (0 : Int) < (l0.length : Int) := by have := H0.out; omega
                    have q2 := eq_true q1
                    go_wp2
                    go_roundg k1
                    case measure => have := HK1.out; omega
                    case rel => exact ⟨x.set 0 0, wrap64 (0 + 1), (by first | rfl|(simp;done)|(simp [*];done)|(simp; unfold wrap64; omega)), ⟨by rw [List.length_set]; exact HXL.out⟩, H', ⟨by have := HK1.out; omega⟩, ⟨(Kd.R_putg HT.out (0 : Int) 0).1⟩, ⟨Kd.R_far (p := ⟨gT, 0, none⟩) HO.out (fun _ hk => hk) _⟩, ⟨Kd.R_far (p := ⟨gT, 0, none⟩) HX.out (fun _ hk => hk) _⟩, ⟨(World.cell?_of_block (Below.heap_setCell wr ⟨gT, 0, none⟩ _ gl NE.out)).trans HL.out.1, (World.cell?_of_block (Below.heap_setCell wr ⟨gT, 0, none⟩ _ gl NE.out)).trans HL.out.2⟩, ⟨below_set HB.out GT.out⟩⟩
                  · rw [if_neg c6] at H
                    have c6b : (xi == 0) = false := beq_eq_false_iff_ne.mpr c6
                    clear c6
                    by_cases c7 : xi < 15
                    · rw [if_pos c7] at H
                      have H' := Aside0.mk H
                      clear H
                      have q1 : xi < (l0.length : Int) := by have := H0.out; omega
                      have q3 : xi < (nx.length : Int) := by have := HN.out; omega
                      obtain ⟨hx1, hf1⟩ := Kd.R_celln 0 HT.out xi c5 q1
                      obtain ⟨hn1, _⟩ := Kd.R_celln 0 HX.out xi c5 q3
                      have c7b : decide (xi < 15) = true := decide_eq_true c7
                      have q2 := eq_true q1
                      have q4 := eq_true q3
                      have q5 := eq_true c5
                      go_wp2
                      go_roundg k1
                      case measure => have := HK1.out; omega
                      case rel => exact ⟨x.set xi.toNat (rd nx xi), wrap64 (xi + 1), (by first | rfl|(simp;done)|(simp [*];done)|(simp; unfold wrap64; omega)), ⟨by rw [List.length_set]; exact HXL.out⟩, H', ⟨by have := HK1.out; omega⟩, ⟨(Kd.R_putg HT.out xi (rd nx xi)).1⟩, ⟨Kd.R_far (p := ⟨gT, xi.toNat, none⟩) HO.out (fun _ hk => hk) _⟩, ⟨Kd.R_far (p := ⟨gT, xi.toNat, none⟩) HX.out (fun _ hk => hk) _⟩, ⟨(World.cell?_of_block (Below.heap_setCell wr ⟨gT, xi.toNat, none⟩ _ gl NE.out)).trans HL.out.1, (World.cell?_of_block (Below.heap_setCell wr ⟨gT, xi.toNat, none⟩ _ gl NE.out)).trans HL.out.2⟩, ⟨below_set HB.out GT.out⟩⟩
                    · rw [if_neg c7] at H
                      have H' := Aside0.mk H
                      clear H
                      have c7b : decide (xi < 15) = false := decide_eq_false c7
                      clear c7
                      have q1 : (0 : Int) < (l0.length : Int) := by have := H0.out; omega
                      have q3 : (0 : Int) < (nx.length : Int) := by have := HN.out; omega
                      obtain ⟨hx0, hf0⟩ := Kd.R_celln 0 HT.out (0 : Int) (by omega) q1
                      obtain ⟨hn0, _⟩ := Kd.R_celln 0 HX.out (0 : Int) (by omega) q3
                      have hx1 : wr.cell? ⟨gT, 0, none⟩ = some (.int .i64 (rd x 0)) := hx0
                      have hf1 : wr.frozen? ⟨gT, 0, none⟩ = false := hf0
                      have hn1 : wr.cell? ⟨gN, 0, none⟩ = some (.int .i64 (rd nx 0)) := hn0
                      clear hx0 hf0 hn0
                      have q2 := eq_true q1
                      have q4 := eq_true q3
                      go_wp2
                      go_roundg k1
                      case measure => have := HK1.out; omega
                      case rel => exact ⟨x.set 0 (rd nx 0), wrap64 (xi + 1), (by first | rfl|(simp;done)|(simp [*];done)|(simp; unfold wrap64; omega)), ⟨by rw [List.length_set]; exact HXL.out⟩, H', ⟨by have := HK1.out; omega⟩, ⟨(Kd.R_putg HT.out (0 : Int) (rd nx 0)).1⟩, ⟨Kd.R_far (p := ⟨gT, 0, none⟩) HO.out (fun _ hk => hk) _⟩, ⟨Kd.R_far (p := ⟨gT, 0, none⟩) HX.out (fun _ hk => hk) _⟩, ⟨(World.cell?_of_block (Below.heap_setCell wr ⟨gT, 0, none⟩ _ gl NE.out)).trans HL.out.1, (World.cell?_of_block (Below.heap_setCell wr ⟨gT, 0, none⟩ _ gl NE.out)).trans HL.out.2⟩, ⟨below_set HB.out GT.out⟩⟩
                · rw [if_neg c5] at H
                  exact absurd H (by simp)
              · rw [if_neg c4] at H
                have c4b : decide (xi < a3) = false := decide_eq_false c4
                clear c4
                obtain rfl := Option.some.inj H
                clear H
                obtain ⟨hl0, hl1⟩ := HL.out
                go_wp2
                go_quiet (fail)
                go_wp2
                go_ret3
                exact ⟨_, _, rfl, Kd.R_drewN (Kd.R_mono (ok' := fun k_ => some k_ ≠ (.slice Ab l1.length cb : Value).ownBlock) (Kd.R_tight rfl HT.out) (fun k_ hk e_ => HO.out.1 k_ (Eq.symm e_) (Option.some.inj hk))) _, Kd.R_drewN (Kd.R_mono (ok' := fun k_ => some k_ ≠ (.slice (some ⟨gT, 0, none⟩) l0.length ca : Value).ownBlock) HO.out (fun k_ hk e_ => hk (Option.some.inj e_))) _, by repeat (first|(with_reducible first|exact HB.out|apply below_alloc|apply pw_below_drewN|apply below_drew1)|exact HB.out)⟩
      · rw [if_neg h1] at H
        exact absurd H (by simp)
    · rw [if_neg h0] at H
      exact absurd H (by simp)


/-! ### impl_WriteAll: function 26 -/
def impl_WriteAll.l0 : Nat → List Int → List Int → List (List Int) → Int → Int → Option (List Int × List Int × Bool)
  | 0, _, _, _, _, _ => none
  | k + 1, x5, x6, x14, x15, x16 => if x16 < x15 then (if 0 ≤ x16 then (if x16 < (x14.length : Int) then ((impl_IsState.f k (rd_L2 x14 x16)).bind fun t249 => (if t249 = true then ((impl_writeSteps.f k x5 x6 (rd_L2 x14 x16) 16).bind fun bt250 => (impl_WriteAll.l0 k bt250.1 bt250.2.1 x14 x15 (wrap64 (x16 + 1)))) else (some (([] : List Int), ([] : List Int), false)))) else (none)) else (none)) else (some (x5, x6, true))
def impl_WriteAll.f (k : Nat) (l0 : List (List Int)) : Option (List Int × List Int × Bool) := if (l0.length : Int) > 40 then (some (([] : List Int), ([] : List Int), false)) else (if 15 ≤ 35184372088832 then (impl_WriteAll.l0 k (List.replicate 15 0) (List.replicate 15 0) l0 (l0.length : Int) 0) else (none))
theorem impl_WriteAll.mono_l : ∀ k, (∀ y0 y1 y2 y3 y4, LeO (impl_WriteAll.l0 k y0 y1 y2 y3 y4) (impl_WriteAll.l0 (k + 1) y0 y1 y2 y3 y4))
  | 0 => fun _ _ _ _ _ r h => by simp [impl_WriteAll.l0] at h
  | k + 1 => by
    have ih0 := impl_WriteAll.mono_l k
    · intro y0 y1 y2 y3 y4
      unfold impl_WriteAll.l0
      repeat' first
     |(with_reducible exact ih0 _ _ _ _ _)
     |(with_reducible exact impl_IsState.mono _ _)
     |(with_reducible exact impl_writeSteps.mono _ _ _ _ _)
     |(with_reducible exact LeO.refl _)
     |(with_reducible exact LeO.none _)
     |(with_reducible refine LeO.ite ?_ ?_)
     |(with_reducible refine LeO.bind ?_ (fun _ => ?_))
     |exact ih0 _ _ _ _ _
     |exact impl_IsState.mono _ _
     |exact impl_writeSteps.mono _ _ _ _ _
     |exact LeO.none _
      | refine LeO.ite ?_ ?_
      | refine LeO.bind ?_ (fun _ => ?_)
theorem impl_WriteAll.mono : ∀ a0 k, LeO (impl_WriteAll.f k a0) (impl_WriteAll.f (k + 1) a0) := by
  intro a0 k
  have ih0 := impl_WriteAll.mono_l k
  unfold impl_WriteAll.f
  repeat' first
     |(with_reducible exact ih0 _ _ _ _ _)
     |(with_reducible exact impl_IsState.mono _ _)
     |(with_reducible exact impl_writeSteps.mono _ _ _ _ _)
     |(with_reducible exact LeO.refl _)
     |(with_reducible exact LeO.none _)
     |(with_reducible refine LeO.ite ?_ ?_)
     |(with_reducible refine LeO.bind ?_ (fun _ => ?_))
     |exact ih0 _ _ _ _ _
     |exact impl_IsState.mono _ _
     |exact impl_writeSteps.mono _ _ _ _ _
     |exact LeO.none _
      | refine LeO.ite ?_ ?_
      | refine LeO.bind ?_ (fun _ => ?_)
set_option maxHeartbeats 8000000 in
set_option maxRecDepth 100000 in
theorem impl_WriteAll.calls (k : Nat) (A0 : Option Addr) (c0 : Nat) (l0 : List (List Int)) (r1 : List Int) (r2 : List Int) (r3 : Bool) (w : World) (hr0 : Kd.C (Kd.slice 3 (Kd.int .i64)) w A0 l0.length l0) (hc0 : l0.length ≤ c0) (h : impl_WriteAll.f k l0 = some (r1, r2, r3)) :
    Calls Try.prog 26 #[.slice A0 l0.length c0] w fun e w' => ∃ v0_ v1_ : Value, e = .returned (.tuple #[v0_, v1_, .bool r3]) ∧ Kd.R (Kd.int .i64) 3 w' w.heap.size (fun k_ => some k_ ≠ (v1_ : Value).ownBlock) v0_ r1 ∧ Kd.R (Kd.int .i64) 3 w' w.heap.size (fun k_ => some k_ ≠ (v0_ : Value).ownBlock) v1_ r2 ∧ Below w.heap.size w w' := by
  have HR0 := Aside0.mk hr0
  have HC0 := Aside0.mk hc0
  clear hr0 hc0
  have HB := Aside0.mk (Below.refl w.heap.size w)
  have H : (if (l0.length : Int) > 40 then (some (([] : List Int), ([] : List Int), false)) else (if 15 ≤ 35184372088832 then (impl_WriteAll.l0 k (List.replicate 15 0) (List.replicate 15 0) l0 (l0.length : Int) 0) else (none))) = some (r1, r2, r3) := h
  clear h
  by_cases c2 : (l0.length : Int) > 40
  · rw [if_pos c2] at H
    have c2b0 : decide (40 < (l0.length : Int)) = true := decide_eq_true c2
    have c2b1 : decide (40 < l0.length) = true := decide_eq_true (by omega)
    clear c2
    simp only [Option.some.injEq, Prod.mk.injEq] at H
    obtain ⟨rfl, rfl, rfl⟩ := H
    go_enter Try.func26, Try.ntmps26
    go_wp2
    go_ret3
    exact ⟨_, _, by first | rfl|(simp [errW_none, errW_some] <;> rfl)|(simp [*, errW_none, errW_some] <;> rfl), by first|exact Kd.R_nil _ _ _ _ _|exact Kd.N_nil _ _ _ _ _|exact Kd.V_nil _ _ _ _ _|exact Kd.Q_nil _ _ _ _ _|exact Kd.S_nil _ _ _ _ _, by first|exact Kd.R_nil _ _ _ _ _|exact Kd.N_nil _ _ _ _ _|exact Kd.V_nil _ _ _ _ _|exact Kd.Q_nil _ _ _ _ _|exact Kd.S_nil _ _ _ _ _, by repeat (first|(with_reducible first|exact HB.out|apply below_alloc|apply pw_below_drewN|apply below_drew1)|exact HB.out)⟩
  · rw [if_neg c2] at H
    have c2b0 : decide (40 < (l0.length : Int)) = false := decide_eq_false c2
    have c2b1 : decide (40 < l0.length) = false := decide_eq_false (by omega)
    clear c2
    by_cases c3 : 15 ≤ 35184372088832
    · rw [if_pos c3] at H
      have c3b0 := eq_true c3
      have c3b1 : decide (15 ≤ 35184372088832) = true := decide_eq_true c3
      clear c3
      obtain ⟨y242, hy242⟩ : ∃ y_ : List Int, y_ = (List.replicate 15 0) := ⟨_, rfl⟩
      replace H : (impl_WriteAll.l0 k y242 (List.replicate 15 0) l0 (l0.length : Int) 0) = some (r1, r2, r3) := by first|(rw [hy242]; with_reducible exact H)|(have H2_ := (Option.bind_some _ _).symm.trans H; rw [hy242]; with_reducible exact H2_)|(have H2_ := (Option.bind_some _ _).symm.trans H; with_reducible exact H2_) | with_reducible exact H|(rw [hy242]; exact H)|exact H
      have Ny242 := Aside0.mk hy242
      clear hy242
      obtain ⟨y245, hy245⟩ : ∃ y_ : List Int, y_ = (List.replicate 15 0) := ⟨_, rfl⟩
      replace H : (impl_WriteAll.l0 k y242 y245 l0 (l0.length : Int) 0) = some (r1, r2, r3) := by first|(rw [hy245]; with_reducible exact H)|(have H2_ := (Option.bind_some _ _).symm.trans H; rw [hy245]; with_reducible exact H2_)|(have H2_ := (Option.bind_some _ _).symm.trans H; with_reducible exact H2_) | with_reducible exact H|(rw [hy245]; exact H)|exact H
      have Ny245 := Aside0.mk hy245
      clear hy245
      have H' := Aside0.mk H
      clear H
      go_enter Try.func26, Try.ntmps26
      try go_wp2
      have n0_ := Aside0.mk (below_drew1 HB.out)
      clear HB
      have HB := n0_
      clear n0_
      refine start_ (n := 4) (S := fun w' => True) (ds := []) #[false, false, false, false] (by kernel_rfl) rfl rfl trivial (fun hHeld => ?_)
      generalize w.drew = w4 at HB hHeld ⊢
      refine join_ (σ := Value × Value) 1 #[true, true, true, false] (fun s_ => [(12, s_.1), (13, s_.2), (5, s_.1)]) (fun s_ w' => (Kd.R (Kd.int .i64) 3 w' w.heap.size (fun k_ => some k_ ≠ (s_.2 : Value).ownBlock) s_.1 y242) ∧ (Kd.R (Kd.int .i64) 3 w' w.heap.size (fun k_ => some k_ ≠ (s_.1 : Value).ownBlock) s_.2 y245) ∧ (Below w.heap.size w w')) ?_ ?_
      rotate_left
      · intro hCont
        refine two_ (i := 0) (j := 1) (Ni := some 12) (Nj := some 13) #[true, false, false, false] #[false, true, false, false] rfl rfl rfl rfl (by kernel_rfl) (by decide) (by decide) (fun K hK => ?_) (fun K hK => ?_)
        · skip
          refine Kd.R_make_step (Kd.int .i64) _ 3 (by rfl) (N := 12) rfl 37 _ _ rfl 15 rfl rfl Try.underlying37 (.int .i64 0) 8 info3 rfl (by decide) (by omega) 0 (ok := fun _ => True) (okp := fun _ => True) rfl (fun _ hk => hk) trivial (by omega) (by omega) (Below.refl _ _) (Nat.le_refl _) ?_
          intro v243 w5 ho6 hb hg_ hnew_
          clear hg_ hnew_
          (first|rw [← Ny242.out] at ho6|(simp only [Int.reduceToNat] at ho6; rw [← Ny242.out] at ho6))
          have n0_ := Aside0.mk (Kd.R_lower ho6 (below_size (by repeat (first|(with_reducible first|exact HB.out|apply below_alloc|apply pw_below_drewN|apply below_drew1)|exact HB.out))))
          have n1_ := Aside0.mk (below_step (by repeat (first|(with_reducible first|exact HB.out|apply below_alloc|apply pw_below_drewN|apply below_drew1)|exact HB.out)) hb)
          clear HB
          have HO244 := n0_
          have HB := n1_
          clear n0_ n1_
          clear hb ho6
          refine hK.out _ _ trivial (fun hHeld => ?_)
          clear hK K
          refine norm_ (a' := ?_) ?_ ?_
          rotate_left
          · show Act.put _ (some 12) _ = _
            simp only [Act.put, List.setIfInBounds_toArray, List.set_cons_zero, List.set_cons_succ, i64_w, i32_w]
            rfl
          refine pure_ (i := 2) (N := some 5) (v := ?_) (a' := ?_) #[true, false, true, false] rfl rfl (by kernel_rfl) (fun _ _ _ h => h) (Or.inl ⟨by rfl, ?_⟩) ?_ ?_
          rotate_left
          · intro w'
            go_simp
            with_reducible rfl
          rotate_left
          · simp only [Act.put, List.setIfInBounds_toArray, List.set_cons_zero, List.set_cons_succ, i64_w, i32_w]
            rfl
          refine one_ (i := 1) (N := some 13) #[true, true, true, false] rfl rfl (by kernel_rfl) (by decide) (fun K hK => ?_)
          refine Kd.R_make_step (Kd.int .i64) _ 3 (by rfl) (N := 13) rfl 37 _ _ rfl 15 rfl rfl Try.underlying37 (.int .i64 0) 8 info3 rfl (by decide) (by omega) 0 (ok := fun _ => True) (okp := fun _ => True) rfl (fun _ hk => hk) trivial (by omega) (by omega) (Below.refl _ _) (Nat.le_refl _) ?_
          intro v246 w7 ho8 hb hg_ hnew_
          clear hg_ hnew_
          (first|rw [← Ny245.out] at ho8|(simp only [Int.reduceToNat] at ho8; rw [← Ny245.out] at ho8))
          have n0_ := Aside0.mk (Kd.R_elder' (by (with_reducible repeat (first|apply Kd.R_alloc|apply Kd.R_drewN|apply Kd.R_drew)); exact HO244.out) (Kd.R_base ho8) hb)
          have n1_ := Aside0.mk (Kd.R_lower (Kd.R_new' ho8 (Kd.R_lt (by (with_reducible repeat (first|apply Kd.R_alloc|apply Kd.R_drewN|apply Kd.R_drew)); exact HO244.out))) (below_size (by repeat (first|(with_reducible first|exact HB.out|apply below_alloc|apply pw_below_drewN|apply below_drew1)|exact HB.out))))
          have n2_ := Aside0.mk (below_step (by repeat (first|(with_reducible first|exact HB.out|apply below_alloc|apply pw_below_drewN|apply below_drew1)|exact HB.out)) hb)
          clear HO244
          clear HB
          have HO244 := n0_
          have HO247 := n1_
          have HB := n2_
          clear n0_ n1_ n2_
          clear hb ho8
          refine hK.out _ _ trivial (fun hHeld => ?_)
          clear hK K
          refine norm_ (a' := ?_) ?_ ?_
          rotate_left
          · show Act.put _ (some 13) _ = _
            simp only [Act.put, List.setIfInBounds_toArray, List.set_cons_zero, List.set_cons_succ, i64_w, i32_w]
            rfl
          exact norm_ (by simp only [putAll, Act.put, List.setIfInBounds_toArray, List.set_cons_zero, List.set_cons_succ]) (hCont (v243, v246) _ ⟨(by (with_reducible repeat (first|apply Kd.R_alloc|apply Kd.R_drewN|apply Kd.R_drew)); exact Kd.R_mono HO244.out (fun _ hk => hk.2)), (by (with_reducible repeat (first|apply Kd.R_alloc|apply Kd.R_drewN|apply Kd.R_drew)); exact Kd.R_mono HO247.out (fun _ hk => hk.2)), (by repeat (first|(with_reducible first|exact HB.out|apply below_alloc|apply pw_below_drewN|apply below_drew1)|exact HB.out))⟩)
        · skip
          refine Kd.R_make_step (Kd.int .i64) _ 3 (by rfl) (N := 13) rfl 37 _ _ rfl 15 rfl rfl Try.underlying37 (.int .i64 0) 8 info3 rfl (by decide) (by omega) 0 (ok := fun _ => True) (okp := fun _ => True) rfl (fun _ hk => hk) trivial (by omega) (by omega) (Below.refl _ _) (Nat.le_refl _) ?_
          intro v246 w5 ho6 hb hg_ hnew_
          clear hg_ hnew_
          (first|rw [← Ny245.out] at ho6|(simp only [Int.reduceToNat] at ho6; rw [← Ny245.out] at ho6))
          have n0_ := Aside0.mk (Kd.R_lower ho6 (below_size (by repeat (first|(with_reducible first|exact HB.out|apply below_alloc|apply pw_below_drewN|apply below_drew1)|exact HB.out))))
          have n1_ := Aside0.mk (below_step (by repeat (first|(with_reducible first|exact HB.out|apply below_alloc|apply pw_below_drewN|apply below_drew1)|exact HB.out)) hb)
          clear HB
          have HO247 := n0_
          have HB := n1_
          clear n0_ n1_
          clear hb ho6
          refine hK.out _ _ trivial (fun hHeld => ?_)
          clear hK K
          refine norm_ (a' := ?_) ?_ ?_
          rotate_left
          · show Act.put _ (some 13) _ = _
            simp only [Act.put, List.setIfInBounds_toArray, List.set_cons_zero, List.set_cons_succ, i64_w, i32_w]
            rfl
          refine one_ (i := 0) (N := some 12) #[true, true, false, false] rfl rfl (by kernel_rfl) (by decide) (fun K hK => ?_)
          refine Kd.R_make_step (Kd.int .i64) _ 3 (by rfl) (N := 12) rfl 37 _ _ rfl 15 rfl rfl Try.underlying37 (.int .i64 0) 8 info3 rfl (by decide) (by omega) 0 (ok := fun _ => True) (okp := fun _ => True) rfl (fun _ hk => hk) trivial (by omega) (by omega) (Below.refl _ _) (Nat.le_refl _) ?_
          intro v243 w7 ho8 hb hg_ hnew_
          clear hg_ hnew_
          (first|rw [← Ny242.out] at ho8|(simp only [Int.reduceToNat] at ho8; rw [← Ny242.out] at ho8))
          have n0_ := Aside0.mk (Kd.R_elder' (by (with_reducible repeat (first|apply Kd.R_alloc|apply Kd.R_drewN|apply Kd.R_drew)); exact HO247.out) (Kd.R_base ho8) hb)
          have n1_ := Aside0.mk (Kd.R_lower (Kd.R_new' ho8 (Kd.R_lt (by (with_reducible repeat (first|apply Kd.R_alloc|apply Kd.R_drewN|apply Kd.R_drew)); exact HO247.out))) (below_size (by repeat (first|(with_reducible first|exact HB.out|apply below_alloc|apply pw_below_drewN|apply below_drew1)|exact HB.out))))
          have n2_ := Aside0.mk (below_step (by repeat (first|(with_reducible first|exact HB.out|apply below_alloc|apply pw_below_drewN|apply below_drew1)|exact HB.out)) hb)
          clear HO247
          clear HB
          have HO247 := n0_
          have HO244 := n1_
          have HB := n2_
          clear n0_ n1_ n2_
          clear hb ho8
          refine hK.out _ _ trivial (fun hHeld => ?_)
          clear hK K
          refine norm_ (a' := ?_) ?_ ?_
          rotate_left
          · show Act.put _ (some 12) _ = _
            simp only [Act.put, List.setIfInBounds_toArray, List.set_cons_zero, List.set_cons_succ, i64_w, i32_w]
            rfl
          refine pure_ (i := 2) (N := some 5) (v := ?_) (a' := ?_) #[true, true, true, false] rfl rfl (by kernel_rfl) (fun _ _ _ h => h) (Or.inl ⟨by rfl, ?_⟩) ?_ ?_
          rotate_left
          · intro w'
            go_simp
            with_reducible rfl
          rotate_left
          · simp only [Act.put, List.setIfInBounds_toArray, List.set_cons_zero, List.set_cons_succ, i64_w, i32_w]
            rfl
          exact norm_ (by simp only [putAll, Act.put, List.setIfInBounds_toArray, List.set_cons_zero, List.set_cons_succ]) (hCont (v243, v246) _ ⟨(by (with_reducible repeat (first|apply Kd.R_alloc|apply Kd.R_drewN|apply Kd.R_drew)); exact Kd.R_mono HO244.out (fun _ hk => hk.2)), (by (with_reducible repeat (first|apply Kd.R_alloc|apply Kd.R_drewN|apply Kd.R_drew)); exact Kd.R_mono HO247.out (fun _ hk => hk.2)), (by repeat (first|(with_reducible first|exact HB.out|apply below_alloc|apply pw_below_drewN|apply below_drew1)|exact HB.out))⟩)
      rintro ⟨v243, v246⟩ w9 ⟨h0_, h1_, h2_⟩
      have n0_ : Aside0 (Kd.R (Kd.int .i64) 3 w9 w.heap.size (fun k_ => some k_ ≠ (v246 : Value).ownBlock) v243 y242) := ⟨h0_⟩
      have n1_ : Aside0 (Kd.R (Kd.int .i64) 3 w9 w.heap.size (fun k_ => some k_ ≠ (v243 : Value).ownBlock) v246 y245) := ⟨h1_⟩
      have n2_ : Aside0 (Below w.heap.size w w9) := ⟨h2_⟩
      clear HB
      clear h0_ h1_ h2_
      have HO244 := n0_
      have HO247 := n1_
      have HB := n2_
      clear n0_ n1_ n2_
      have hHeld := trivial
      refine norm_ (a' := ?_) ?_ ?_
      rotate_left
      · simp only [putAll, Act.put, List.setIfInBounds_toArray, List.set_cons_zero, List.set_cons_succ]
        rfl
      refine pure_ (i := 3) (N := some 6) (v := ?_) (a' := ?_) #[true, true, true, true] rfl rfl (by kernel_rfl) (fun _ _ _ h => h) (Or.inl ⟨by rfl, ?_⟩) ?_ ?_
      rotate_left
      · intro w'
        go_simp
        with_reducible rfl
      rotate_left
      · simp only [Act.put, List.setIfInBounds_toArray, List.set_cons_zero, List.set_cons_succ, i64_w, i32_w]
        rfl
      refine done_ (by kernel_rfl) ?_
      try go_wp2
      go_loopg [5, 6, 16] k (fun kq v5 v6 v16 w' => ∃ (x5_1 : List Int) (x6_1 : List Int) (x16_1 : Int), v16 = .int .i64 x16_1 ∧ Aside0 (impl_WriteAll.l0 kq x5_1 x6_1 l0 (l0.length : Int) x16_1 = some (r1, r2, r3)) ∧ Aside0 (kq ≤ k) ∧ Aside0 (Kd.R (Kd.int .i64) 3 w' w.heap.size (fun k_ => some k_ ≠ (v6 : Value).ownBlock) v5 x5_1) ∧ Aside0 (Kd.R (Kd.int .i64) 3 w' w.heap.size (fun k_ => some k_ ≠ (v5 : Value).ownBlock) v6 x6_1) ∧ Aside0 (Below w.heap.size w w'))
      case atStart => exact ⟨(y242), (y245), (0), (by first | rfl|(simp;done)|(simp [*];done)), H', ⟨Nat.le_refl _⟩, ⟨by (with_reducible repeat (first|apply Kd.R_alloc|apply Kd.R_drewN|apply Kd.R_drew)); exact HO244.out⟩, ⟨by (with_reducible repeat (first|apply Kd.R_alloc|apply Kd.R_drewN|apply Kd.R_drew)); exact HO247.out⟩, ⟨by repeat (first|(with_reducible first|exact HB.out|apply below_alloc|apply pw_below_drewN|apply below_drew1)|exact HB.out)⟩⟩
      case round =>
        clear H'
        try clear c2
        try clear c2b0
        try clear c2b1
        try clear p2
        try clear c3
        try clear c3b0
        try clear c3b1
        obtain ⟨x5_1, x6_1, x16_1, rfl, HA, HK1, HO_5, HO_6, HB⟩ := hrel
        cases gk with
        | zero => exact absurd HA.out (by simp [impl_WriteAll.l0])
        | succ k1 =>
          have H := HA.out
          clear HA
          simp only [impl_WriteAll.l0] at H
          by_cases c10 : x16_1 < (l0.length : Int)
          · rw [if_pos c10] at H
            have c10b0 : decide (x16_1 < (l0.length : Int)) = true := decide_eq_true c10
            clear c10
            by_cases c11 : 0 ≤ x16_1
            · rw [if_pos c11] at H
              have c11b0 : decide (0 ≤ x16_1) = true := decide_eq_true c11
              clear c11
              by_cases c12 : x16_1 < (l0.length : Int)
              · rw [if_pos c12] at H
                have c12b0 : decide (x16_1 < (l0.length : Int)) = true := decide_eq_true c12
                clear c12
                replace H := Option.bind_eq_some_iff.mp H
                obtain ⟨t249, A130, H⟩ := H
                try dsimp only at H
                have A13 := Aside0.mk A130
                clear A130
                by_cases c14 : t249 = true
                · subst c14
                  have H1 : ((impl_writeSteps.f k1 x5_1 x6_1 (rd_L2 l0 x16_1) 16).bind fun bt250 => (impl_WriteAll.l0 k1 bt250.1 bt250.2.1 l0 (l0.length : Int) (wrap64 (x16_1 + 1)))) = some (r1, r2, r3) := by rw [if_pos rfl] at H; exact H
                  clear H
                  have H := H1
                  clear H1
                  replace H := Option.bind_eq_some_iff.mp H
                  obtain ⟨⟨t250, t251, t252⟩, A150, H⟩ := H
                  try dsimp only at H
                  have A15 := Aside0.mk A150
                  clear A150
                  have H' := Aside0.mk H
                  clear H
                  have p248 : 0 ≤ (x16_1 : Int) := of_decide_eq_true (by first|(with_reducible assumption) | assumption)
                  have q248 : x16_1 < (l0.length : Int) := of_decide_eq_true (by first|(with_reducible assumption) | assumption)
                  obtain ⟨ad248, A248_0, c248_0, e248, hx248_0, hl248_0, hi248_0⟩ := at_L2 HR0.out x16_1 p248 q248
                  cases e248
                  replace hx248_0 := (HB.out.cell (World.block_lt_of_cell? w _ hx248_0)).trans hx248_0
                  have HR248_0 := Aside0.mk hi248_0
                  have HC248_0 := Aside0.mk hl248_0
                  clear hi248_0 hl248_0
                  replace p248 := eq_true p248
                  replace q248 := eq_true q248
                  go_wp2_with (first|((with_reducible refine gate_callee (f := 36) rfl ?_); refine goesL_ (some 21) rfl rfl Try.func36 (by kernel_rfl) rfl #[.slice A248_0 (rd_L2 l0 x16_1).length c248_0] rfl (by (try simp only [List.map_toArray, List.map_cons, List.map_nil]); first | done | rfl|(simp only [List.length_drop, List.length_take]; rfl)) ?_; (with_reducible refine (impl_IsState.calls k1 _ _ (rd_L2 l0 x16_1) true _ ?side1 ?side2 A13.out).mono ?_);(case side1 => repeat (first|exact (Kd.C_below HR248_0.out HB.out)|(with_reducible refine Kd.C_alloc ?_ _)|(with_reducible refine Kd.C_drewN ?_ _)|(with_reducible refine Kd.C_drew ?_)));(case side2 => exact HC248_0.out); rintro e w' ⟨rfl, ⟨nd, rfl⟩⟩; refine ⟨_, rfl, ?_⟩; obtain ⟨Ao16, co16, eo16⟩ := Kd.R_slice HO_5.out; subst eo16; obtain ⟨Ao17, co17, eo17⟩ := Kd.R_slice HO_6.out; subst eo17)|((with_reducible refine gate_callee (f := 91) rfl ?_); refine goesL_ (some 27) rfl rfl Try.func91 (by kernel_rfl) rfl #[.slice Ao16 x5_1.length co16, .slice Ao17 x6_1.length co17, .slice A248_0 (rd_L2 l0 x16_1).length c248_0, .int .i64 16] rfl (by (try simp only [List.map_toArray, List.map_cons, List.map_nil]); first | done | rfl|(simp only [List.length_drop, List.length_take]; rfl)) ?_; (with_reducible refine (impl_writeSteps.calls k1 _ _ x5_1 _ _ x6_1 _ _ (rd_L2 l0 x16_1) 16 t250 t251 t252 _ ?side1 ?side2 ?side3 ?side4 ?side5 ?side6 A15.out).mono ?_);(case side1 => repeat (first|exact (Kd.R_reads' HO_5.out).2.2|(with_reducible refine Kd.C_alloc ?_ _)|(with_reducible refine Kd.C_drewN ?_ _)|(with_reducible refine Kd.C_drew ?_)));(case side2 => exact (Kd.R_reads' HO_5.out).2.1);(case side3 => repeat (first|exact (Kd.R_reads' HO_6.out).2.2|(with_reducible refine Kd.C_alloc ?_ _)|(with_reducible refine Kd.C_drewN ?_ _)|(with_reducible refine Kd.C_drew ?_)));(case side4 => exact (Kd.R_reads' HO_6.out).2.1);(case side5 => repeat (first|exact (Kd.C_below HR248_0.out (by repeat (first|(with_reducible first|exact HB.out|apply below_alloc|apply pw_below_drewN|apply below_drew1)|exact HB.out)))|(with_reducible refine Kd.C_alloc ?_ _)|(with_reducible refine Kd.C_drewN ?_ _)|(with_reducible refine Kd.C_drew ?_)));(case side6 => exact HC248_0.out); rintro e w18 ⟨v253, v255, rfl, ho0, ho1, hb⟩; refine ⟨_, rfl, ?_⟩; have n0_ := Aside0.mk (Kd.R_mono (Kd.R_told (Kd.R_told (Kd.R_old (by (with_reducible repeat (first|apply Kd.R_alloc|apply Kd.R_drewN|apply Kd.R_drew)); exact HO_5.out) hb) (Kd.R_base ho0)) (Kd.R_base ho1)) (fun _ h_ => h_.1)); have n1_ := Aside0.mk (Kd.R_mono (Kd.R_told (Kd.R_told (Kd.R_old (by (with_reducible repeat (first|apply Kd.R_alloc|apply Kd.R_drewN|apply Kd.R_drew)); exact HO_6.out) hb) (Kd.R_base ho0)) (Kd.R_base ho1)) (fun _ h_ => h_.1)); have n2_ := Aside0.mk (Kd.R_lower (Kd.R_new' (Kd.R_new' ho0 (Kd.R_lt (by (with_reducible repeat (first|apply Kd.R_alloc|apply Kd.R_drewN|apply Kd.R_drew)); exact HO_5.out))) (Kd.R_lt (by (with_reducible repeat (first|apply Kd.R_alloc|apply Kd.R_drewN|apply Kd.R_drew)); exact HO_6.out))) (below_size (by repeat (first|(with_reducible first|exact HB.out|apply below_alloc|apply pw_below_drewN|apply below_drew1)|exact HB.out)))); have n3_ := Aside0.mk (Kd.R_lower (Kd.R_new' (Kd.R_new' ho1 (Kd.R_lt (by (with_reducible repeat (first|apply Kd.R_alloc|apply Kd.R_drewN|apply Kd.R_drew)); exact HO_5.out))) (Kd.R_lt (by (with_reducible repeat (first|apply Kd.R_alloc|apply Kd.R_drewN|apply Kd.R_drew)); exact HO_6.out))) (below_size (by repeat (first|(with_reducible first|exact HB.out|apply below_alloc|apply pw_below_drewN|apply below_drew1)|exact HB.out)))); have n4_ := Aside0.mk (below_step (by repeat (first|(with_reducible first|exact HB.out|apply below_alloc|apply pw_below_drewN|apply below_drew1)|exact HB.out)) hb); clear HO_5; clear HO_6; clear HB; have HO_5 := n0_; have HO_6 := n1_; have HO254 := n2_; have HO256 := n3_; have HB := n4_; clear n0_ n1_ n2_ n3_ n4_; (try clear hb); (try clear hb2); (try clear hk); (try clear hi); (try clear ho0); (try clear ho1)))
                  go_roundg k1
                  case measure => have := HK1.out; omega
                  case rel => exact ⟨(t250), (t251), (wrap64 (x16_1 + 1)), (by first | rfl|(simp;done)|(simp [*];done)), H', ⟨by have := HK1.out; omega⟩, ⟨by (with_reducible repeat (first|apply Kd.R_alloc|apply Kd.R_drewN|apply Kd.R_drew)); exact Kd.R_mono HO254.out (fun _ hk => hk.1.1)⟩, ⟨by (with_reducible repeat (first|apply Kd.R_alloc|apply Kd.R_drewN|apply Kd.R_drew)); exact Kd.R_mono HO256.out (fun _ hk => hk.1.1)⟩, ⟨by repeat (first|(with_reducible first|exact HB.out|apply below_alloc|apply pw_below_drewN|apply below_drew1)|exact HB.out)⟩⟩
                · replace c14 := Bool.eq_false_iff.mpr c14
                  subst c14
                  have H1 : (some (([] : List Int), ([] : List Int), false)) = some (r1, r2, r3) := by rw [if_neg (show ¬ (false = true) by decide)] at H; exact H
                  clear H
                  have H := H1
                  clear H1
                  simp only [Option.some.injEq, Prod.mk.injEq] at H
                  obtain ⟨rfl, rfl, rfl⟩ := H
                  have p248 : 0 ≤ (x16_1 : Int) := of_decide_eq_true (by first|(with_reducible assumption) | assumption)
                  have q248 : x16_1 < (l0.length : Int) := of_decide_eq_true (by first|(with_reducible assumption) | assumption)
                  obtain ⟨ad248, A248_0, c248_0, e248, hx248_0, hl248_0, hi248_0⟩ := at_L2 HR0.out x16_1 p248 q248
                  cases e248
                  replace hx248_0 := (HB.out.cell (World.block_lt_of_cell? w _ hx248_0)).trans hx248_0
                  have HR248_0 := Aside0.mk hi248_0
                  have HC248_0 := Aside0.mk hl248_0
                  clear hi248_0 hl248_0
                  replace p248 := eq_true p248
                  replace q248 := eq_true q248
                  go_wp2_with (first|((with_reducible refine gate_callee (f := 36) rfl ?_); refine goesL_ (some 21) rfl rfl Try.func36 (by kernel_rfl) rfl #[.slice A248_0 (rd_L2 l0 x16_1).length c248_0] rfl (by (try simp only [List.map_toArray, List.map_cons, List.map_nil]); first | done | rfl|(simp only [List.length_drop, List.length_take]; rfl)) ?_; (with_reducible refine (impl_IsState.calls k1 _ _ (rd_L2 l0 x16_1) false _ ?side1 ?side2 A13.out).mono ?_);(case side1 => repeat (first|exact (Kd.C_below HR248_0.out HB.out)|(with_reducible refine Kd.C_alloc ?_ _)|(with_reducible refine Kd.C_drewN ?_ _)|(with_reducible refine Kd.C_drew ?_)));(case side2 => exact HC248_0.out); rintro e w' ⟨rfl, ⟨nd, rfl⟩⟩; refine ⟨_, rfl, ?_⟩))
                  go_ret3
                  exact ⟨_, _, by first | rfl|(simp [errW_none, errW_some] <;> rfl)|(simp [*, errW_none, errW_some] <;> rfl), by first|exact Kd.R_nil _ _ _ _ _|exact Kd.N_nil _ _ _ _ _|exact Kd.V_nil _ _ _ _ _|exact Kd.Q_nil _ _ _ _ _|exact Kd.S_nil _ _ _ _ _, by first|exact Kd.R_nil _ _ _ _ _|exact Kd.N_nil _ _ _ _ _|exact Kd.V_nil _ _ _ _ _|exact Kd.Q_nil _ _ _ _ _|exact Kd.S_nil _ _ _ _ _, by repeat (first|(with_reducible first|exact HB.out|apply below_alloc|apply pw_below_drewN|apply below_drew1)|exact HB.out)⟩
              · rw [if_neg c12] at H
                exact absurd H (by simp)
            · rw [if_neg c11] at H
              exact absurd H (by simp)
          · rw [if_neg c10] at H
            have c10b0 : decide (x16_1 < (l0.length : Int)) = false := decide_eq_false c10
            clear c10
            simp only [Option.some.injEq, Prod.mk.injEq] at H
            obtain ⟨rfl, rfl, rfl⟩ := H
            go_wp2
            go_ret3
            exact ⟨_, _, by first | rfl|(simp [errW_none, errW_some] <;> rfl)|(simp [*, errW_none, errW_some] <;> rfl), by (with_reducible repeat (first|apply Kd.R_alloc|apply Kd.R_drewN|apply Kd.R_drew)); exact HO_5.out, by (with_reducible repeat (first|apply Kd.R_alloc|apply Kd.R_drewN|apply Kd.R_drew)); exact HO_6.out, by repeat (first|(with_reducible first|exact HB.out|apply below_alloc|apply pw_below_drewN|apply below_drew1)|exact HB.out)⟩
    · rw [if_neg c3] at H
      exact absurd H (by simp)

/-! ### spec_l1Own: function 98 -/
def spec_l1Own.f (l0 : List Int) : Option (List Int) := (some (([] : List Int) : List Int)).bind fun y257 => (if y257.length + l0.length < 17592186044416 then (some (y257 ++ l0)) else (none))
set_option maxHeartbeats 8000000 in
set_option maxRecDepth 100000 in
theorem spec_l1Own.calls (A0 : Option Addr) (c0 : Nat) (l0 : List Int) (r : List Int) (w : World) (hr0 : Kd.C (Kd.int .i64) w A0 l0.length l0) (hc0 : l0.length ≤ c0) (h : spec_l1Own.f l0 = some r) :
    Calls Try.prog 98 #[.slice A0 l0.length c0] w fun e w' => ∃ v0_ : Value, e = .returned (v0_) ∧ Kd.R (Kd.int .i64) 3 w' w.heap.size (fun _ => True) v0_ r ∧ Below w.heap.size w w' := by
  have HR0 := Aside0.mk hr0
  have HC0 := Aside0.mk hc0
  clear hr0 hc0
  have HB := Aside0.mk (Below.refl w.heap.size w)
  have H : ((some (([] : List Int) : List Int)).bind fun y257 => (if y257.length + l0.length < 17592186044416 then (some (y257 ++ l0)) else (none))) = some r := h
  clear h
  obtain ⟨y257, hy257⟩ : ∃ y_ : List Int, y_ = (([] : List Int)) := ⟨_, rfl⟩
  replace H : (if y257.length + l0.length < 17592186044416 then (some (y257 ++ l0)) else (none)) = some r := by first|(rw [hy257]; with_reducible exact H)|(have H2_ := (Option.bind_some _ _).symm.trans H; rw [hy257]; with_reducible exact H2_)|(have H2_ := (Option.bind_some _ _).symm.trans H; with_reducible exact H2_) | with_reducible exact H|(rw [hy257]; exact H)|exact H
  have Ny257 := Aside0.mk hy257
  clear hy257
  by_cases c2 : y257.length + l0.length < 17592186044416
  · rw [if_pos c2] at H
    have LMc2 := Aside0.mk c2
    clear c2
    obtain ⟨y260, hy260⟩ : ∃ y_ : List Int, y_ = (y257 ++ l0) := ⟨_, rfl⟩
    replace H : (some y260) = some r := by first|(rw [hy260]; with_reducible exact H)|(have H2_ := (Option.bind_some _ _).symm.trans H; rw [hy260]; with_reducible exact H2_)|(have H2_ := (Option.bind_some _ _).symm.trans H; with_reducible exact H2_) | with_reducible exact H|(rw [hy260]; exact H)|exact H
    have Ny260 := Aside0.mk hy260
    clear hy260
    obtain rfl := Option.some.inj H
    go_enter Try.func98, Try.ntmps98
    go_wp2_with (first|((with_reducible refine gate_dst (N := 3) rfl ?_); refine Kd.R_lit (Kd.int .i64) _ 3 ?hg (N := 3) ?hd (xs := ([] : List Int)) (inner := []) (ok := fun _ => True) (okp := fun _ => True) ?hr ?hp (fun _ hk => hk) trivial (Below.refl _ _) (Nat.le_refl _) (by simp) ?_;(case hd => rfl);(case hg => rfl);(case hr => first|(go_simp;done)|(go_simp; rfl));(case hp => exact (Reps.none _ _)); intro v258 w3 ho4 hb hg_ hnew_; clear hg_ hnew_; (first|rw [← Ny257.out] at ho4|(simp only [Int.reduceToNat] at ho4; rw [← Ny257.out] at ho4)); have n0_ := Aside0.mk (Kd.R_lower ho4 (below_size (by repeat (first|(with_reducible first|exact HB.out|apply below_alloc|apply pw_below_drewN|apply below_drew1)|exact HB.out)))); have n1_ := Aside0.mk (below_step (by repeat (first|(with_reducible first|exact HB.out|apply below_alloc|apply pw_below_drewN|apply below_drew1)|exact HB.out)) hb); clear HB; have HO259 := n0_; have HB := n1_; clear n0_ n1_; clear hb ho4)|((with_reducible refine gate_builtin (b := .append) (xs := #[.tmp 3, .tmp 4]) rfl ?_); at_builtin; refine Kd.R_append_rows (Kd.int .i64) (w0 := w) w.heap.size rfl (.tmp 3) (.tmp 4) 37 3 (.int .i64 0) 8 rfl Try.underlying37 info3 rfl (by decide) (by omega) v258 y257 l0 _ _ _ (fun _ => True) (fun _ => False) rfl rfl ?aO ?aR (fun _ _ h => h) (fun _ h => h.elim) ?aF ?aB ?aS ?aL ?_;(case aR => repeat (first|exact (Kd.C_below HR0.out HB.out)|(with_reducible refine Kd.C_alloc ?_ _)|(with_reducible refine Kd.C_drewN ?_ _)|(with_reducible refine Kd.C_drew ?_)));(case aB => exact (by repeat (first|(with_reducible first|exact HB.out|apply below_alloc|apply pw_below_drewN|apply below_drew1)|exact HB.out)));(case aF => exact (fun _ _ => trivial));(case aO => exact (by (with_reducible repeat (first|apply Kd.R_alloc|apply Kd.R_drewN|apply Kd.R_drew)); exact HO259.out));(case aS => exact (below_size (by repeat (first|(with_reducible first|exact HB.out|apply below_alloc|apply pw_below_drewN|apply below_drew1)|exact HB.out))));(case aL => have := LMc2.out; omega); intro v261 w5 ho hb hg hat; rw [← Ny260.out] at ho; have n0_ := Aside0.mk (hb); have n1_ := Aside0.mk (ho); clear HB; clear HO259; have HB := n0_; have HO262 := n1_; clear n0_ n1_; clear ho hb hg hat))
    go_ret
    exact ⟨_, by first | rfl|(simp [errW_none, errW_some] <;> rfl)|(simp [*, errW_none, errW_some] <;> rfl), by (with_reducible repeat (first|apply Kd.R_alloc|apply Kd.R_drewN|apply Kd.R_drew)); exact HO262.out, by repeat (first|(with_reducible first|exact HB.out|apply below_alloc|apply pw_below_drewN|apply below_drew1)|exact HB.out)⟩
  · rw [if_neg c2] at H
    exact absurd H (by simp)

end Go.Proofs.Ytlbbkepkincleaa.QFnAreas
