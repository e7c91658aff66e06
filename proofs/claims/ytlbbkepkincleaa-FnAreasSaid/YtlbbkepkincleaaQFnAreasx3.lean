/- Written by a program of this session (the kit's printer, with leaf contracts proved by hand put in): what each Go function computes, and that the call computes it. No condition but those that each theorem names. -/
import Derived.Test.YtlbbkepkincleaaQFnAreasx0
import Derived.Test.YtlbbkepkincleaaQFnAreasx1
import Derived.Test.YtlbbkepkincleaaQFnAreasx2
namespace Go.Proofs.Ytlbbkepkincleaa.QFnAreas
open Go.RowKit Go.Proofs.YtlbbkepkincleaaW.PrintWords Go.Proofs.YtlbbkepkincleaaW.PrintLast Go.Proofs.YtlbbkepkincleaaW.PrintMore
attribute [local go_sem] max2_int min2_int max_two min_two max_three min_three max_four min_four   -- for this text's walks alone
set_option linter.unusedVariables false
set_option linter.unusedSimpArgs false

/-! ### spec_AreaOf: function 24 -/
def spec_AreaOf.f (k : Nat) (a0 : Int) (l1 : List Int) : Option (List Int × Bool) := (spec_jrGeneration.f a0).bind fun t187 => (if t187 = true then ((spec_jrState.f k l1).bind fun t188 => (if t188 = true then ((spec_jrMake.f k a0 l1).bind fun t189 => (some (t189, true))) else (some (([] : List Int), false)))) else (some (([] : List Int), false)))
theorem spec_AreaOf.mono : ∀ a0 a1 k, LeO (spec_AreaOf.f k a0 a1) (spec_AreaOf.f (k + 1) a0 a1) := by
  intro a0 a1 k
  unfold spec_AreaOf.f
  repeat' first
     |(with_reducible exact spec_jrMake.mono _ _ _)
     |(with_reducible exact spec_jrState.mono _ _)
     |(with_reducible exact LeO.refl _)
     |(with_reducible exact LeO.none _)
     |(with_reducible refine LeO.ite ?_ ?_)
     |(with_reducible refine LeO.bind ?_ (fun _ => ?_))
     |exact spec_jrMake.mono _ _ _
     |exact spec_jrState.mono _ _
     |exact LeO.none _
      | refine LeO.ite ?_ ?_
      | refine LeO.bind ?_ (fun _ => ?_)
set_option maxHeartbeats 8000000 in
set_option maxRecDepth 100000 in
theorem spec_AreaOf.calls (k : Nat) (a0 : Int) (A1 : Option Addr) (c1 : Nat) (l1 : List Int) (r1 : List Int) (r2 : Bool) (w : World) (hr1 : Kd.C (Kd.int .i64) w A1 l1.length l1) (hc1 : l1.length ≤ c1) (h : spec_AreaOf.f k a0 l1 = some (r1, r2)) :
    Calls Try.prog 24 #[.int .i64 a0, .slice A1 l1.length c1] w fun e w' => ∃ v0_ : Value, e = .returned (.tuple #[v0_, .bool r2]) ∧ Kd.R (Kd.int .i64) 3 w' w.heap.size (fun _ => True) v0_ r1 ∧ Below w.heap.size w w' := by
  have HR1 := Aside0.mk hr1
  have HC1 := Aside0.mk hc1
  clear hr1 hc1
  have HB := Aside0.mk (Below.refl w.heap.size w)
  have H : ((spec_jrGeneration.f a0).bind fun t187 => (if t187 = true then ((spec_jrState.f k l1).bind fun t188 => (if t188 = true then ((spec_jrMake.f k a0 l1).bind fun t189 => (some (t189, true))) else (some (([] : List Int), false)))) else (some (([] : List Int), false)))) = some (r1, r2) := h
  clear h
  replace H := Option.bind_eq_some_iff.mp H
  obtain ⟨t187, A30, H⟩ := H
  try dsimp only at H
  have A3 := Aside0.mk A30
  clear A30
  by_cases c4 : t187 = true
  · subst c4
    have H1 : ((spec_jrState.f k l1).bind fun t188 => (if t188 = true then ((spec_jrMake.f k a0 l1).bind fun t189 => (some (t189, true))) else (some (([] : List Int), false)))) = some (r1, r2) := by rw [if_pos rfl] at H; exact H
    clear H
    have H := H1
    clear H1
    replace H := Option.bind_eq_some_iff.mp H
    obtain ⟨t188, A50, H⟩ := H
    try dsimp only at H
    have A5 := Aside0.mk A50
    clear A50
    by_cases c6 : t188 = true
    · subst c6
      have H1 : ((spec_jrMake.f k a0 l1).bind fun t189 => (some (t189, true))) = some (r1, r2) := by rw [if_pos rfl] at H; exact H
      clear H
      have H := H1
      clear H1
      replace H := Option.bind_eq_some_iff.mp H
      obtain ⟨t189, A70, H⟩ := H
      try dsimp only at H
      have A7 := Aside0.mk A70
      clear A70
      simp only [Option.some.injEq, Prod.mk.injEq] at H
      obtain ⟨rfl, rfl⟩ := H
      go_enter Try.func24, Try.ntmps24
      go_wp2_with (first|((with_reducible refine gate_callee (f := 86) rfl ?_); refine goesL_ (some 7) rfl rfl Try.func86 (by kernel_rfl) rfl #[.int .i64 a0] rfl (by (try simp only [List.map_toArray, List.map_cons, List.map_nil]); first | done | rfl|(simp only [List.length_drop, List.length_take]; rfl)) ?_; (with_reducible refine (spec_jrGeneration.calls a0 true _ A3.out).mono ?_); rintro e w' ⟨rfl, ⟨nd, rfl⟩⟩; refine ⟨_, rfl, ?_⟩)|(go_at_call 87; (with_reducible refine (spec_jrState.calls k _ _ l1 true _ ?side1 ?side2 A5.out).mono ?_);(case side1 => repeat (first|exact HR1.out|(with_reducible refine Kd.C_alloc ?_ _)|(with_reducible refine Kd.C_drewN ?_ _)|(with_reducible refine Kd.C_drew ?_)));(case side2 => exact HC1.out); rintro e w' ⟨rfl, ⟨nd, rfl⟩⟩)|((with_reducible refine gate_callee (f := 88) rfl ?_); refine goesL_ (some 16) rfl rfl Try.func88 (by kernel_rfl) rfl #[.int .i64 a0, .slice A1 l1.length c1] rfl (by (try simp only [List.map_toArray, List.map_cons, List.map_nil]); first | done | rfl|(simp only [List.length_drop, List.length_take]; rfl)) ?_; (with_reducible refine (spec_jrMake.calls k a0 _ _ l1 t189 _ ?side1 ?side2 A7.out).mono ?_);(case side1 => repeat (first|exact HR1.out|(with_reducible refine Kd.C_alloc ?_ _)|(with_reducible refine Kd.C_drewN ?_ _)|(with_reducible refine Kd.C_drew ?_)));(case side2 => exact HC1.out); rintro e w8 ⟨v190, rfl, ho0, hb⟩; refine ⟨_, rfl, ?_⟩; have n0_ := Aside0.mk (Kd.R_lower ho0 (below_size (by repeat (first|(with_reducible first|exact HB.out|apply below_alloc|apply pw_below_drewN|apply below_drew1)|exact HB.out)))); have n1_ := Aside0.mk (below_step (by repeat (first|(with_reducible first|exact HB.out|apply below_alloc|apply pw_below_drewN|apply below_drew1)|exact HB.out)) hb); clear HB; have HO191 := n0_; have HB := n1_; clear n0_ n1_; (try clear hb); (try clear hb2); (try clear hk); (try clear hi); (try clear ho0)))
      go_ret2
      exact ⟨_, by first | rfl|(simp [errW_none, errW_some] <;> rfl)|(simp [*, errW_none, errW_some] <;> rfl), by (with_reducible repeat (first|apply Kd.R_alloc|apply Kd.R_drewN|apply Kd.R_drew)); exact HO191.out, by repeat (first|(with_reducible first|exact HB.out|apply below_alloc|apply pw_below_drewN|apply below_drew1)|exact HB.out)⟩
    · replace c6 := Bool.eq_false_iff.mpr c6
      subst c6
      have H1 : (some (([] : List Int), false)) = some (r1, r2) := by rw [if_neg (show ¬ (false = true) by decide)] at H; exact H
      clear H
      have H := H1
      clear H1
      simp only [Option.some.injEq, Prod.mk.injEq] at H
      obtain ⟨rfl, rfl⟩ := H
      go_enter Try.func24, Try.ntmps24
      go_wp2_with (first|((with_reducible refine gate_callee (f := 86) rfl ?_); refine goesL_ (some 7) rfl rfl Try.func86 (by kernel_rfl) rfl #[.int .i64 a0] rfl (by (try simp only [List.map_toArray, List.map_cons, List.map_nil]); first | done | rfl|(simp only [List.length_drop, List.length_take]; rfl)) ?_; (with_reducible refine (spec_jrGeneration.calls a0 true _ A3.out).mono ?_); rintro e w' ⟨rfl, ⟨nd, rfl⟩⟩; refine ⟨_, rfl, ?_⟩)|(go_at_call 87; (with_reducible refine (spec_jrState.calls k _ _ l1 false _ ?side1 ?side2 A5.out).mono ?_);(case side1 => repeat (first|exact HR1.out|(with_reducible refine Kd.C_alloc ?_ _)|(with_reducible refine Kd.C_drewN ?_ _)|(with_reducible refine Kd.C_drew ?_)));(case side2 => exact HC1.out); rintro e w' ⟨rfl, ⟨nd, rfl⟩⟩))
      go_ret2
      exact ⟨_, by first | rfl|(simp [errW_none, errW_some] <;> rfl)|(simp [*, errW_none, errW_some] <;> rfl), by first|exact Kd.R_nil _ _ _ _ _|exact Kd.N_nil _ _ _ _ _|exact Kd.V_nil _ _ _ _ _|exact Kd.Q_nil _ _ _ _ _|exact Kd.S_nil _ _ _ _ _, by repeat (first|(with_reducible first|exact HB.out|apply below_alloc|apply pw_below_drewN|apply below_drew1)|exact HB.out)⟩
  · replace c4 := Bool.eq_false_iff.mpr c4
    subst c4
    have H1 : (some (([] : List Int), false)) = some (r1, r2) := by rw [if_neg (show ¬ (false = true) by decide)] at H; exact H
    clear H
    have H := H1
    clear H1
    simp only [Option.some.injEq, Prod.mk.injEq] at H
    obtain ⟨rfl, rfl⟩ := H
    go_enter Try.func24, Try.ntmps24
    go_wp2_with (first|((with_reducible refine gate_callee (f := 86) rfl ?_); refine goesL_ (some 7) rfl rfl Try.func86 (by kernel_rfl) rfl #[.int .i64 a0] rfl (by (try simp only [List.map_toArray, List.map_cons, List.map_nil]); first | done | rfl|(simp only [List.length_drop, List.length_take]; rfl)) ?_; (with_reducible refine (spec_jrGeneration.calls a0 false _ A3.out).mono ?_); rintro e w' ⟨rfl, ⟨nd, rfl⟩⟩; refine ⟨_, rfl, ?_⟩))
    go_ret2
    exact ⟨_, by first | rfl|(simp [errW_none, errW_some] <;> rfl)|(simp [*, errW_none, errW_some] <;> rfl), by first|exact Kd.R_nil _ _ _ _ _|exact Kd.N_nil _ _ _ _ _|exact Kd.V_nil _ _ _ _ _|exact Kd.Q_nil _ _ _ _ _|exact Kd.S_nil _ _ _ _ _, by repeat (first|(with_reducible first|exact HB.out|apply below_alloc|apply pw_below_drewN|apply below_drew1)|exact HB.out)⟩

/-! ### spec_DrawWriteAll: function 25 -/
mutual
def spec_DrawWriteAll.j0 : Nat → List (List Int) → Int → List Int → Int → Int → Option ((List (List Int)))
  | 0, _, _, _, _, _ => none
  | k + 1, x4, x5, x193000, x193001, x193002 => spec_DrawWriteAll.l0 k x4 x5 x193000 x193001 x193002
def spec_DrawWriteAll.l0 : Nat → List (List Int) → Int → List Int → Int → Int → Option ((List (List Int)))
  | 0, _, _, _, _, _ => none
  | k + 1, x4, x5, x193000, x193001, x193002 => if (x4.length : Int) < x5 then ((spec_l1Cur_stateOf.f k x193000 x193001 x193002).bind fun bt202 => ((spec_jrState.f k bt202.1).bind fun t207 => (if t207 = true then (if x4.length < 5864062014805 then (spec_DrawWriteAll.l0 k (x4 ++ [bt202.1]) x5 x193000 bt202.2.1 bt202.2.2) else (none)) else ((spec_l1Cur_one.f x193000 bt202.2.1 bt202.2.2 6).bind fun bt211 => (if bt211.1 = true then (if x4.length < 5864062014805 then (spec_DrawWriteAll.l0 k (x4 ++ [bt202.1]) x5 x193000 bt211.2.1 bt211.2.2) else (none)) else (spec_DrawWriteAll.l0 k x4 x5 x193000 bt211.2.1 bt211.2.2)))))) else (some x4)
end
def spec_DrawWriteAll.f (k : Nat) (l0 : List Int) : Option ((List (List Int))) := (spec_l1Cur_pick.f l0 0 0 6).bind fun bt193 => ((spec_l1Cur_one.f l0 bt193.2.1 bt193.2.2 20).bind fun bt196 => (if bt196.1 = true then ((spec_l1Cur_pick.f l0 bt196.2.1 bt196.2.2 2).bind fun bt199 => (spec_DrawWriteAll.j0 k ([] : List (List Int)) (wrap64 (40 + bt199.1)) l0 bt199.2.1 bt199.2.2)) else (spec_DrawWriteAll.j0 k ([] : List (List Int)) bt193.1 l0 bt196.2.1 bt196.2.2)))
theorem spec_DrawWriteAll.mono_l : ∀ k, (∀ y0 y1 y2 y3 y4, LeO (spec_DrawWriteAll.j0 k y0 y1 y2 y3 y4) (spec_DrawWriteAll.j0 (k + 1) y0 y1 y2 y3 y4)) ∧ (∀ y0 y1 y2 y3 y4, LeO (spec_DrawWriteAll.l0 k y0 y1 y2 y3 y4) (spec_DrawWriteAll.l0 (k + 1) y0 y1 y2 y3 y4))
  | 0 => ⟨fun _ _ _ _ _ r h => by simp [spec_DrawWriteAll.j0] at h, fun _ _ _ _ _ r h => by simp [spec_DrawWriteAll.l0] at h⟩
  | k + 1 => by
    obtain ⟨ih0, ih1⟩ := spec_DrawWriteAll.mono_l k
    refine ⟨?_, ?_⟩
    · intro y0 y1 y2 y3 y4
      unfold spec_DrawWriteAll.j0
      repeat' first
     |(with_reducible exact ih0 _ _ _ _ _)
     |(with_reducible exact ih1 _ _ _ _ _)
     |(with_reducible exact spec_jrState.mono _ _)
     |(with_reducible exact spec_l1Cur_stateOf.mono _ _ _ _)
     |(with_reducible exact LeO.refl _)
     |(with_reducible exact LeO.none _)
     |(with_reducible refine LeO.ite ?_ ?_)
     |(with_reducible refine LeO.bind ?_ (fun _ => ?_))
     |exact ih0 _ _ _ _ _
     |exact ih1 _ _ _ _ _
     |exact spec_jrState.mono _ _
     |exact spec_l1Cur_stateOf.mono _ _ _ _
     |exact LeO.none _
      | refine LeO.ite ?_ ?_
      | refine LeO.bind ?_ (fun _ => ?_)
    · intro y0 y1 y2 y3 y4
      unfold spec_DrawWriteAll.l0
      repeat' first
     |(with_reducible exact ih0 _ _ _ _ _)
     |(with_reducible exact ih1 _ _ _ _ _)
     |(with_reducible exact spec_jrState.mono _ _)
     |(with_reducible exact spec_l1Cur_stateOf.mono _ _ _ _)
     |(with_reducible exact LeO.refl _)
     |(with_reducible exact LeO.none _)
     |(with_reducible refine LeO.ite ?_ ?_)
     |(with_reducible refine LeO.bind ?_ (fun _ => ?_))
     |exact ih0 _ _ _ _ _
     |exact ih1 _ _ _ _ _
     |exact spec_jrState.mono _ _
     |exact spec_l1Cur_stateOf.mono _ _ _ _
     |exact LeO.none _
      | refine LeO.ite ?_ ?_
      | refine LeO.bind ?_ (fun _ => ?_)
theorem spec_DrawWriteAll.mono : ∀ a0 k, LeO (spec_DrawWriteAll.f k a0) (spec_DrawWriteAll.f (k + 1) a0) := by
  intro a0 k
  obtain ⟨ih0, ih1⟩ := spec_DrawWriteAll.mono_l k
  unfold spec_DrawWriteAll.f
  repeat' first
     |(with_reducible exact ih0 _ _ _ _ _)
     |(with_reducible exact ih1 _ _ _ _ _)
     |(with_reducible exact spec_jrState.mono _ _)
     |(with_reducible exact spec_l1Cur_stateOf.mono _ _ _ _)
     |(with_reducible exact LeO.refl _)
     |(with_reducible exact LeO.none _)
     |(with_reducible refine LeO.ite ?_ ?_)
     |(with_reducible refine LeO.bind ?_ (fun _ => ?_))
     |exact ih0 _ _ _ _ _
     |exact ih1 _ _ _ _ _
     |exact spec_jrState.mono _ _
     |exact spec_l1Cur_stateOf.mono _ _ _ _
     |exact LeO.none _
      | refine LeO.ite ?_ ?_
      | refine LeO.bind ?_ (fun _ => ?_)
set_option maxHeartbeats 8000000 in
set_option maxRecDepth 100000 in
theorem spec_DrawWriteAll.calls (k : Nat) (A0 : Option Addr) (c0 : Nat) (l0 : List Int) (r : List (List Int)) (w : World) (hr0 : Kd.C (Kd.int .u8) w A0 l0.length l0) (hc0 : l0.length ≤ c0) (h : spec_DrawWriteAll.f k l0 = some r) :
    Calls Try.prog 25 #[.slice A0 l0.length c0] w fun e w' => ∃ v0_ : Value, e = .returned (v0_) ∧ Kd.S (Kd.slice 3 (Kd.int .i64)) 37 w' w.heap.size (fun _ => True) v0_ r ∧ Below w.heap.size w w' := by
  have hu90 := Try.underlying90
  have HR0 := Aside0.mk hr0
  have HC0 := Aside0.mk hc0
  clear hr0 hc0
  have HB := Aside0.mk (Below.refl w.heap.size w)
  have H : ((spec_l1Cur_pick.f l0 0 0 6).bind fun bt193 => ((spec_l1Cur_one.f l0 bt193.2.1 bt193.2.2 20).bind fun bt196 => (if bt196.1 = true then ((spec_l1Cur_pick.f l0 bt196.2.1 bt196.2.2 2).bind fun bt199 => (spec_DrawWriteAll.j0 k ([] : List (List Int)) (wrap64 (40 + bt199.1)) l0 bt199.2.1 bt199.2.2)) else (spec_DrawWriteAll.j0 k ([] : List (List Int)) bt193.1 l0 bt196.2.1 bt196.2.2)))) = some r := h
  clear h
  replace H := Option.bind_eq_some_iff.mp H
  obtain ⟨⟨t193, t194, t195⟩, A20, H⟩ := H
  try dsimp only at H
  have A2 := Aside0.mk A20
  clear A20
  replace H := Option.bind_eq_some_iff.mp H
  obtain ⟨⟨t196, t197, t198⟩, A30, H⟩ := H
  try dsimp only at H
  have A3 := Aside0.mk A30
  clear A30
  have HC4 := Aside0.mk H
  clear H
  go_enter Try.func25, Try.ntmps25
  go_upto_if 13 with (first|((with_reducible refine gate_dst (N := 9) rfl ?_); refine box_event ?hg (N := 9) ?hd (cs := #[.slice A0 l0.length c0, .int .i64 0, .int .u64 0]) (t := 90) ?hr ?_;(case hd => rfl);(case hg => rfl);(case hr => first|(go_simp;done)|(go_simp; rfl)); intro g192 hg w5 hbox hb; have n0_ := Aside0.mk (below_step (by repeat (first|(with_reducible first|exact HB.out|apply below_alloc|apply pw_below_drewN|apply below_drew1)|exact HB.out)) hb); have n1_ := Aside0.mk ((⟨_, _, hbox, by rw [hg]; exact (below_size (by repeat (first|(with_reducible first|exact HB.out|apply below_alloc|apply pw_below_drewN|apply below_drew1)|exact HB.out))), HR0.out⟩ : IsS90 w w5 g192 l0 0 0)); clear HB; have HB := n0_; have HI192 := n1_; clear n0_ n1_; clear hb hbox hg)|((with_reducible refine gate_callee (f := 89) rfl ?_); refine goesL_ (some 11) rfl rfl Try.func89 (by kernel_rfl) rfl #[.pointer (some ⟨g192, 0, none⟩), .int .i64 6] rfl (by (try simp only [List.map_toArray, List.map_cons, List.map_nil]); first | done | rfl|(simp only [List.length_drop, List.length_take]; rfl)) ?_; (with_reducible refine (spec_l1Cur_pick.calls g192 l0 0 0 6 t193 t194 t195 w _ ?side1 ?side2 A2.out).mono ?_);(case side1 => repeat (first|(with_reducible first|exact HI192.out|apply IsS90.alloc|apply IsS90.drewN|apply IsS90.drew|apply IsS90.set_1|apply IsS90.set_2)|exact HI192.out));(case side2 => repeat (first|(with_reducible first|exact HB.out|apply below_alloc|apply pw_below_drewN|apply below_drew1 | refine below_set ?_ (IsS90.ge HI192.out))|exact HB.out)); rintro e w6 ⟨rfl, hi, hb, hk⟩; refine ⟨_, rfl, ?_⟩; have n0_ := Aside0.mk (hb); have n1_ := Aside0.mk (hi); clear HB; clear HI192; have HB := n0_; have HI192 := n1_; clear n0_ n1_; (try clear hb); (try clear hb2); (try clear hk); (try clear hi))|((with_reducible refine gate_callee (f := 90) rfl ?_); refine goesL_ (some 13) rfl rfl Try.func90 (by kernel_rfl) rfl #[.pointer (some ⟨g192, 0, none⟩), .int .i64 20] rfl (by (try simp only [List.map_toArray, List.map_cons, List.map_nil]); first | done | rfl|(simp only [List.length_drop, List.length_take]; rfl)) ?_; (with_reducible refine (spec_l1Cur_one.calls g192 l0 t194 t195 20 t196 t197 t198 w _ ?side1 ?side2 A3.out).mono ?_);(case side1 => repeat (first|(with_reducible first|exact HI192.out|apply IsS90.alloc|apply IsS90.drewN|apply IsS90.drew|apply IsS90.set_1|apply IsS90.set_2)|exact HI192.out));(case side2 => repeat (first|(with_reducible first|exact HB.out|apply below_alloc|apply pw_below_drewN|apply below_drew1 | refine below_set ?_ (IsS90.ge HI192.out))|exact HB.out)); rintro e w7 ⟨rfl, hi, hb, hk⟩; refine ⟨_, rfl, ?_⟩; have n0_ := Aside0.mk (hb); have n1_ := Aside0.mk (hi); clear HB; clear HI192; have HB := n0_; have HI192 := n1_; clear n0_ n1_; (try clear hb); (try clear hb2); (try clear hk); (try clear hi)))
  (try simp only [Act.put, List.setIfInBounds_toArray, List.set_cons_zero, List.set_cons_succ])
  go_cut [5] (fun v5 wc => ∃ (kq : Nat) (x5_3 : Int) (x193001_3 : Int) (x193002_3 : Int), v5 = .int .i64 x5_3 ∧ Aside0 (spec_DrawWriteAll.j0 kq ([] : List (List Int)) x5_3 l0 x193001_3 x193002_3 = some r) ∧ Aside0 (kq ≤ k) ∧ Aside0 (Kd.S (Kd.slice 3 (Kd.int .i64)) 37 wc w.heap.size (fun _ => True) (.slice none 0 0) ([] : List (List Int))) ∧ Aside0 (IsS90 w wc g192 l0 x193001_3 x193002_3) ∧ Aside0 (Below w.heap.size w wc))
  case first =>
    have H := HC4.out
    clear HC4
    by_cases c8 : t196 = true
    · subst c8
      have H1 : ((spec_l1Cur_pick.f l0 t197 t198 2).bind fun bt199 => (spec_DrawWriteAll.j0 k ([] : List (List Int)) (wrap64 (40 + bt199.1)) l0 bt199.2.1 bt199.2.2)) = some r := by rw [if_pos rfl] at H; exact H
      clear H
      have H := H1
      clear H1
      replace H := Option.bind_eq_some_iff.mp H
      obtain ⟨⟨t199, t200, t201⟩, A90, H⟩ := H
      try dsimp only at H
      have A9 := Aside0.mk A90
      clear A90
      have H' := Aside0.mk H
      clear H
      go_wp2_with (first|((with_reducible refine gate_callee (f := 89) rfl ?_); refine goesL_ (some 15) rfl rfl Try.func89 (by kernel_rfl) rfl #[.pointer (some ⟨g192, 0, none⟩), .int .i64 2] rfl (by (try simp only [List.map_toArray, List.map_cons, List.map_nil]); first | done | rfl|(simp only [List.length_drop, List.length_take]; rfl)) ?_; (with_reducible refine (spec_l1Cur_pick.calls g192 l0 t197 t198 2 t199 t200 t201 w _ ?side1 ?side2 A9.out).mono ?_);(case side1 => repeat (first|(with_reducible first|exact HI192.out|apply IsS90.alloc|apply IsS90.drewN|apply IsS90.drew|apply IsS90.set_1|apply IsS90.set_2)|exact HI192.out));(case side2 => repeat (first|(with_reducible first|exact HB.out|apply below_alloc|apply pw_below_drewN|apply below_drew1 | refine below_set ?_ (IsS90.ge HI192.out))|exact HB.out)); rintro e w10 ⟨rfl, hi, hb, hk⟩; refine ⟨_, rfl, ?_⟩; have n0_ := Aside0.mk (hb); have n1_ := Aside0.mk (hi); clear HB; clear HI192; have HB := n0_; have HI192 := n1_; clear n0_ n1_; (try clear hb); (try clear hb2); (try clear hk); (try clear hi)))
      go_meet
      case rel => exact ⟨_, (wrap64 (40 + t199)), (t200), (t201), (by first | rfl|(simp;done)|(simp [*];done)), H', ⟨by first | omega|exact Nat.le_refl _⟩, ⟨by first|exact Kd.S_nil _ _ _ _ _|exact Kd.N_nil _ _ _ _ _|exact Kd.V_nil _ _ _ _ _|exact Kd.Q_nil _ _ _ _ _|exact Kd.R_nil _ _ _ _ _⟩, ⟨by repeat (first|(with_reducible first|exact HI192.out|apply IsS90.alloc|apply IsS90.drewN|apply IsS90.drew|apply IsS90.set_1|apply IsS90.set_2)|exact HI192.out)⟩, ⟨by repeat (first|(with_reducible first|exact HB.out|apply below_alloc|apply pw_below_drewN|apply below_drew1 | refine below_set ?_ (IsS90.ge HI192.out))|exact HB.out)⟩⟩
    · replace c8 := Bool.eq_false_iff.mpr c8
      subst c8
      have H1 : (spec_DrawWriteAll.j0 k ([] : List (List Int)) t193 l0 t197 t198) = some r := by rw [if_neg (show ¬ (false = true) by decide)] at H; exact H
      clear H
      have H := H1
      clear H1
      have H' := Aside0.mk H
      clear H
      go_wp2
      go_meet
      case rel => exact ⟨_, (t193), (t197), (t198), (by first | rfl|(simp;done)|(simp [*];done)), H', ⟨by first | omega|exact Nat.le_refl _⟩, ⟨by first|exact Kd.S_nil _ _ _ _ _|exact Kd.N_nil _ _ _ _ _|exact Kd.V_nil _ _ _ _ _|exact Kd.Q_nil _ _ _ _ _|exact Kd.R_nil _ _ _ _ _⟩, ⟨by repeat (first|(with_reducible first|exact HI192.out|apply IsS90.alloc|apply IsS90.drewN|apply IsS90.drew|apply IsS90.set_1|apply IsS90.set_2)|exact HI192.out)⟩, ⟨by repeat (first|(with_reducible first|exact HB.out|apply below_alloc|apply pw_below_drewN|apply below_drew1 | refine below_set ?_ (IsS90.ge HI192.out))|exact HB.out)⟩⟩
  case rest =>
    clear HC4
    try clear c2
    try clear p2
    try clear p6
    try clear c8
    try clear c9
    obtain ⟨kq, x5_3, x193001_3, x193002_3, rfl, HA, HJ3, HO_4, HI192, HB⟩ := hcut
    cases kq with
    | zero => exact absurd HA.out (by simp [spec_DrawWriteAll.j0])
    | succ kj3 =>
      have H := HA.out
      clear HA
      simp only [spec_DrawWriteAll.j0] at H
      have H' := Aside0.mk H
      clear H
      go_wp2
      go_loopg [4] kj3 (fun kq v4 w' => ∃ (x4_2 : List (List Int)) (x193001_2 : Int) (x193002_2 : Int), Aside0 (spec_DrawWriteAll.l0 kq x4_2 x5_3 l0 x193001_2 x193002_2 = some r) ∧ Aside0 (kq ≤ kj3) ∧ Aside0 (Kd.S (Kd.slice 3 (Kd.int .i64)) 37 w' w.heap.size (fun _ => True) v4 x4_2) ∧ Aside0 (IsS90 w w' g192 l0 x193001_2 x193002_2) ∧ Aside0 (Below w.heap.size w w'))
      case atStart => exact ⟨(([] : List (List Int))), (x193001_3), (x193002_3), H', ⟨Nat.le_refl _⟩, ⟨by (with_reducible repeat (first|apply Kd.S_alloc|apply Kd.S_drewN|apply Kd.S_drew)); exact HO_4.out⟩, ⟨by repeat (first|(with_reducible first|exact HI192.out|apply IsS90.alloc|apply IsS90.drewN|apply IsS90.drew|apply IsS90.set_1|apply IsS90.set_2)|exact HI192.out)⟩, ⟨by repeat (first|(with_reducible first|exact HB.out|apply below_alloc|apply pw_below_drewN|apply below_drew1 | refine below_set ?_ (IsS90.ge HI192.out))|exact HB.out)⟩⟩
      case round =>
        clear H'
        try clear c2
        try clear p2
        try clear p6
        try clear c8
        try clear c9
        try clear p2
        try clear p6
        obtain ⟨x4_2, x193001_2, x193002_2, HA, HK2, HO_4, HI192, HB⟩ := hrel
        cases gk with
        | zero => exact absurd HA.out (by simp [spec_DrawWriteAll.l0])
        | succ k2 =>
          have H := HA.out
          clear HA
          simp only [spec_DrawWriteAll.l0] at H
          by_cases c11 : (x4_2.length : Int) < x5_3
          · rw [if_pos c11] at H
            have c11b0 : decide ((x4_2.length : Int) < x5_3) = true := decide_eq_true c11
            clear c11
            replace H := Option.bind_eq_some_iff.mp H
            obtain ⟨⟨t202, t205, t206⟩, A120, H⟩ := H
            try dsimp only at H
            have A12 := Aside0.mk A120
            clear A120
            replace H := Option.bind_eq_some_iff.mp H
            obtain ⟨t207, A130, H⟩ := H
            try dsimp only at H
            have A13 := Aside0.mk A130
            clear A130
            by_cases c14 : t207 = true
            · subst c14
              have H1 : (if x4_2.length < 5864062014805 then (spec_DrawWriteAll.l0 k2 (x4_2 ++ [t202]) x5_3 l0 t205 t206) else (none)) = some r := by rw [if_pos rfl] at H; exact H
              clear H
              have H := H1
              clear H1
              by_cases c15 : x4_2.length < 5864062014805
              · rw [if_pos c15] at H
                have LMc15 := Aside0.mk c15
                clear c15
                obtain ⟨y208, hy208⟩ : ∃ y_ : List (List Int), y_ = (x4_2 ++ [t202]) := ⟨_, rfl⟩
                replace H : (spec_DrawWriteAll.l0 k2 y208 x5_3 l0 t205 t206) = some r := by first|(rw [hy208]; with_reducible exact H)|(have H2_ := (Option.bind_some _ _).symm.trans H; rw [hy208]; with_reducible exact H2_)|(have H2_ := (Option.bind_some _ _).symm.trans H; with_reducible exact H2_) | with_reducible exact H|(rw [hy208]; exact H)|exact H
                have Ny208 := Aside0.mk hy208
                clear hy208
                have H' := Aside0.mk H
                clear H
                obtain ⟨Ao16, co16, eo16⟩ := Kd.S_slice HO_4.out
                subst eo16
                go_wp2_with (first|((with_reducible refine gate_callee (f := 84) rfl ?_); refine goesL_ (some 22) rfl rfl Try.func84 (by kernel_rfl) rfl #[.pointer (some ⟨g192, 0, none⟩)] rfl (by (try simp only [List.map_toArray, List.map_cons, List.map_nil]); first | done | rfl|(simp only [List.length_drop, List.length_take]; rfl)) ?_; (with_reducible refine (spec_l1Cur_stateOf.calls k2 g192 l0 x193001_2 x193002_2 t202 t205 t206 w _ ?side1 ?side2 A12.out).mono ?_);(case side1 => repeat (first|(with_reducible first|exact HI192.out|apply IsS90.alloc|apply IsS90.drewN|apply IsS90.drew|apply IsS90.set_1|apply IsS90.set_2)|exact HI192.out));(case side2 => repeat (first|(with_reducible first|exact HB.out|apply below_alloc|apply pw_below_drewN|apply below_drew1 | refine below_set ?_ (IsS90.ge HI192.out))|exact HB.out)); rintro e w17 ⟨v203, rfl, ho0, hi, hb, hk⟩; refine ⟨_, rfl, ?_⟩; have n0_ := Aside0.mk (Kd.S_mono (Kd.S_told (Kd.S_oldK (IsS90.apartS (show IsS90 w _ g192 l0 x193001_2 x193002_2 from by repeat (first|(with_reducible first|exact HI192.out|apply IsS90.alloc|apply IsS90.drewN|apply IsS90.drew|apply IsS90.set_1|apply IsS90.set_2)|exact HI192.out)) (by (with_reducible repeat (first|apply Kd.S_alloc|apply Kd.S_drewN|apply Kd.S_drew)); exact HO_4.out) (by decide)) hk) (Kd.R_base ho0)) (fun _ h_ => h_.1)); have n1_ := Aside0.mk (Kd.R_lower ho0 (below_size (by repeat (first|(with_reducible first|exact HB.out|apply below_alloc|apply pw_below_drewN|apply below_drew1 | refine below_set ?_ (IsS90.ge HI192.out))|exact HB.out)))); have n2_ := Aside0.mk (hb); have n3_ := Aside0.mk (hi); clear HO_4; clear HB; clear HI192; have HO_4 := n0_; have HO204 := n1_; have HB := n2_; have HI192 := n3_; clear n0_ n1_ n2_ n3_; (try clear hb); (try clear hb2); (try clear hk); (try clear hi); (try clear ho0); obtain ⟨Ao18, co18, eo18⟩ := Kd.R_slice HO204.out; subst eo18)|((with_reducible refine gate_callee (f := 87) rfl ?_); refine goesL_ (some 24) rfl rfl Try.func87 (by kernel_rfl) rfl #[.slice Ao18 t202.length co18] rfl (by (try simp only [List.map_toArray, List.map_cons, List.map_nil]); first | done | rfl|(simp only [List.length_drop, List.length_take]; rfl)) ?_; (with_reducible refine (spec_jrState.calls k2 _ _ t202 true _ ?side1 ?side2 A13.out).mono ?_);(case side1 => repeat (first|exact (Kd.R_reads' HO204.out).2.2|(with_reducible refine Kd.C_alloc ?_ _)|(with_reducible refine Kd.C_drewN ?_ _)|(with_reducible refine Kd.C_drew ?_)));(case side2 => exact (Kd.R_reads' HO204.out).2.1); rintro e w' ⟨rfl, ⟨nd, rfl⟩⟩; refine ⟨_, rfl, ?_⟩)|((with_reducible refine gate_builtin (b := .append) (xs := #[.tmp 29, .tmp 31]) rfl ?_); at_builtin; refine Kd.S_append (Kd.slice 3 (Kd.int .i64)) (w0 := w) w.heap.size rfl (.tmp 29) (.tmp 31) 47 37 (.slice none 0 0) 24 rfl Try.underlying47 info37 rfl (by decide) (by omega) (.slice Ao16 x4_2.length co16) x4_2 t202 [.slice Ao18 t202.length co18] (fun _ => True) (fun k_ => some k_ = (.slice Ao18 t202.length co18 : Value).ownBlock) rfl rfl ?aP (fun k_ hk_ => ((Kd.R_mono (ok' := fun k_ => ((fun _ => True)) k_ ∧ some k_ ≠ (.slice Ao16 x4_2.length co16 : Value).ownBlock) (Kd.R_apart' (HO204.out) (Kd.S_typed HO_4.out) (by decide)) (fun k_ hk => ⟨trivial, hk.2⟩))).1 k_ hk_.symm) ?aF ?aO ?aB ?aS ?aL ?_;(case aP => exact Kd.M_row (Kd.R_mono (Kd.R_tight rfl (Kd.R_mono (ok' := fun k_ => ((fun _ => True)) k_ ∧ some k_ ≠ (.slice Ao16 x4_2.length co16 : Value).ownBlock) (Kd.R_apart' (HO204.out) (Kd.S_typed HO_4.out) (by decide)) (fun k_ hk => ⟨trivial, hk.2⟩))) (fun _ h_ => h_)));(case aB => exact (by repeat (first|(with_reducible first|exact HB.out|apply below_alloc|apply pw_below_drewN|apply below_drew1 | refine below_set ?_ (IsS90.ge HI192.out))|exact HB.out)));(case aF => exact (fun _ _ => trivial));(case aO => exact (by (with_reducible repeat (first|apply Kd.S_alloc|apply Kd.S_drewN|apply Kd.S_drew)); exact Kd.S_mono HO_4.out (fun k_ hk => ⟨trivial, fun e_ => hk.2 e_⟩)));(case aS => exact (below_size (by repeat (first|(with_reducible first|exact HB.out|apply below_alloc|apply pw_below_drewN|apply below_drew1 | refine below_set ?_ (IsS90.ge HI192.out))|exact HB.out))));(case aL => have := LMc15.out; omega); intro v209 w19 ho hb hg hat; rw [← Ny208.out] at ho; have n0_ := Aside0.mk (IsS90.grown (by repeat (first|(with_reducible first|exact HI192.out|apply IsS90.alloc|apply IsS90.drewN|apply IsS90.drew|apply IsS90.set_1|apply IsS90.set_2)|exact HI192.out)) hg (IsS90.own_neS HI192.out HO_4.out (by decide))); have n1_ := Aside0.mk (hb); have n2_ := Aside0.mk (ho); clear HI192; clear HB; clear HO_4; clear HO204; have HI192 := n0_; have HB := n1_; have HO210 := n2_; clear n0_ n1_ n2_; clear ho hb hg hat))
                go_roundg k2
                case measure => have := HJ3.out; have := HK2.out; omega
                case rel => exact ⟨(y208), (t205), (t206), H', ⟨by have := HJ3.out; have := HK2.out; omega⟩, ⟨by (with_reducible repeat (first|apply Kd.S_alloc|apply Kd.S_drewN|apply Kd.S_drew)); exact HO210.out⟩, ⟨by repeat (first|(with_reducible first|exact HI192.out|apply IsS90.alloc|apply IsS90.drewN|apply IsS90.drew|apply IsS90.set_1|apply IsS90.set_2)|exact HI192.out)⟩, ⟨by repeat (first|(with_reducible first|exact HB.out|apply below_alloc|apply pw_below_drewN|apply below_drew1 | refine below_set ?_ (IsS90.ge HI192.out))|exact HB.out)⟩⟩
              · rw [if_neg c15] at H
                exact absurd H (by simp)
            · replace c14 := Bool.eq_false_iff.mpr c14
              subst c14
              have H1 : ((spec_l1Cur_one.f l0 t205 t206 6).bind fun bt211 => (if bt211.1 = true then (if x4_2.length < 5864062014805 then (spec_DrawWriteAll.l0 k2 (x4_2 ++ [t202]) x5_3 l0 bt211.2.1 bt211.2.2) else (none)) else (spec_DrawWriteAll.l0 k2 x4_2 x5_3 l0 bt211.2.1 bt211.2.2))) = some r := by rw [if_neg (show ¬ (false = true) by decide)] at H; exact H
              clear H
              have H := H1
              clear H1
              replace H := Option.bind_eq_some_iff.mp H
              obtain ⟨⟨t211, t212, t213⟩, A200, H⟩ := H
              try dsimp only at H
              have A20 := Aside0.mk A200
              clear A200
              by_cases c21 : t211 = true
              · subst c21
                have H1 : (if x4_2.length < 5864062014805 then (spec_DrawWriteAll.l0 k2 (x4_2 ++ [t202]) x5_3 l0 t212 t213) else (none)) = some r := by rw [if_pos rfl] at H; exact H
                clear H
                have H := H1
                clear H1
                by_cases c22 : x4_2.length < 5864062014805
                · rw [if_pos c22] at H
                  have LMc22 := Aside0.mk c22
                  clear c22
                  obtain ⟨y214, hy214⟩ : ∃ y_ : List (List Int), y_ = (x4_2 ++ [t202]) := ⟨_, rfl⟩
                  replace H : (spec_DrawWriteAll.l0 k2 y214 x5_3 l0 t212 t213) = some r := by first|(rw [hy214]; with_reducible exact H)|(have H2_ := (Option.bind_some _ _).symm.trans H; rw [hy214]; with_reducible exact H2_)|(have H2_ := (Option.bind_some _ _).symm.trans H; with_reducible exact H2_) | with_reducible exact H|(rw [hy214]; exact H)|exact H
                  have Ny214 := Aside0.mk hy214
                  clear hy214
                  have H' := Aside0.mk H
                  clear H
                  obtain ⟨Ao23, co23, eo23⟩ := Kd.S_slice HO_4.out
                  subst eo23
                  go_wp2_with (first|((with_reducible refine gate_callee (f := 84) rfl ?_); refine goesL_ (some 22) rfl rfl Try.func84 (by kernel_rfl) rfl #[.pointer (some ⟨g192, 0, none⟩)] rfl (by (try simp only [List.map_toArray, List.map_cons, List.map_nil]); first | done | rfl|(simp only [List.length_drop, List.length_take]; rfl)) ?_; (with_reducible refine (spec_l1Cur_stateOf.calls k2 g192 l0 x193001_2 x193002_2 t202 t205 t206 w _ ?side1 ?side2 A12.out).mono ?_);(case side1 => repeat (first|(with_reducible first|exact HI192.out|apply IsS90.alloc|apply IsS90.drewN|apply IsS90.drew|apply IsS90.set_1|apply IsS90.set_2)|exact HI192.out));(case side2 => repeat (first|(with_reducible first|exact HB.out|apply below_alloc|apply pw_below_drewN|apply below_drew1 | refine below_set ?_ (IsS90.ge HI192.out))|exact HB.out)); rintro e w24 ⟨v203, rfl, ho0, hi, hb, hk⟩; refine ⟨_, rfl, ?_⟩; have n0_ := Aside0.mk (Kd.S_mono (Kd.S_told (Kd.S_oldK (IsS90.apartS (show IsS90 w _ g192 l0 x193001_2 x193002_2 from by repeat (first|(with_reducible first|exact HI192.out|apply IsS90.alloc|apply IsS90.drewN|apply IsS90.drew|apply IsS90.set_1|apply IsS90.set_2)|exact HI192.out)) (by (with_reducible repeat (first|apply Kd.S_alloc|apply Kd.S_drewN|apply Kd.S_drew)); exact HO_4.out) (by decide)) hk) (Kd.R_base ho0)) (fun _ h_ => h_.1)); have n1_ := Aside0.mk (Kd.R_lower ho0 (below_size (by repeat (first|(with_reducible first|exact HB.out|apply below_alloc|apply pw_below_drewN|apply below_drew1 | refine below_set ?_ (IsS90.ge HI192.out))|exact HB.out)))); have n2_ := Aside0.mk (hb); have n3_ := Aside0.mk (hi); clear HO_4; clear HB; clear HI192; have HO_4 := n0_; have HO204 := n1_; have HB := n2_; have HI192 := n3_; clear n0_ n1_ n2_ n3_; (try clear hb); (try clear hb2); (try clear hk); (try clear hi); (try clear ho0); obtain ⟨Ao25, co25, eo25⟩ := Kd.R_slice HO204.out; subst eo25)|((with_reducible refine gate_callee (f := 87) rfl ?_); refine goesL_ (some 24) rfl rfl Try.func87 (by kernel_rfl) rfl #[.slice Ao25 t202.length co25] rfl (by (try simp only [List.map_toArray, List.map_cons, List.map_nil]); first | done | rfl|(simp only [List.length_drop, List.length_take]; rfl)) ?_; (with_reducible refine (spec_jrState.calls k2 _ _ t202 false _ ?side1 ?side2 A13.out).mono ?_);(case side1 => repeat (first|exact (Kd.R_reads' HO204.out).2.2|(with_reducible refine Kd.C_alloc ?_ _)|(with_reducible refine Kd.C_drewN ?_ _)|(with_reducible refine Kd.C_drew ?_)));(case side2 => exact (Kd.R_reads' HO204.out).2.1); rintro e w' ⟨rfl, ⟨nd, rfl⟩⟩; refine ⟨_, rfl, ?_⟩)|(go_at_call 90; (with_reducible refine (spec_l1Cur_one.calls g192 l0 t205 t206 6 true t212 t213 w _ ?side1 ?side2 A20.out).mono ?_);(case side1 => repeat (first|(with_reducible first|exact HI192.out|apply IsS90.alloc|apply IsS90.drewN|apply IsS90.drew|apply IsS90.set_1|apply IsS90.set_2)|exact HI192.out));(case side2 => repeat (first|(with_reducible first|exact HB.out|apply below_alloc|apply pw_below_drewN|apply below_drew1 | refine below_set ?_ (IsS90.ge HI192.out))|exact HB.out)); rintro e w26 ⟨rfl, hi, hb, hk⟩; have n0_ := Aside0.mk (Kd.S_mono (Kd.S_keep (IsS90.apartS (show IsS90 w _ g192 l0 t205 t206 from by repeat (first|(with_reducible first|exact HI192.out|apply IsS90.alloc|apply IsS90.drewN|apply IsS90.drew|apply IsS90.set_1|apply IsS90.set_2)|exact HI192.out)) (by (with_reducible repeat (first|apply Kd.S_alloc|apply Kd.S_drewN|apply Kd.S_drew)); exact HO_4.out) (by decide)) hk (fun _ h => h.2)) (fun _ h => h.1)); have n1_ := Aside0.mk (Kd.R_mono (Kd.R_keep (IsS90.apart (show IsS90 w _ g192 l0 t205 t206 from by repeat (first|(with_reducible first|exact HI192.out|apply IsS90.alloc|apply IsS90.drewN|apply IsS90.drew|apply IsS90.set_1|apply IsS90.set_2)|exact HI192.out)) (by (with_reducible repeat (first|apply Kd.R_alloc|apply Kd.R_drewN|apply Kd.R_drew)); exact HO204.out) (by decide)) hk (fun _ h => h.2)) (fun _ h => h.1)); have n2_ := Aside0.mk (hb); have n3_ := Aside0.mk (hi); clear HO_4; clear HO204; clear HB; clear HI192; have HO_4 := n0_; have HO204 := n1_; have HB := n2_; have HI192 := n3_; clear n0_ n1_ n2_ n3_; (try clear hb); (try clear hb2); (try clear hk); (try clear hi))|((with_reducible refine gate_builtin (b := .append) (xs := #[.tmp 29, .tmp 31]) rfl ?_); at_builtin; refine Kd.S_append (Kd.slice 3 (Kd.int .i64)) (w0 := w) w.heap.size rfl (.tmp 29) (.tmp 31) 47 37 (.slice none 0 0) 24 rfl Try.underlying47 info37 rfl (by decide) (by omega) (.slice Ao23 x4_2.length co23) x4_2 t202 [.slice Ao25 t202.length co25] (fun _ => True) (fun k_ => some k_ = (.slice Ao25 t202.length co25 : Value).ownBlock) rfl rfl ?aP (fun k_ hk_ => ((Kd.R_mono (ok' := fun k_ => ((fun _ => True)) k_ ∧ some k_ ≠ (.slice Ao23 x4_2.length co23 : Value).ownBlock) (Kd.R_apart' (HO204.out) (Kd.S_typed HO_4.out) (by decide)) (fun k_ hk => ⟨trivial, hk.2⟩))).1 k_ hk_.symm) ?aF ?aO ?aB ?aS ?aL ?_;(case aP => exact Kd.M_row (Kd.R_mono (Kd.R_tight rfl (Kd.R_mono (ok' := fun k_ => ((fun _ => True)) k_ ∧ some k_ ≠ (.slice Ao23 x4_2.length co23 : Value).ownBlock) (Kd.R_apart' (HO204.out) (Kd.S_typed HO_4.out) (by decide)) (fun k_ hk => ⟨trivial, hk.2⟩))) (fun _ h_ => h_)));(case aB => exact (by repeat (first|(with_reducible first|exact HB.out|apply below_alloc|apply pw_below_drewN|apply below_drew1 | refine below_set ?_ (IsS90.ge HI192.out))|exact HB.out)));(case aF => exact (fun _ _ => trivial));(case aO => exact (by (with_reducible repeat (first|apply Kd.S_alloc|apply Kd.S_drewN|apply Kd.S_drew)); exact Kd.S_mono HO_4.out (fun k_ hk => ⟨trivial, fun e_ => hk.2 e_⟩)));(case aS => exact (below_size (by repeat (first|(with_reducible first|exact HB.out|apply below_alloc|apply pw_below_drewN|apply below_drew1 | refine below_set ?_ (IsS90.ge HI192.out))|exact HB.out))));(case aL => have := LMc22.out; omega); intro v215 w27 ho hb hg hat; rw [← Ny214.out] at ho; have n0_ := Aside0.mk (IsS90.grown (by repeat (first|(with_reducible first|exact HI192.out|apply IsS90.alloc|apply IsS90.drewN|apply IsS90.drew|apply IsS90.set_1|apply IsS90.set_2)|exact HI192.out)) hg (IsS90.own_neS HI192.out HO_4.out (by decide))); have n1_ := Aside0.mk (hb); have n2_ := Aside0.mk (ho); clear HI192; clear HB; clear HO_4; clear HO204; have HI192 := n0_; have HB := n1_; have HO216 := n2_; clear n0_ n1_ n2_; clear ho hb hg hat))
                  go_roundg k2
                  case measure => have := HJ3.out; have := HK2.out; omega
                  case rel => exact ⟨(y214), (t212), (t213), H', ⟨by have := HJ3.out; have := HK2.out; omega⟩, ⟨by (with_reducible repeat (first|apply Kd.S_alloc|apply Kd.S_drewN|apply Kd.S_drew)); exact HO216.out⟩, ⟨by repeat (first|(with_reducible first|exact HI192.out|apply IsS90.alloc|apply IsS90.drewN|apply IsS90.drew|apply IsS90.set_1|apply IsS90.set_2)|exact HI192.out)⟩, ⟨by repeat (first|(with_reducible first|exact HB.out|apply below_alloc|apply pw_below_drewN|apply below_drew1 | refine below_set ?_ (IsS90.ge HI192.out))|exact HB.out)⟩⟩
                · rw [if_neg c22] at H
                  exact absurd H (by simp)
              · replace c21 := Bool.eq_false_iff.mpr c21
                subst c21
                have H1 : (spec_DrawWriteAll.l0 k2 x4_2 x5_3 l0 t212 t213) = some r := by rw [if_neg (show ¬ (false = true) by decide)] at H; exact H
                clear H
                have H := H1
                clear H1
                have H' := Aside0.mk H
                clear H
                obtain ⟨Ao28, co28, eo28⟩ := Kd.S_slice HO_4.out
                subst eo28
                go_wp2_with (first|((with_reducible refine gate_callee (f := 84) rfl ?_); refine goesL_ (some 22) rfl rfl Try.func84 (by kernel_rfl) rfl #[.pointer (some ⟨g192, 0, none⟩)] rfl (by (try simp only [List.map_toArray, List.map_cons, List.map_nil]); first | done | rfl|(simp only [List.length_drop, List.length_take]; rfl)) ?_; (with_reducible refine (spec_l1Cur_stateOf.calls k2 g192 l0 x193001_2 x193002_2 t202 t205 t206 w _ ?side1 ?side2 A12.out).mono ?_);(case side1 => repeat (first|(with_reducible first|exact HI192.out|apply IsS90.alloc|apply IsS90.drewN|apply IsS90.drew|apply IsS90.set_1|apply IsS90.set_2)|exact HI192.out));(case side2 => repeat (first|(with_reducible first|exact HB.out|apply below_alloc|apply pw_below_drewN|apply below_drew1 | refine below_set ?_ (IsS90.ge HI192.out))|exact HB.out)); rintro e w29 ⟨v203, rfl, ho0, hi, hb, hk⟩; refine ⟨_, rfl, ?_⟩; have n0_ := Aside0.mk (Kd.S_mono (Kd.S_told (Kd.S_oldK (IsS90.apartS (show IsS90 w _ g192 l0 x193001_2 x193002_2 from by repeat (first|(with_reducible first|exact HI192.out|apply IsS90.alloc|apply IsS90.drewN|apply IsS90.drew|apply IsS90.set_1|apply IsS90.set_2)|exact HI192.out)) (by (with_reducible repeat (first|apply Kd.S_alloc|apply Kd.S_drewN|apply Kd.S_drew)); exact HO_4.out) (by decide)) hk) (Kd.R_base ho0)) (fun _ h_ => h_.1)); have n1_ := Aside0.mk (Kd.R_lower ho0 (below_size (by repeat (first|(with_reducible first|exact HB.out|apply below_alloc|apply pw_below_drewN|apply below_drew1 | refine below_set ?_ (IsS90.ge HI192.out))|exact HB.out)))); have n2_ := Aside0.mk (hb); have n3_ := Aside0.mk (hi); clear HO_4; clear HB; clear HI192; have HO_4 := n0_; have HO204 := n1_; have HB := n2_; have HI192 := n3_; clear n0_ n1_ n2_ n3_; (try clear hb); (try clear hb2); (try clear hk); (try clear hi); (try clear ho0); obtain ⟨Ao30, co30, eo30⟩ := Kd.R_slice HO204.out; subst eo30)|((with_reducible refine gate_callee (f := 87) rfl ?_); refine goesL_ (some 24) rfl rfl Try.func87 (by kernel_rfl) rfl #[.slice Ao30 t202.length co30] rfl (by (try simp only [List.map_toArray, List.map_cons, List.map_nil]); first | done | rfl|(simp only [List.length_drop, List.length_take]; rfl)) ?_; (with_reducible refine (spec_jrState.calls k2 _ _ t202 false _ ?side1 ?side2 A13.out).mono ?_);(case side1 => repeat (first|exact (Kd.R_reads' HO204.out).2.2|(with_reducible refine Kd.C_alloc ?_ _)|(with_reducible refine Kd.C_drewN ?_ _)|(with_reducible refine Kd.C_drew ?_)));(case side2 => exact (Kd.R_reads' HO204.out).2.1); rintro e w' ⟨rfl, ⟨nd, rfl⟩⟩; refine ⟨_, rfl, ?_⟩)|(go_at_call 90; (with_reducible refine (spec_l1Cur_one.calls g192 l0 t205 t206 6 false t212 t213 w _ ?side1 ?side2 A20.out).mono ?_);(case side1 => repeat (first|(with_reducible first|exact HI192.out|apply IsS90.alloc|apply IsS90.drewN|apply IsS90.drew|apply IsS90.set_1|apply IsS90.set_2)|exact HI192.out));(case side2 => repeat (first|(with_reducible first|exact HB.out|apply below_alloc|apply pw_below_drewN|apply below_drew1 | refine below_set ?_ (IsS90.ge HI192.out))|exact HB.out)); rintro e w31 ⟨rfl, hi, hb, hk⟩; have n0_ := Aside0.mk (Kd.S_mono (Kd.S_keep (IsS90.apartS (show IsS90 w _ g192 l0 t205 t206 from by repeat (first|(with_reducible first|exact HI192.out|apply IsS90.alloc|apply IsS90.drewN|apply IsS90.drew|apply IsS90.set_1|apply IsS90.set_2)|exact HI192.out)) (by (with_reducible repeat (first|apply Kd.S_alloc|apply Kd.S_drewN|apply Kd.S_drew)); exact HO_4.out) (by decide)) hk (fun _ h => h.2)) (fun _ h => h.1)); have n1_ := Aside0.mk (Kd.R_mono (Kd.R_keep (IsS90.apart (show IsS90 w _ g192 l0 t205 t206 from by repeat (first|(with_reducible first|exact HI192.out|apply IsS90.alloc|apply IsS90.drewN|apply IsS90.drew|apply IsS90.set_1|apply IsS90.set_2)|exact HI192.out)) (by (with_reducible repeat (first|apply Kd.R_alloc|apply Kd.R_drewN|apply Kd.R_drew)); exact HO204.out) (by decide)) hk (fun _ h => h.2)) (fun _ h => h.1)); have n2_ := Aside0.mk (hb); have n3_ := Aside0.mk (hi); clear HO_4; clear HO204; clear HB; clear HI192; have HO_4 := n0_; have HO204 := n1_; have HB := n2_; have HI192 := n3_; clear n0_ n1_ n2_ n3_; (try clear hb); (try clear hb2); (try clear hk); (try clear hi)))
                go_roundg k2
                case measure => have := HJ3.out; have := HK2.out; omega
                case rel => exact ⟨(x4_2), (t212), (t213), H', ⟨by have := HJ3.out; have := HK2.out; omega⟩, ⟨by (with_reducible repeat (first|apply Kd.S_alloc|apply Kd.S_drewN|apply Kd.S_drew)); exact Kd.S_mono HO_4.out (fun _ hk => trivial)⟩, ⟨by repeat (first|(with_reducible first|exact HI192.out|apply IsS90.alloc|apply IsS90.drewN|apply IsS90.drew|apply IsS90.set_1|apply IsS90.set_2)|exact HI192.out)⟩, ⟨by repeat (first|(with_reducible first|exact HB.out|apply below_alloc|apply pw_below_drewN|apply below_drew1 | refine below_set ?_ (IsS90.ge HI192.out))|exact HB.out)⟩⟩
          · rw [if_neg c11] at H
            have c11b0 : decide ((x4_2.length : Int) < x5_3) = false := decide_eq_false c11
            clear c11
            obtain rfl := Option.some.inj H
            obtain ⟨Ao32, co32, eo32⟩ := Kd.S_slice HO_4.out
            subst eo32
            go_wp2
            go_ret
            exact ⟨_, by first | rfl|(simp [errW_none, errW_some] <;> rfl)|(simp [*, errW_none, errW_some] <;> rfl), by (with_reducible repeat (first|apply Kd.S_alloc|apply Kd.S_drewN|apply Kd.S_drew)); exact HO_4.out, by repeat (first|(with_reducible first|exact HB.out|apply below_alloc|apply pw_below_drewN|apply below_drew1 | refine below_set ?_ (IsS90.ge HI192.out))|exact HB.out)⟩

/-! ### slices_Clone_int_int: function 95 (by hand: a copy of a slice) -/
def slices_Clone_int_int.f (l0 : List Int) : Option (List Int) := if l0.length < 1000000000 then some l0 else none
theorem slices_Clone_int_int.info : (Try.prog.info? 3).map (fun i => (i.zero, i.size, i.bytes)) = some (some (.int .i64 0), 1, 8) := by kernel_rfl
set_option maxHeartbeats 8000000 in
set_option maxRecDepth 100000 in
theorem slices_Clone_int_int.calls (A0 : Option Addr) (c0 : Nat) (l0 : List Int) (r : List Int) (w : World) (hr0 : Kd.C (Kd.int .i64) w A0 l0.length l0) (hc0 : l0.length ≤ c0) (h : slices_Clone_int_int.f l0 = some r) :
    Calls Try.prog 95 #[.slice A0 l0.length c0] w fun e w' => ∃ v0_ : Value, e = .returned (v0_) ∧ Kd.R (Kd.int .i64) 3 w' w.heap.size (fun _ => True) v0_ r ∧ Below w.heap.size w w' := by
  unfold slices_Clone_int_int.f at h
  by_cases hlen : l0.length < 1000000000
  · rw [if_pos hlen] at h
    obtain rfl := Option.some.inj h
    clear h
    cases A0 with
    | none =>
      have hz : l0 = [] := by
        rcases Nat.eq_zero_or_pos l0.length with h0 | h0
        · exact List.eq_nil_of_length_eq_zero h0
        · obtain ⟨ad, e, _⟩ := hr0.2.2 h0
          cases e
      subst hz
      have hq : ∀ W : World, (binOp .eql 37 (.slice none 0 c0) (.slice none 0 0)).run Try.prog W = .ok (.bool true) W := fun W => Go.run_eql_slice_nil W 37 3 none 0 c0 Try.underlying37
      clear hr0 hc0 hlen
      go_enter Try.func95, Try.ntmps95
      go_wp2
      go_ret
      exact ⟨_, rfl, Kd.R_nil _ _ _ _ _, Below.refl _ _⟩
    | some ad =>
      have hq : ∀ W : World, (binOp .eql 37 (.slice (some ad) l0.length c0) (.slice none 0 0)).run Try.prog W = .ok (.bool false) W := fun W => Go.run_eql_slice_nil W 37 3 (some ad) l0.length c0 Try.underlying37
      have HR0 := Aside0.mk hr0
      have HC0 := Aside0.mk hc0
      have HL := Aside0.mk hlen
      clear hr0 hc0 hlen
      have HB := Aside0.mk (Below.refl w.heap.size w)
      go_enter Try.func95, Try.ntmps95
      go_wp2_with (first|((with_reducible refine gate_dst (N := 5) rfl ?_); refine Kd.R_lit (Kd.int .i64) _ 3 ?hg (N := 5) ?hd (xs := ([] : List Int)) (inner := []) (ok := fun _ => True) (okp := fun _ => True) ?hr ?hp (fun _ hk => hk) trivial (Below.refl _ _) (Nat.le_refl _) (by simp) ?_;(case hd => rfl);(case hg => rfl);(case hr => first|(go_simp;done)|(go_simp; rfl));(case hp => exact (Reps.none _ _)); intro v112 w3 ho4 hb hg_ hnew_; clear hg_ hnew_; have n0_ := Aside0.mk (Kd.R_lower ho4 (below_size (by repeat (first|(with_reducible first|exact HB.out|apply below_alloc|apply pw_below_drewN|apply below_drew1)|exact HB.out)))); have n1_ := Aside0.mk (below_step (by repeat (first|(with_reducible first|exact HB.out|apply below_alloc|apply pw_below_drewN|apply below_drew1)|exact HB.out)) hb); clear HB; have HO113 := n0_; have HB := n1_; clear n0_ n1_; clear hb ho4)|((with_reducible refine gate_builtin (b := .append) (xs := #[.tmp 5, .tmp 6]) rfl ?_); at_builtin; refine Kd.R_append_rows (Kd.int .i64) (w0 := w) w.heap.size rfl (.tmp 5) (.tmp 6) 37 3 (.int .i64 0) 8 rfl Try.underlying37 slices_Clone_int_int.info rfl (by decide) (by omega) v112 [] l0 _ _ _ (fun _ => True) (fun _ => False) rfl rfl ?aO ?aR (fun _ _ h => h) (fun _ h => h.elim) ?aF ?aB ?aS ?aL ?_;(case aR => repeat (first|exact (Kd.C_below HR0.out HB.out)|(with_reducible refine Kd.C_alloc ?_ _)|(with_reducible refine Kd.C_drewN ?_ _)|(with_reducible refine Kd.C_drew ?_)));(case aB => exact (by repeat (first|(with_reducible first|exact HB.out|apply below_alloc|apply pw_below_drewN|apply below_drew1)|exact HB.out)));(case aF => exact (fun _ _ => trivial));(case aO => exact (by (with_reducible repeat (first|apply Kd.R_alloc|apply Kd.R_drewN|apply Kd.R_drew)); exact HO113.out));(case aS => exact (below_size (by repeat (first|(with_reducible first|exact HB.out|apply below_alloc|apply pw_below_drewN|apply below_drew1)|exact HB.out))));(case aL => have := HL.out; simp only [List.length_nil]; omega); intro v115 w5 ho hb hg hat; have n0_ := Aside0.mk (hb); have n1_ := Aside0.mk (ho); clear HB; clear HO113; have HB := n0_; have HO116 := n1_; clear n0_ n1_; clear ho hb hg hat))
      go_ret
      refine ⟨_, rfl, ?_, by repeat (first|(with_reducible first|exact HB.out|apply below_alloc|apply pw_below_drewN|apply below_drew1)|exact HB.out)⟩
      have HX := HO116.out
      rw [List.nil_append] at HX
      exact (by (with_reducible repeat (first|apply Kd.R_alloc|apply Kd.R_drewN|apply Kd.R_drew)); exact HX)
  · rw [if_neg hlen] at h
    exact absurd h (by simp)


/-! ### slices_Equal_int_int: function 133 -/
def slices_Equal_int_int.l0 : Nat → List Int → List Int → Int → Int → Option (Bool)
  | 0, _, _, _, _ => none
  | k + 1, x0, x1, x12, x13 => if x13 < x12 then (if 0 ≤ x13 then (if x13 < (x0.length : Int) then (if x13 < (x1.length : Int) then (if (rd x0 x13) = (rd x1 x13) then (slices_Equal_int_int.l0 k x0 x1 x12 (wrap64 (x13 + 1))) else (some false)) else (none)) else (none)) else (none)) else (some true)
def slices_Equal_int_int.f (k : Nat) (l0 : List Int) (l1 : List Int) : Option (Bool) := if (l0.length : Int) = (l1.length : Int) then (slices_Equal_int_int.l0 k l0 l1 (l0.length : Int) 0) else (some false)
theorem slices_Equal_int_int.mono_l : ∀ k, (∀ y0 y1 y2 y3, LeO (slices_Equal_int_int.l0 k y0 y1 y2 y3) (slices_Equal_int_int.l0 (k + 1) y0 y1 y2 y3))
  | 0 => fun _ _ _ _ r h => by simp [slices_Equal_int_int.l0] at h
  | k + 1 => by
    have ih0 := slices_Equal_int_int.mono_l k
    · intro y0 y1 y2 y3
      unfold slices_Equal_int_int.l0
      repeat' first
     |(with_reducible exact ih0 _ _ _ _)
     |(with_reducible exact LeO.refl _)
     |(with_reducible exact LeO.none _)
     |(with_reducible refine LeO.ite ?_ ?_)
     |(with_reducible refine LeO.bind ?_ (fun _ => ?_))
     |exact ih0 _ _ _ _
     |exact LeO.none _
      | refine LeO.ite ?_ ?_
      | refine LeO.bind ?_ (fun _ => ?_)
theorem slices_Equal_int_int.mono : ∀ a0 a1 k, LeO (slices_Equal_int_int.f k a0 a1) (slices_Equal_int_int.f (k + 1) a0 a1) := by
  intro a0 a1 k
  have ih0 := slices_Equal_int_int.mono_l k
  unfold slices_Equal_int_int.f
  repeat' first
     |(with_reducible exact ih0 _ _ _ _)
     |(with_reducible exact LeO.refl _)
     |(with_reducible exact LeO.none _)
     |(with_reducible refine LeO.ite ?_ ?_)
     |(with_reducible refine LeO.bind ?_ (fun _ => ?_))
     |exact ih0 _ _ _ _
     |exact LeO.none _
      | refine LeO.ite ?_ ?_
      | refine LeO.bind ?_ (fun _ => ?_)
set_option maxHeartbeats 8000000 in
set_option maxRecDepth 100000 in
theorem slices_Equal_int_int.calls (k : Nat) (A0 : Option Addr) (c0 : Nat) (l0 : List Int) (A1 : Option Addr) (c1 : Nat) (l1 : List Int) (r : Bool) (w : World) (hr0 : Kd.C (Kd.int .i64) w A0 l0.length l0) (hc0 : l0.length ≤ c0) (hr1 : Kd.C (Kd.int .i64) w A1 l1.length l1) (hc1 : l1.length ≤ c1) (h : slices_Equal_int_int.f k l0 l1 = some r) :
    Calls Try.prog 133 #[.slice A0 l0.length c0, .slice A1 l1.length c1] w fun e w' => e = .returned (.bool r) ∧ Drawn0 w w' := by
  have HR0 := Aside0.mk hr0
  have HC0 := Aside0.mk hc0
  clear hr0 hc0
  have HR1 := Aside0.mk hr1
  have HC1 := Aside0.mk hc1
  clear hr1 hc1
  have H : (if (l0.length : Int) = (l1.length : Int) then (slices_Equal_int_int.l0 k l0 l1 (l0.length : Int) 0) else (some false)) = some r := h
  clear h
  by_cases c3 : (l0.length : Int) = (l1.length : Int)
  · rw [if_pos c3] at H
    have c3b0 : ((l0.length : Int) == (l1.length : Int)) = true := beq_iff_eq.mpr c3
    have c3b1 : ((l0.length : Int) != (l1.length : Int)) = false := bne_eq_false_iff_eq.mpr c3
    have c3b2 : (l0.length == l1.length) = true := by first | simpa using c3|(simp at c3 ⊢; omega)
    clear c3
    have H' := Aside0.mk H
    clear H
    go_enter Try.func133, Try.ntmps133
    go_wp2
    repeat (go_quiet (fail); try go_wp2)
    go_loopg [13] k (fun kq v13 w' => ∃ (x13_1 : Int), v13 = .int .i64 x13_1 ∧ Aside0 (slices_Equal_int_int.l0 kq l0 l1 (l0.length : Int) x13_1 = some r) ∧ Aside0 (kq ≤ k) ∧ Drawn0 w w')
    case atStart => exact ⟨(0), (by first | rfl|(simp;done)|(simp [*];done)), H', ⟨Nat.le_refl _⟩, by repeat (first|exact Drawn0.refl _|apply Drawn0.step)⟩
    case round =>
      clear H'
      try clear c1
      try clear p2
      try clear c3
      try clear c3b0
      try clear c3b1
      try clear c3b2
      obtain ⟨x13_1, rfl, HA, HK1, ⟨m1, rfl⟩⟩ := hrel
      cases gk with
      | zero => exact absurd HA.out (by simp [slices_Equal_int_int.l0])
      | succ k1 =>
        have H := HA.out
        clear HA
        simp only [slices_Equal_int_int.l0] at H
        by_cases c4 : x13_1 < (l0.length : Int)
        · rw [if_pos c4] at H
          have c4b0 : decide (x13_1 < (l0.length : Int)) = true := decide_eq_true c4
          clear c4
          by_cases c5 : 0 ≤ x13_1
          · rw [if_pos c5] at H
            have c5b0 : decide (0 ≤ x13_1) = true := decide_eq_true c5
            clear c5
            by_cases c6 : x13_1 < (l0.length : Int)
            · rw [if_pos c6] at H
              have c6b0 : decide (x13_1 < (l0.length : Int)) = true := decide_eq_true c6
              clear c6
              by_cases c7 : x13_1 < (l1.length : Int)
              · rw [if_pos c7] at H
                have c7b0 : decide (x13_1 < (l1.length : Int)) = true := decide_eq_true c7
                clear c7
                by_cases c8 : (rd l0 x13_1) = (rd l1 x13_1)
                · rw [if_pos c8] at H
                  have c8b0 : ((rd l0 x13_1) == (rd l1 x13_1)) = true := beq_iff_eq.mpr c8
                  have c8b1 : ((rd l0 x13_1) != (rd l1 x13_1)) = false := bne_eq_false_iff_eq.mpr c8
                  clear c8
                  have H' := Aside0.mk H
                  clear H
                  have p217 : 0 ≤ (x13_1 : Int) := of_decide_eq_true (by first|(with_reducible assumption) | assumption)
                  have q217 : x13_1 < (l0.length : Int) := of_decide_eq_true (by first|(with_reducible assumption) | assumption)
                  obtain ⟨ad217, e217, hx217_0⟩ := Kd.at_int HR0.out x13_1 p217 q217
                  cases e217
                  replace p217 := eq_true p217
                  replace q217 := eq_true q217
                  have p218 : 0 ≤ (x13_1 : Int) := of_decide_eq_true (by first|(with_reducible assumption) | assumption)
                  have q218 : x13_1 < (l1.length : Int) := of_decide_eq_true (by first|(with_reducible assumption) | assumption)
                  obtain ⟨ad218, e218, hx218_0⟩ := Kd.at_int HR1.out x13_1 p218 q218
                  cases e218
                  replace p218 := eq_true p218
                  replace q218 := eq_true q218
                  go_wp2
                  repeat (go_quiet (fail); try go_wp2)
                  go_roundg k1
                  case measure => have := HK1.out; omega
                  case rel => exact ⟨(wrap64 (x13_1 + 1)), (by first | rfl|(simp;done)|(simp [*];done)), H', ⟨by have := HK1.out; omega⟩, by repeat (first|exact Drawn0.refl _|apply Drawn0.step)⟩
                · rw [if_neg c8] at H
                  have c8b0 : ((rd l0 x13_1) == (rd l1 x13_1)) = false := beq_eq_false_iff_ne.mpr c8
                  have c8b1 : ((rd l0 x13_1) != (rd l1 x13_1)) = true := bne_iff_ne.mpr c8
                  obtain rfl := Option.some.inj H
                  have p217 : 0 ≤ (x13_1 : Int) := of_decide_eq_true (by first|(with_reducible assumption) | assumption)
                  have q217 : x13_1 < (l0.length : Int) := of_decide_eq_true (by first|(with_reducible assumption) | assumption)
                  obtain ⟨ad217, e217, hx217_0⟩ := Kd.at_int HR0.out x13_1 p217 q217
                  cases e217
                  replace p217 := eq_true p217
                  replace q217 := eq_true q217
                  have p218 : 0 ≤ (x13_1 : Int) := of_decide_eq_true (by first|(with_reducible assumption) | assumption)
                  have q218 : x13_1 < (l1.length : Int) := of_decide_eq_true (by first|(with_reducible assumption) | assumption)
                  obtain ⟨ad218, e218, hx218_0⟩ := Kd.at_int HR1.out x13_1 p218 q218
                  cases e218
                  replace p218 := eq_true p218
                  replace q218 := eq_true q218
                  go_wp2
                  repeat (go_quiet (fail); try go_wp2)
                  go_ret
                  exact ⟨by first | rfl|(simp;done)|(simp [*];done), by repeat (first|exact Drawn0.refl _|apply Drawn0.step)⟩
              · rw [if_neg c7] at H
                exact absurd H (by simp)
            · rw [if_neg c6] at H
              exact absurd H (by simp)
          · rw [if_neg c5] at H
            exact absurd H (by simp)
        · rw [if_neg c4] at H
          have c4b0 : decide (x13_1 < (l0.length : Int)) = false := decide_eq_false c4
          clear c4
          obtain rfl := Option.some.inj H
          go_wp2
          repeat (go_quiet (fail); try go_wp2)
          go_ret
          exact ⟨by first | rfl|(simp;done)|(simp [*];done), by repeat (first|exact Drawn0.refl _|apply Drawn0.step)⟩
  · rw [if_neg c3] at H
    have c3b0 : ((l0.length : Int) == (l1.length : Int)) = false := beq_eq_false_iff_ne.mpr c3
    have c3b1 : ((l0.length : Int) != (l1.length : Int)) = true := bne_iff_ne.mpr c3
    have c3b2 : (l0.length == l1.length) = false := by first | simpa using c3|(simp at c3 ⊢; omega)
    obtain rfl := Option.some.inj H
    go_enter Try.func133, Try.ntmps133
    go_wp2
    repeat (go_quiet (fail); try go_wp2)
    go_ret
    exact ⟨by first | rfl|(simp;done)|(simp [*];done), by repeat (first|exact Drawn0.refl _|apply Drawn0.step)⟩

/-! ### impl_readArea: function 99 -/
def impl_readArea.j0 : Nat → List Int → Bool → Option (Int × List Int)
  | 0, _, _ => none
  | k + 1, x0, x20 => if x20 = true then (some (0, ([] : List Int))) else (if 1 < (x0.length : Int) then (if 2 ≤ (wrap64 (2 + (rd x0 1))) then (if (wrap64 (2 + (rd x0 1))) ≤ (x0.length : Int) then ((slices_Clone_int_int.f ((x0.take ((wrap64 (2 + (rd x0 1))) : Int).toNat).drop 2)).bind fun t224 => ((impl_IsState.f k t224).bind fun t227 => (if t227 = true then (if 0 < (x0.length : Int) then ((impl_areaOf.f (rd x0 0) t224).bind fun t229 => ((slices_Equal_int_int.f k t229 x0).bind fun t232 => (if t232 = true then (some (rd x0 0, t224)) else (some (0, ([] : List Int)))))) else (none)) else (some (0, ([] : List Int)))))) else (none)) else (none)) else (none))
def impl_readArea.f (k : Nat) (l0 : List Int) : Option (Int × List Int) := if 0 < (l0.length : Int) then (if (rd l0 0) < 1 then (impl_readArea.j0 k l0 true) else (if (rd l0 0) > 999 then (impl_readArea.j0 k l0 true) else (if 1 < (l0.length : Int) then (impl_readArea.j0 k l0 (decide ((rd l0 1) > 12))) else (none)))) else (none)
theorem impl_readArea.mono_l : ∀ k, (∀ y0 y1, LeO (impl_readArea.j0 k y0 y1) (impl_readArea.j0 (k + 1) y0 y1))
  | 0 => fun _ _ r h => by simp [impl_readArea.j0] at h
  | k + 1 => by
    have ih0 := impl_readArea.mono_l k
    · intro y0 y1
      unfold impl_readArea.j0
      repeat' first
     |(with_reducible exact ih0 _ _)
     |(with_reducible exact impl_IsState.mono _ _)
     |(with_reducible exact slices_Equal_int_int.mono _ _ _)
     |(with_reducible exact LeO.refl _)
     |(with_reducible exact LeO.none _)
     |(with_reducible refine LeO.ite ?_ ?_)
     |(with_reducible refine LeO.bind ?_ (fun _ => ?_))
     |exact ih0 _ _
     |exact impl_IsState.mono _ _
     |exact slices_Equal_int_int.mono _ _ _
     |exact LeO.none _
      | refine LeO.ite ?_ ?_
      | refine LeO.bind ?_ (fun _ => ?_)
theorem impl_readArea.mono : ∀ a0 k, LeO (impl_readArea.f k a0) (impl_readArea.f (k + 1) a0) := by
  intro a0 k
  have ih0 := impl_readArea.mono_l k
  unfold impl_readArea.f
  repeat' first
     |(with_reducible exact ih0 _ _)
     |(with_reducible exact impl_IsState.mono _ _)
     |(with_reducible exact slices_Equal_int_int.mono _ _ _)
     |(with_reducible exact LeO.refl _)
     |(with_reducible exact LeO.none _)
     |(with_reducible refine LeO.ite ?_ ?_)
     |(with_reducible refine LeO.bind ?_ (fun _ => ?_))
     |exact ih0 _ _
     |exact impl_IsState.mono _ _
     |exact slices_Equal_int_int.mono _ _ _
     |exact LeO.none _
      | refine LeO.ite ?_ ?_
      | refine LeO.bind ?_ (fun _ => ?_)
set_option maxHeartbeats 8000000 in
set_option maxRecDepth 100000 in
theorem impl_readArea.calls (k : Nat) (A0 : Option Addr) (c0 : Nat) (l0 : List Int) (r1 : Int) (r2 : List Int) (w : World) (hr0 : Kd.C (Kd.int .i64) w A0 l0.length l0) (hc0 : l0.length ≤ c0) (h : impl_readArea.f k l0 = some (r1, r2)) :
    Calls Try.prog 99 #[.slice A0 l0.length c0] w fun e w' => ∃ v1_ : Value, e = .returned (.tuple #[.int .i64 r1, v1_]) ∧ Kd.R (Kd.int .i64) 3 w' w.heap.size (fun _ => True) v1_ r2 ∧ Below w.heap.size w w' := by
  have HR0 := Aside0.mk hr0
  have HC0 := Aside0.mk hc0
  clear hr0 hc0
  have HB := Aside0.mk (Below.refl w.heap.size w)
  have H : (if 0 < (l0.length : Int) then (if (rd l0 0) < 1 then (impl_readArea.j0 k l0 true) else (if (rd l0 0) > 999 then (impl_readArea.j0 k l0 true) else (if 1 < (l0.length : Int) then (impl_readArea.j0 k l0 (decide ((rd l0 1) > 12))) else (none)))) else (none)) = some (r1, r2) := h
  clear h
  have HC2 := Aside0.mk H
  clear H
  go_enter Try.func99, Try.ntmps99
  go_upto_region 1 with (fail)
  go_cut [20] (fun v20 wc => ∃ (kq : Nat) (x20_1 : Bool), v20 = .bool x20_1 ∧ Aside0 (impl_readArea.j0 kq l0 x20_1 = some (r1, r2)) ∧ Aside0 (kq ≤ k) ∧ Aside0 (Below w.heap.size w wc))
  case first =>
    have H := HC2.out
    clear HC2
    by_cases c3 : 0 < (l0.length : Int)
    · rw [if_pos c3] at H
      have c3b0 : decide (0 < (l0.length : Int)) = true := decide_eq_true c3
      have c3b1 : decide (0 < l0.length) = true := decide_eq_true (by omega)
      clear c3
      (first|rw [c3b0]|(simp only [i64_w, i32_w]; rw [c3b0]) | skip)
      by_cases c4 : (rd l0 0) < 1
      · rw [if_pos c4] at H
        have c4b0 : decide ((rd l0 0) < 1) = true := decide_eq_true c4
        clear c4
        have H' := Aside0.mk H
        clear H
        have p219 : 0 ≤ (0 : Int) := (by omega)
        have q219 : 0 < (l0.length : Int) := of_decide_eq_true (by first|(with_reducible assumption) | assumption)
        obtain ⟨ad219, e219, hx219_0⟩ := Kd.at_int HR0.out 0 p219 q219
        cases e219
        have qi219 : (0 < l0.length) = True := eq_true (by omega)
        (try rw [show ((0 : Int)).toNat = 0 from rfl] at hx219_0)
        (try rw [Addr.add_zero'] at hx219_0)
        replace hx219_0 := (HB.out.cell (World.block_lt_of_cell? w _ hx219_0)).trans hx219_0
        replace p219 := eq_true p219
        replace q219 := eq_true q219
        go_wp2
        go_meet
        case rel => exact ⟨_, (true), (by first | rfl|(simp;done)|(simp [*];done)), H', ⟨by first | omega|exact Nat.le_refl _⟩, ⟨by repeat (first|(with_reducible first|exact HB.out|apply below_alloc|apply pw_below_drewN|apply below_drew1)|exact HB.out)⟩⟩
      · rw [if_neg c4] at H
        have c4b0 : decide ((rd l0 0) < 1) = false := decide_eq_false c4
        clear c4
        by_cases c5 : (rd l0 0) > 999
        · rw [if_pos c5] at H
          have c5b0 : decide (999 < (rd l0 0)) = true := decide_eq_true c5
          clear c5
          have H' := Aside0.mk H
          clear H
          have p219 : 0 ≤ (0 : Int) := (by omega)
          have q219 : 0 < (l0.length : Int) := of_decide_eq_true (by first|(with_reducible assumption) | assumption)
          obtain ⟨ad219, e219, hx219_0⟩ := Kd.at_int HR0.out 0 p219 q219
          cases e219
          have qi219 : (0 < l0.length) = True := eq_true (by omega)
          (try rw [show ((0 : Int)).toNat = 0 from rfl] at hx219_0)
          (try rw [Addr.add_zero'] at hx219_0)
          replace hx219_0 := (HB.out.cell (World.block_lt_of_cell? w _ hx219_0)).trans hx219_0
          replace p219 := eq_true p219
          replace q219 := eq_true q219
          have p220 : 0 ≤ (0 : Int) := (by omega)
          have q220 : 0 < (l0.length : Int) := of_decide_eq_true (by first|(with_reducible assumption) | assumption)
          obtain ⟨ad220, e220, hx220_0⟩ := Kd.at_int HR0.out 0 p220 q220
          obtain rfl : ad219 = ad220 := (by injection e220)
          have qi220 : (0 < l0.length) = True := eq_true (by omega)
          (try rw [show ((0 : Int)).toNat = 0 from rfl] at hx220_0)
          (try rw [Addr.add_zero'] at hx220_0)
          replace hx220_0 := (HB.out.cell (World.block_lt_of_cell? w _ hx220_0)).trans hx220_0
          replace p220 := eq_true p220
          replace q220 := eq_true q220
          go_wp2
          go_meet
          case rel => exact ⟨_, (true), (by first | rfl|(simp;done)|(simp [*];done)), H', ⟨by first | omega|exact Nat.le_refl _⟩, ⟨by repeat (first|(with_reducible first|exact HB.out|apply below_alloc|apply pw_below_drewN|apply below_drew1)|exact HB.out)⟩⟩
        · rw [if_neg c5] at H
          have c5b0 : decide (999 < (rd l0 0)) = false := decide_eq_false c5
          clear c5
          by_cases c6 : 1 < (l0.length : Int)
          · rw [if_pos c6] at H
            have c6b0 : decide (1 < (l0.length : Int)) = true := decide_eq_true c6
            have c6b1 : decide (1 < l0.length) = true := decide_eq_true (by omega)
            clear c6
            have H' := Aside0.mk H
            clear H
            have p219 : 0 ≤ (0 : Int) := (by omega)
            have q219 : 0 < (l0.length : Int) := of_decide_eq_true (by first|(with_reducible assumption) | assumption)
            obtain ⟨ad219, e219, hx219_0⟩ := Kd.at_int HR0.out 0 p219 q219
            cases e219
            have qi219 : (0 < l0.length) = True := eq_true (by omega)
            (try rw [show ((0 : Int)).toNat = 0 from rfl] at hx219_0)
            (try rw [Addr.add_zero'] at hx219_0)
            replace hx219_0 := (HB.out.cell (World.block_lt_of_cell? w _ hx219_0)).trans hx219_0
            replace p219 := eq_true p219
            replace q219 := eq_true q219
            have p220 : 0 ≤ (0 : Int) := (by omega)
            have q220 : 0 < (l0.length : Int) := of_decide_eq_true (by first|(with_reducible assumption) | assumption)
            obtain ⟨ad220, e220, hx220_0⟩ := Kd.at_int HR0.out 0 p220 q220
            obtain rfl : ad219 = ad220 := (by injection e220)
            have qi220 : (0 < l0.length) = True := eq_true (by omega)
            (try rw [show ((0 : Int)).toNat = 0 from rfl] at hx220_0)
            (try rw [Addr.add_zero'] at hx220_0)
            replace hx220_0 := (HB.out.cell (World.block_lt_of_cell? w _ hx220_0)).trans hx220_0
            replace p220 := eq_true p220
            replace q220 := eq_true q220
            have p221 : 0 ≤ (1 : Int) := (by omega)
            have q221 : 1 < (l0.length : Int) := of_decide_eq_true (by first|(with_reducible assumption) | assumption)
            obtain ⟨ad221, e221, hx221_0⟩ := Kd.at_int HR0.out 1 p221 q221
            obtain rfl : ad219 = ad221 := (by injection e221)
            (try simp only [show (1 : Int).toNat = 1 from rfl, Nat.reduceMul, Nat.reduceEqDiff, Go.Addr.add, ↓reduceIte] at hx221_0)
            have qi221 : (1 < l0.length) = True := eq_true (by omega)
            (try rw [show ((1 : Int)).toNat = 1 from rfl] at hx221_0)
            replace hx221_0 := (HB.out.cell (World.block_lt_of_cell? w _ hx221_0)).trans hx221_0
            replace p221 := eq_true p221
            replace q221 := eq_true q221
            go_wp2
            go_meet
            case rel => exact ⟨_, (decide ((rd l0 1) > 12)), (by first | rfl|(simp;done)|(simp [*];done)), H', ⟨by first | omega|exact Nat.le_refl _⟩, ⟨by repeat (first|(with_reducible first|exact HB.out|apply below_alloc|apply pw_below_drewN|apply below_drew1)|exact HB.out)⟩⟩
          · rw [if_neg c6] at H
            exact absurd H (by simp)
    · rw [if_neg c3] at H
      exact absurd H (by simp)
  case rest =>
    clear HC2
    try clear p2
    try clear q2
    try clear hx2
    try clear qi2
    try clear c3
    try clear c3b0
    try clear c3b1
    try clear c4
    try clear c4b0
    try clear c5
    try clear c5b0
    try clear c6
    try clear c6b0
    try clear c6b1
    try clear hx219_0
    try clear hx220_0
    try clear hx221_0
    try clear p219
    try clear p220
    try clear p221
    try clear q219
    try clear q220
    try clear q221
    obtain ⟨kq, x20_1, rfl, HA, HJ1, HB⟩ := hcut
    cases kq with
    | zero => exact absurd HA.out (by simp [impl_readArea.j0])
    | succ kj1 =>
      have H := HA.out
      clear HA
      simp only [impl_readArea.j0] at H
      by_cases c7 : x20_1 = true
      · subst c7
        have H1 : (some (0, ([] : List Int))) = some (r1, r2) := by rw [if_pos rfl] at H; exact H
        clear H
        have H := H1
        clear H1
        simp only [Option.some.injEq, Prod.mk.injEq] at H
        obtain ⟨rfl, rfl⟩ := H
        go_wp2
        go_ret2
        exact ⟨_, by first | rfl|(simp [errW_none, errW_some] <;> rfl)|(simp [*, errW_none, errW_some] <;> rfl), by first|exact Kd.R_nil _ _ _ _ _|exact Kd.N_nil _ _ _ _ _|exact Kd.V_nil _ _ _ _ _|exact Kd.Q_nil _ _ _ _ _|exact Kd.S_nil _ _ _ _ _, by repeat (first|(with_reducible first|exact HB.out|apply below_alloc|apply pw_below_drewN|apply below_drew1)|exact HB.out)⟩
      · replace c7 := Bool.eq_false_iff.mpr c7
        subst c7
        have H1 : (if 1 < (l0.length : Int) then (if 2 ≤ (wrap64 (2 + (rd l0 1))) then (if (wrap64 (2 + (rd l0 1))) ≤ (l0.length : Int) then ((slices_Clone_int_int.f ((l0.take ((wrap64 (2 + (rd l0 1))) : Int).toNat).drop 2)).bind fun t224 => ((impl_IsState.f kj1 t224).bind fun t227 => (if t227 = true then (if 0 < (l0.length : Int) then ((impl_areaOf.f (rd l0 0) t224).bind fun t229 => ((slices_Equal_int_int.f kj1 t229 l0).bind fun t232 => (if t232 = true then (some (rd l0 0, t224)) else (some (0, ([] : List Int)))))) else (none)) else (some (0, ([] : List Int)))))) else (none)) else (none)) else (none)) = some (r1, r2) := by rw [if_neg (show ¬ (false = true) by decide)] at H; exact H
        clear H
        have H := H1
        clear H1
        by_cases c8 : 1 < (l0.length : Int)
        · rw [if_pos c8] at H
          have c8b0 : decide (1 < (l0.length : Int)) = true := decide_eq_true c8
          have c8b1 : decide (1 < l0.length) = true := decide_eq_true (by omega)
          clear c8
          by_cases c9 : 2 ≤ (wrap64 (2 + (rd l0 1)))
          · rw [if_pos c9] at H
            have c9b0 := eq_true c9
            have c9b1 : decide (2 ≤ (wrap64 (2 + (rd l0 1)))) = true := decide_eq_true c9
            by_cases c10 : (wrap64 (2 + (rd l0 1))) ≤ (l0.length : Int)
            · rw [if_pos c10] at H
              have c10b0 := eq_true c10
              have c10b1 : decide ((wrap64 (2 + (rd l0 1))) ≤ (l0.length : Int)) = true := decide_eq_true c10
              replace H := Option.bind_eq_some_iff.mp H
              obtain ⟨t224, A110, H⟩ := H
              try dsimp only at H
              have A11 := Aside0.mk A110
              clear A110
              replace H := Option.bind_eq_some_iff.mp H
              obtain ⟨t227, A120, H⟩ := H
              try dsimp only at H
              have A12 := Aside0.mk A120
              clear A120
              by_cases c13 : t227 = true
              · subst c13
                have H1 : (if 0 < (l0.length : Int) then ((impl_areaOf.f (rd l0 0) t224).bind fun t229 => ((slices_Equal_int_int.f kj1 t229 l0).bind fun t232 => (if t232 = true then (some (rd l0 0, t224)) else (some (0, ([] : List Int)))))) else (none)) = some (r1, r2) := by rw [if_pos rfl] at H; exact H
                clear H
                have H := H1
                clear H1
                by_cases c14 : 0 < (l0.length : Int)
                · rw [if_pos c14] at H
                  have c14b0 : decide (0 < (l0.length : Int)) = true := decide_eq_true c14
                  have c14b1 : decide (0 < l0.length) = true := decide_eq_true (by omega)
                  clear c14
                  replace H := Option.bind_eq_some_iff.mp H
                  obtain ⟨t229, A150, H⟩ := H
                  try dsimp only at H
                  have A15 := Aside0.mk A150
                  clear A150
                  replace H := Option.bind_eq_some_iff.mp H
                  obtain ⟨t232, A160, H⟩ := H
                  try dsimp only at H
                  have A16 := Aside0.mk A160
                  clear A160
                  by_cases c17 : t232 = true
                  · subst c17
                    have H1 : (some (rd l0 0, t224)) = some (r1, r2) := by rw [if_pos rfl] at H; exact H
                    clear H
                    have H := H1
                    clear H1
                    simp only [Option.some.injEq, Prod.mk.injEq] at H
                    obtain ⟨rfl, rfl⟩ := H
                    have p222 : 0 ≤ (1 : Int) := (by omega)
                    have q222 : 1 < (l0.length : Int) := of_decide_eq_true (by first|(with_reducible assumption) | assumption)
                    obtain ⟨ad222, e222, hx222_0⟩ := Kd.at_int HR0.out 1 p222 q222
                    cases e222
                    (try simp only [show (1 : Int).toNat = 1 from rfl, Nat.reduceMul, Nat.reduceEqDiff, Go.Addr.add, ↓reduceIte] at hx222_0)
                    have qi222 : (1 < l0.length) = True := eq_true (by omega)
                    (try rw [show ((1 : Int)).toNat = 1 from rfl] at hx222_0)
                    replace hx222_0 := (HB.out.cell (World.block_lt_of_cell? w _ hx222_0)).trans hx222_0
                    replace p222 := eq_true p222
                    replace q222 := eq_true q222
                    obtain ⟨i018, hi018, _, hsz18, _⟩ := info_parts info3
                    obtain ⟨A18, hcut18, hA18, hC18⟩ := print_mid_of (P := Try.prog) (Value.int .i64) 0 37 3 .i64 .i64 Try.underlying37 hi018 hsz18 (some ad222) c0 l0 2 (wrap64 (2 + (rd l0 1))) (by omega) (by first | omega|exact of_decide_eq_true (by first|(with_reducible assumption) | assumption)) (of_decide_eq_true (by first|(with_reducible assumption) | assumption)) HC0.out
                    have HR223 := Aside0.mk (Kd.C_of_reads (h1 := fun _ => rfl) (hA18 _ (Kd.reads_of_C HR0.out)))
                    have HC223 := Aside0.mk hC18
                    clear hA18 hC18 hi018 hsz18
                    go_wp2_with (first|((with_reducible refine gate_callee (f := 95) rfl ?_); refine goesL_ (some 27) rfl rfl Try.func95 (by kernel_rfl) rfl #[.slice A18 ((l0.take ((wrap64 (2 + (rd l0 1))) : Int).toNat).drop 2).length (c0 - 2)] rfl (by (try simp only [List.map_toArray, List.map_cons, List.map_nil]); first | done|(rw [show ((l0.take ((wrap64 (2 + (rd l0 1))) : Int).toNat).drop 2).length = ((wrap64 (2 + (rd l0 1))).toNat - 2) from (by rw [List.length_drop, List.length_take]; have h_ : ((wrap64 (2 + (rd l0 1))) : Int) ≤ (l0.length : Int) := of_decide_eq_true (by first|(with_reducible assumption) | assumption); omega)] <;> rfl) | rfl|(simp only [List.length_drop, List.length_take]; rfl)) ?_; (with_reducible refine (slices_Clone_int_int.calls _ _ ((l0.take ((wrap64 (2 + (rd l0 1))) : Int).toNat).drop 2) t224 _ ?side1 ?side2 A11.out).mono ?_);(case side1 => repeat (first|exact (Kd.C_below HR223.out HB.out)|(with_reducible refine Kd.C_alloc ?_ _)|(with_reducible refine Kd.C_drewN ?_ _)|(with_reducible refine Kd.C_drew ?_)));(case side2 => exact HC223.out); rintro e w19 ⟨v225, rfl, ho0, hb⟩; refine ⟨_, rfl, ?_⟩; have n0_ := Aside0.mk (Kd.R_lower ho0 (below_size (by repeat (first|(with_reducible first|exact HB.out|apply below_alloc|apply pw_below_drewN|apply below_drew1)|exact HB.out)))); have n1_ := Aside0.mk (below_step (by repeat (first|(with_reducible first|exact HB.out|apply below_alloc|apply pw_below_drewN|apply below_drew1)|exact HB.out)) hb); clear HB; have HO226 := n0_; have HB := n1_; clear n0_ n1_; (try clear hb); (try clear hb2); (try clear hk); (try clear hi); (try clear ho0); obtain ⟨Ao20, co20, eo20⟩ := Kd.R_slice HO226.out; subst eo20)|((with_reducible refine gate_callee (f := 36) rfl ?_); refine goesL_ (some 29) rfl rfl Try.func36 (by kernel_rfl) rfl #[.slice Ao20 t224.length co20] rfl (by (try simp only [List.map_toArray, List.map_cons, List.map_nil]); first | done | rfl|(simp only [List.length_drop, List.length_take]; rfl)) ?_; (with_reducible refine (impl_IsState.calls kj1 _ _ t224 true _ ?side1 ?side2 A12.out).mono ?_);(case side1 => repeat (first|exact (Kd.R_reads' HO226.out).2.2|(with_reducible refine Kd.C_alloc ?_ _)|(with_reducible refine Kd.C_drewN ?_ _)|(with_reducible refine Kd.C_drew ?_)));(case side2 => exact (Kd.R_reads' HO226.out).2.1); rintro e w' ⟨rfl, ⟨nd, rfl⟩⟩; refine ⟨_, rfl, ?_⟩; have p228 : 0 ≤ (0 : Int) := (by omega); have q228 : 0 < (l0.length : Int) := of_decide_eq_true (by first|(with_reducible assumption) | assumption); obtain ⟨ad228, e228, hx228_0⟩ := Kd.at_int HR0.out 0 p228 q228; obtain rfl : ad222 = ad228 := (by injection e228); have qi228 : (0 < l0.length) = True := eq_true (by omega); (try rw [show ((0 : Int)).toNat = 0 from rfl] at hx228_0); (try rw [Addr.add_zero'] at hx228_0); replace hx228_0 := (HB.out.cell (World.block_lt_of_cell? w _ hx228_0)).trans hx228_0; replace p228 := eq_true p228; replace q228 := eq_true q228)|(go_at_call 85; (with_reducible refine (impl_areaOf.calls (rd l0 0) _ _ t224 t229 _ ?side1 ?side2 A15.out).mono ?_);(case side1 => repeat (first|exact (Kd.R_reads' HO226.out).2.2|(with_reducible refine Kd.C_alloc ?_ _)|(with_reducible refine Kd.C_drewN ?_ _)|(with_reducible refine Kd.C_drew ?_)));(case side2 => exact (Kd.R_reads' HO226.out).2.1); rintro e w21 ⟨v230, rfl, ho0, hb⟩; have n0_ := Aside0.mk (Kd.R_elder' (by (with_reducible repeat (first|apply Kd.R_alloc|apply Kd.R_drewN|apply Kd.R_drew)); exact HO226.out) (Kd.R_base ho0) hb); have n1_ := Aside0.mk (Kd.R_lower (Kd.R_new' ho0 (Kd.R_lt (by (with_reducible repeat (first|apply Kd.R_alloc|apply Kd.R_drewN|apply Kd.R_drew)); exact HO226.out))) (below_size (by repeat (first|(with_reducible first|exact HB.out|apply below_alloc|apply pw_below_drewN|apply below_drew1)|exact HB.out)))); have n2_ := Aside0.mk (below_step (by repeat (first|(with_reducible first|exact HB.out|apply below_alloc|apply pw_below_drewN|apply below_drew1)|exact HB.out)) hb); clear HO226; clear HB; have HO226 := n0_; have HO231 := n1_; have HB := n2_; clear n0_ n1_ n2_; (try clear hb); (try clear hb2); (try clear hk); (try clear hi); (try clear ho0); obtain ⟨Ao22, co22, eo22⟩ := Kd.R_slice HO231.out; subst eo22)|(go_at_call 133; (with_reducible refine (slices_Equal_int_int.calls kj1 _ _ t229 _ _ l0 true _ ?side1 ?side2 ?side3 ?side4 A16.out).mono ?_);(case side1 => repeat (first|exact (Kd.R_reads' HO231.out).2.2|(with_reducible refine Kd.C_alloc ?_ _)|(with_reducible refine Kd.C_drewN ?_ _)|(with_reducible refine Kd.C_drew ?_)));(case side2 => exact (Kd.R_reads' HO231.out).2.1);(case side3 => repeat (first|exact (Kd.C_below HR0.out HB.out)|(with_reducible refine Kd.C_alloc ?_ _)|(with_reducible refine Kd.C_drewN ?_ _)|(with_reducible refine Kd.C_drew ?_)));(case side4 => exact HC0.out); rintro e w' ⟨rfl, ⟨nd, rfl⟩⟩; have p233 : 0 ≤ (0 : Int) := (by omega); have q233 : 0 < (l0.length : Int) := of_decide_eq_true (by first|(with_reducible assumption) | assumption); obtain ⟨ad233, e233, hx233_0⟩ := Kd.at_int HR0.out 0 p233 q233; obtain rfl : ad222 = ad233 := (by injection e233); have qi233 : (0 < l0.length) = True := eq_true (by omega); (try rw [show ((0 : Int)).toNat = 0 from rfl] at hx233_0); (try rw [Addr.add_zero'] at hx233_0); replace hx233_0 := (HB.out.cell (World.block_lt_of_cell? w _ hx233_0)).trans hx233_0; replace p233 := eq_true p233; replace q233 := eq_true q233))
                    go_ret2
                    exact ⟨_, by first | rfl|(simp [errW_none, errW_some] <;> rfl)|(simp [*, errW_none, errW_some] <;> rfl), by (with_reducible repeat (first|apply Kd.R_alloc|apply Kd.R_drewN|apply Kd.R_drew)); exact Kd.R_mono HO226.out (fun _ hk => trivial), by repeat (first|(with_reducible first|exact HB.out|apply below_alloc|apply pw_below_drewN|apply below_drew1)|exact HB.out)⟩
                  · replace c17 := Bool.eq_false_iff.mpr c17
                    subst c17
                    have H1 : (some (0, ([] : List Int))) = some (r1, r2) := by rw [if_neg (show ¬ (false = true) by decide)] at H; exact H
                    clear H
                    have H := H1
                    clear H1
                    simp only [Option.some.injEq, Prod.mk.injEq] at H
                    obtain ⟨rfl, rfl⟩ := H
                    have p222 : 0 ≤ (1 : Int) := (by omega)
                    have q222 : 1 < (l0.length : Int) := of_decide_eq_true (by first|(with_reducible assumption) | assumption)
                    obtain ⟨ad222, e222, hx222_0⟩ := Kd.at_int HR0.out 1 p222 q222
                    cases e222
                    (try simp only [show (1 : Int).toNat = 1 from rfl, Nat.reduceMul, Nat.reduceEqDiff, Go.Addr.add, ↓reduceIte] at hx222_0)
                    have qi222 : (1 < l0.length) = True := eq_true (by omega)
                    (try rw [show ((1 : Int)).toNat = 1 from rfl] at hx222_0)
                    replace hx222_0 := (HB.out.cell (World.block_lt_of_cell? w _ hx222_0)).trans hx222_0
                    replace p222 := eq_true p222
                    replace q222 := eq_true q222
                    obtain ⟨i023, hi023, _, hsz23, _⟩ := info_parts info3
                    obtain ⟨A23, hcut23, hA23, hC23⟩ := print_mid_of (P := Try.prog) (Value.int .i64) 0 37 3 .i64 .i64 Try.underlying37 hi023 hsz23 (some ad222) c0 l0 2 (wrap64 (2 + (rd l0 1))) (by omega) (by first | omega|exact of_decide_eq_true (by first|(with_reducible assumption) | assumption)) (of_decide_eq_true (by first|(with_reducible assumption) | assumption)) HC0.out
                    have HR223 := Aside0.mk (Kd.C_of_reads (h1 := fun _ => rfl) (hA23 _ (Kd.reads_of_C HR0.out)))
                    have HC223 := Aside0.mk hC23
                    clear hA23 hC23 hi023 hsz23
                    go_wp2_with (first|((with_reducible refine gate_callee (f := 95) rfl ?_); refine goesL_ (some 27) rfl rfl Try.func95 (by kernel_rfl) rfl #[.slice A23 ((l0.take ((wrap64 (2 + (rd l0 1))) : Int).toNat).drop 2).length (c0 - 2)] rfl (by (try simp only [List.map_toArray, List.map_cons, List.map_nil]); first | done|(rw [show ((l0.take ((wrap64 (2 + (rd l0 1))) : Int).toNat).drop 2).length = ((wrap64 (2 + (rd l0 1))).toNat - 2) from (by rw [List.length_drop, List.length_take]; have h_ : ((wrap64 (2 + (rd l0 1))) : Int) ≤ (l0.length : Int) := of_decide_eq_true (by first|(with_reducible assumption) | assumption); omega)] <;> rfl) | rfl|(simp only [List.length_drop, List.length_take]; rfl)) ?_; (with_reducible refine (slices_Clone_int_int.calls _ _ ((l0.take ((wrap64 (2 + (rd l0 1))) : Int).toNat).drop 2) t224 _ ?side1 ?side2 A11.out).mono ?_);(case side1 => repeat (first|exact (Kd.C_below HR223.out HB.out)|(with_reducible refine Kd.C_alloc ?_ _)|(with_reducible refine Kd.C_drewN ?_ _)|(with_reducible refine Kd.C_drew ?_)));(case side2 => exact HC223.out); rintro e w24 ⟨v225, rfl, ho0, hb⟩; refine ⟨_, rfl, ?_⟩; have n0_ := Aside0.mk (Kd.R_lower ho0 (below_size (by repeat (first|(with_reducible first|exact HB.out|apply below_alloc|apply pw_below_drewN|apply below_drew1)|exact HB.out)))); have n1_ := Aside0.mk (below_step (by repeat (first|(with_reducible first|exact HB.out|apply below_alloc|apply pw_below_drewN|apply below_drew1)|exact HB.out)) hb); clear HB; have HO226 := n0_; have HB := n1_; clear n0_ n1_; (try clear hb); (try clear hb2); (try clear hk); (try clear hi); (try clear ho0); obtain ⟨Ao25, co25, eo25⟩ := Kd.R_slice HO226.out; subst eo25)|((with_reducible refine gate_callee (f := 36) rfl ?_); refine goesL_ (some 29) rfl rfl Try.func36 (by kernel_rfl) rfl #[.slice Ao25 t224.length co25] rfl (by (try simp only [List.map_toArray, List.map_cons, List.map_nil]); first | done | rfl|(simp only [List.length_drop, List.length_take]; rfl)) ?_; (with_reducible refine (impl_IsState.calls kj1 _ _ t224 true _ ?side1 ?side2 A12.out).mono ?_);(case side1 => repeat (first|exact (Kd.R_reads' HO226.out).2.2|(with_reducible refine Kd.C_alloc ?_ _)|(with_reducible refine Kd.C_drewN ?_ _)|(with_reducible refine Kd.C_drew ?_)));(case side2 => exact (Kd.R_reads' HO226.out).2.1); rintro e w' ⟨rfl, ⟨nd, rfl⟩⟩; refine ⟨_, rfl, ?_⟩; have p228 : 0 ≤ (0 : Int) := (by omega); have q228 : 0 < (l0.length : Int) := of_decide_eq_true (by first|(with_reducible assumption) | assumption); obtain ⟨ad228, e228, hx228_0⟩ := Kd.at_int HR0.out 0 p228 q228; obtain rfl : ad222 = ad228 := (by injection e228); have qi228 : (0 < l0.length) = True := eq_true (by omega); (try rw [show ((0 : Int)).toNat = 0 from rfl] at hx228_0); (try rw [Addr.add_zero'] at hx228_0); replace hx228_0 := (HB.out.cell (World.block_lt_of_cell? w _ hx228_0)).trans hx228_0; replace p228 := eq_true p228; replace q228 := eq_true q228)|(go_at_call 85; (with_reducible refine (impl_areaOf.calls (rd l0 0) _ _ t224 t229 _ ?side1 ?side2 A15.out).mono ?_);(case side1 => repeat (first|exact (Kd.R_reads' HO226.out).2.2|(with_reducible refine Kd.C_alloc ?_ _)|(with_reducible refine Kd.C_drewN ?_ _)|(with_reducible refine Kd.C_drew ?_)));(case side2 => exact (Kd.R_reads' HO226.out).2.1); rintro e w26 ⟨v230, rfl, ho0, hb⟩; have n0_ := Aside0.mk (Kd.R_elder' (by (with_reducible repeat (first|apply Kd.R_alloc|apply Kd.R_drewN|apply Kd.R_drew)); exact HO226.out) (Kd.R_base ho0) hb); have n1_ := Aside0.mk (Kd.R_lower (Kd.R_new' ho0 (Kd.R_lt (by (with_reducible repeat (first|apply Kd.R_alloc|apply Kd.R_drewN|apply Kd.R_drew)); exact HO226.out))) (below_size (by repeat (first|(with_reducible first|exact HB.out|apply below_alloc|apply pw_below_drewN|apply below_drew1)|exact HB.out)))); have n2_ := Aside0.mk (below_step (by repeat (first|(with_reducible first|exact HB.out|apply below_alloc|apply pw_below_drewN|apply below_drew1)|exact HB.out)) hb); clear HO226; clear HB; have HO226 := n0_; have HO231 := n1_; have HB := n2_; clear n0_ n1_ n2_; (try clear hb); (try clear hb2); (try clear hk); (try clear hi); (try clear ho0); obtain ⟨Ao27, co27, eo27⟩ := Kd.R_slice HO231.out; subst eo27)|(go_at_call 133; (with_reducible refine (slices_Equal_int_int.calls kj1 _ _ t229 _ _ l0 false _ ?side1 ?side2 ?side3 ?side4 A16.out).mono ?_);(case side1 => repeat (first|exact (Kd.R_reads' HO231.out).2.2|(with_reducible refine Kd.C_alloc ?_ _)|(with_reducible refine Kd.C_drewN ?_ _)|(with_reducible refine Kd.C_drew ?_)));(case side2 => exact (Kd.R_reads' HO231.out).2.1);(case side3 => repeat (first|exact (Kd.C_below HR0.out HB.out)|(with_reducible refine Kd.C_alloc ?_ _)|(with_reducible refine Kd.C_drewN ?_ _)|(with_reducible refine Kd.C_drew ?_)));(case side4 => exact HC0.out); rintro e w' ⟨rfl, ⟨nd, rfl⟩⟩))
                    go_ret2
                    exact ⟨_, by first | rfl|(simp [errW_none, errW_some] <;> rfl)|(simp [*, errW_none, errW_some] <;> rfl), by first|exact Kd.R_nil _ _ _ _ _|exact Kd.N_nil _ _ _ _ _|exact Kd.V_nil _ _ _ _ _|exact Kd.Q_nil _ _ _ _ _|exact Kd.S_nil _ _ _ _ _, by repeat (first|(with_reducible first|exact HB.out|apply below_alloc|apply pw_below_drewN|apply below_drew1)|exact HB.out)⟩
                · rw [if_neg c14] at H
                  exact absurd H (by simp)
              · replace c13 := Bool.eq_false_iff.mpr c13
                subst c13
                have H1 : (some (0, ([] : List Int))) = some (r1, r2) := by rw [if_neg (show ¬ (false = true) by decide)] at H; exact H
                clear H
                have H := H1
                clear H1
                simp only [Option.some.injEq, Prod.mk.injEq] at H
                obtain ⟨rfl, rfl⟩ := H
                have p222 : 0 ≤ (1 : Int) := (by omega)
                have q222 : 1 < (l0.length : Int) := of_decide_eq_true (by first|(with_reducible assumption) | assumption)
                obtain ⟨ad222, e222, hx222_0⟩ := Kd.at_int HR0.out 1 p222 q222
                cases e222
                (try simp only [show (1 : Int).toNat = 1 from rfl, Nat.reduceMul, Nat.reduceEqDiff, Go.Addr.add, ↓reduceIte] at hx222_0)
                have qi222 : (1 < l0.length) = True := eq_true (by omega)
                (try rw [show ((1 : Int)).toNat = 1 from rfl] at hx222_0)
                replace hx222_0 := (HB.out.cell (World.block_lt_of_cell? w _ hx222_0)).trans hx222_0
                replace p222 := eq_true p222
                replace q222 := eq_true q222
                obtain ⟨i028, hi028, _, hsz28, _⟩ := info_parts info3
                obtain ⟨A28, hcut28, hA28, hC28⟩ := print_mid_of (P := Try.prog) (Value.int .i64) 0 37 3 .i64 .i64 Try.underlying37 hi028 hsz28 (some ad222) c0 l0 2 (wrap64 (2 + (rd l0 1))) (by omega) (by first | omega|exact of_decide_eq_true (by first|(with_reducible assumption) | assumption)) (of_decide_eq_true (by first|(with_reducible assumption) | assumption)) HC0.out
                have HR223 := Aside0.mk (Kd.C_of_reads (h1 := fun _ => rfl) (hA28 _ (Kd.reads_of_C HR0.out)))
                have HC223 := Aside0.mk hC28
                clear hA28 hC28 hi028 hsz28
                go_wp2_with (first|((with_reducible refine gate_callee (f := 95) rfl ?_); refine goesL_ (some 27) rfl rfl Try.func95 (by kernel_rfl) rfl #[.slice A28 ((l0.take ((wrap64 (2 + (rd l0 1))) : Int).toNat).drop 2).length (c0 - 2)] rfl (by (try simp only [List.map_toArray, List.map_cons, List.map_nil]); first | done|(rw [show ((l0.take ((wrap64 (2 + (rd l0 1))) : Int).toNat).drop 2).length = ((wrap64 (2 + (rd l0 1))).toNat - 2) from (by rw [List.length_drop, List.length_take]; have h_ : ((wrap64 (2 + (rd l0 1))) : Int) ≤ (l0.length : Int) := of_decide_eq_true (by first|(with_reducible assumption) | assumption); omega)] <;> rfl) | rfl|(simp only [List.length_drop, List.length_take]; rfl)) ?_; (with_reducible refine (slices_Clone_int_int.calls _ _ ((l0.take ((wrap64 (2 + (rd l0 1))) : Int).toNat).drop 2) t224 _ ?side1 ?side2 A11.out).mono ?_);(case side1 => repeat (first|exact (Kd.C_below HR223.out HB.out)|(with_reducible refine Kd.C_alloc ?_ _)|(with_reducible refine Kd.C_drewN ?_ _)|(with_reducible refine Kd.C_drew ?_)));(case side2 => exact HC223.out); rintro e w29 ⟨v225, rfl, ho0, hb⟩; refine ⟨_, rfl, ?_⟩; have n0_ := Aside0.mk (Kd.R_lower ho0 (below_size (by repeat (first|(with_reducible first|exact HB.out|apply below_alloc|apply pw_below_drewN|apply below_drew1)|exact HB.out)))); have n1_ := Aside0.mk (below_step (by repeat (first|(with_reducible first|exact HB.out|apply below_alloc|apply pw_below_drewN|apply below_drew1)|exact HB.out)) hb); clear HB; have HO226 := n0_; have HB := n1_; clear n0_ n1_; (try clear hb); (try clear hb2); (try clear hk); (try clear hi); (try clear ho0); obtain ⟨Ao30, co30, eo30⟩ := Kd.R_slice HO226.out; subst eo30)|((with_reducible refine gate_callee (f := 36) rfl ?_); refine goesL_ (some 29) rfl rfl Try.func36 (by kernel_rfl) rfl #[.slice Ao30 t224.length co30] rfl (by (try simp only [List.map_toArray, List.map_cons, List.map_nil]); first | done | rfl|(simp only [List.length_drop, List.length_take]; rfl)) ?_; (with_reducible refine (impl_IsState.calls kj1 _ _ t224 false _ ?side1 ?side2 A12.out).mono ?_);(case side1 => repeat (first|exact (Kd.R_reads' HO226.out).2.2|(with_reducible refine Kd.C_alloc ?_ _)|(with_reducible refine Kd.C_drewN ?_ _)|(with_reducible refine Kd.C_drew ?_)));(case side2 => exact (Kd.R_reads' HO226.out).2.1); rintro e w' ⟨rfl, ⟨nd, rfl⟩⟩; refine ⟨_, rfl, ?_⟩))
                go_ret2
                exact ⟨_, by first | rfl|(simp [errW_none, errW_some] <;> rfl)|(simp [*, errW_none, errW_some] <;> rfl), by first|exact Kd.R_nil _ _ _ _ _|exact Kd.N_nil _ _ _ _ _|exact Kd.V_nil _ _ _ _ _|exact Kd.Q_nil _ _ _ _ _|exact Kd.S_nil _ _ _ _ _, by repeat (first|(with_reducible first|exact HB.out|apply below_alloc|apply pw_below_drewN|apply below_drew1)|exact HB.out)⟩
            · rw [if_neg c10] at H
              exact absurd H (by simp)
          · rw [if_neg c9] at H
            exact absurd H (by simp)
        · rw [if_neg c8] at H
          exact absurd H (by simp)

end Go.Proofs.Ytlbbkepkincleaa.QFnAreas
