/- Written by a program of this session (the kit's printer, with leaf contracts proved by hand put in): what each Go function computes, and that the call computes it. No condition but those that each theorem names. -/
import Derived.Test.YtplpjmhmochcfaaQFnExactMergeFirstx0
import Derived.Test.YtplpjmhmochcfaaQFnExactMergeFirstx2
import Derived.Test.YtplpjmhmochcfaaQFnExactMergeFirstx3
import Derived.Test.YtplpjmhmochcfaaQFnExactMergeFirstx7
import Derived.Test.YtplpjmhmochcfaaQFnExactMergeFirstx11
namespace Go.Proofs.Ytplpjmhmochcfaa.QFnExactMergeFirst
open Go.RowKit Go.Proofs.YtplpjmhmochcfaaW.PrintWords Go.Proofs.YtplpjmhmochcfaaW.PrintLast Go.Proofs.YtplpjmhmochcfaaW.PrintMore
attribute [local go_sem] max2_int min2_int max_two min_two max_three min_three max_four min_four   -- for this text's walks alone
set_option linter.unusedVariables false
set_option linter.unusedSimpArgs false

/-! ### laws_FnExactMergeFirst: function 6 -/
mutual
def laws_FnExactMergeFirst.j0 : Nat → List (S96) → List (S96) → List (S96) → List (S42) → Int → Bool → List (S42) → List (S42) → List (S42) → List (S42) → Int → Bool → Bool → Option (Bool)
 | 0, _, _, _, _, _, _, _, _, _, _, _, _, _ => none
 | k + 1, x0, x1, x2, x8, x9, x10, x11, x12, x13, x14, x15, x16, x76 => if x76 = true then (some false) else ((laws_toHoleS.f k x0).bind fun t347 => ((laws_eqHoleS.f k x11 t347).bind fun t350 => (if t350 = true then ((laws_toHoleS.f k x1).bind fun t351 => ((laws_eqHoleS.f k x12 t351).bind fun t354 => (if t354 = true then ((laws_toHoleS.f k x2).bind fun t355 => ((laws_eqHoleS.f k x13 t355).bind fun t358 => (if t358 = true then ((laws_markHoleS.f k x11 1).bind fun bt359 => ((laws_markHoleS.f k x12 bt359.1).bind fun bt361 => ((laws_markHoleS.f k x13 bt361.1).bind fun bt363 => (if bt363.1 < 0 then (laws_FnExactMergeFirst.j1 k x0 x1 x2 x8 x9 x10 x14 true) else ((laws_eqHoleS.f k x14 x8).bind fun t365 => (if t365 = true then (if x15 = x9 then (laws_FnExactMergeFirst.j1 k x0 x1 x2 x8 x9 x10 x14 (x16 != x10)) else (laws_FnExactMergeFirst.j1 k x0 x1 x2 x8 x9 x10 x14 true)) else (laws_FnExactMergeFirst.j1 k x0 x1 x2 x8 x9 x10 x14 true))))))) else (some false)))) else (some false)))) else (some false))))
def laws_FnExactMergeFirst.j1 : Nat → List (S96) → List (S96) → List (S96) → List (S42) → Int → Bool → List (S42) → Bool → Option (Bool)
 | 0, _, _, _, _, _, _, _, _ => none
 | k + 1, x0, x1, x2, x8, x9, x10, x14, x118 => if x118 = true then (some false) else ((laws_markHoleS.f k x14 1).bind fun bt366 => ((laws_heldHoleS.f k bt366.2 1).bind fun t368 => (if t368 < 0 then (some false) else (if t368 = bt366.1 then ((laws_toHoleS.f k x0).bind fun t369 => ((laws_toHoleS.f k x1).bind fun t372 => ((laws_toHoleS.f k x2).bind fun t375 => ((impl_MergeFirst.f k t369 t372 t375).bind fun bt378 => ((laws_eqHoleS.f k bt378.1 x8).bind fun t383 => (if t383 = true then (if bt378.2.1 = x9 then (laws_FnExactMergeFirst.j2 k bt366.2 bt366.1 (bt378.2.2 != x10)) else (laws_FnExactMergeFirst.j2 k bt366.2 bt366.1 true)) else (laws_FnExactMergeFirst.j2 k bt366.2 bt366.1 true))))))) else (some false)))))
def laws_FnExactMergeFirst.j2 : Nat → List (S42) → Int → Bool → Option (Bool)
 | 0, _, _, _ => none
 | k + 1, x14, x18, x154 => if x154 = true then (some false) else ((laws_heldHoleS.f k x14 1).bind fun t384 => (if t384 < 0 then (some false) else (if t384 = x18 then (some true) else (some false))))
end
def laws_FnExactMergeFirst.f (k : Nat) (l0 : List (S96)) (l1 : List (S96)) (l2 : List (S96)) : Option (Bool) := (laws_szHoleS.f l0 1048576).bind fun t315 => (if t315 < 0 then (some true) else ((laws_szHoleS.f l1 t315).bind fun t316 => (if t316 < 0 then (some true) else ((laws_szHoleS.f l2 t316).bind fun t317 => (if t317 < 0 then (some true) else ((laws_toHoleS.f k l0).bind fun t318 => ((laws_toHoleS.f k l1).bind fun t321 => ((laws_toHoleS.f k l2).bind fun t324 => ((spec_MergeFirst.f k t318 t321 t324).bind fun bt327 => ((laws_toHoleS.f k l0).bind fun t332 => ((laws_toHoleS.f k l1).bind fun t335 => ((laws_toHoleS.f k l2).bind fun t338 => ((impl_MergeFirst.f k t332 t335 t338).bind fun bt341 => ((laws_eqHoleS.f k bt341.1 bt327.1).bind fun t346 => (if t346 = true then (if bt341.2.1 = bt327.2.1 then (laws_FnExactMergeFirst.j0 k l0 l1 l2 bt327.1 bt327.2.1 bt327.2.2 t332 t335 t338 bt341.1 bt341.2.1 bt341.2.2 (bt341.2.2 != bt327.2.2)) else (laws_FnExactMergeFirst.j0 k l0 l1 l2 bt327.1 bt327.2.1 bt327.2.2 t332 t335 t338 bt341.1 bt341.2.1 bt341.2.2 true)) else (laws_FnExactMergeFirst.j0 k l0 l1 l2 bt327.1 bt327.2.1 bt327.2.2 t332 t335 t338 bt341.1 bt341.2.1 bt341.2.2 true))))))))))))))))
theorem laws_FnExactMergeFirst.mono_l : ∀ k, (∀ y0 y1 y2 y3 y4 y5 y6 y7 y8 y9 y10 y11 y12, LeO (laws_FnExactMergeFirst.j0 k y0 y1 y2 y3 y4 y5 y6 y7 y8 y9 y10 y11 y12) (laws_FnExactMergeFirst.j0 (k + 1) y0 y1 y2 y3 y4 y5 y6 y7 y8 y9 y10 y11 y12)) ∧ (∀ y0 y1 y2 y3 y4 y5 y6 y7, LeO (laws_FnExactMergeFirst.j1 k y0 y1 y2 y3 y4 y5 y6 y7) (laws_FnExactMergeFirst.j1 (k + 1) y0 y1 y2 y3 y4 y5 y6 y7)) ∧ (∀ y0 y1 y2, LeO (laws_FnExactMergeFirst.j2 k y0 y1 y2) (laws_FnExactMergeFirst.j2 (k + 1) y0 y1 y2))
 | 0 => ⟨fun _ _ _ _ _ _ _ _ _ _ _ _ _ r h => by simp [laws_FnExactMergeFirst.j0] at h, fun _ _ _ _ _ _ _ _ r h => by simp [laws_FnExactMergeFirst.j1] at h, fun _ _ _ r h => by simp [laws_FnExactMergeFirst.j2] at h⟩
 | k + 1 => by
  obtain ⟨ih0, ih1, ih2⟩ := laws_FnExactMergeFirst.mono_l k
  refine ⟨?_, ?_, ?_⟩
  ·intro y0 y1 y2 y3 y4 y5 y6 y7 y8 y9 y10 y11 y12
   unfold laws_FnExactMergeFirst.j0
   repeat' first
   |(with_reducible exact ih0 _ _ _ _ _ _ _ _ _ _ _ _ _)
   |(with_reducible exact ih1 _ _ _ _ _ _ _ _)
   |(with_reducible exact ih2 _ _ _)
   |(with_reducible exact impl_MergeFirst.mono _ _ _ _)
   |(with_reducible exact laws_eqHoleS.mono _ _ _)
   |(with_reducible exact laws_heldHoleS.mono _ _ _)
   |(with_reducible exact laws_markHoleS.mono _ _ _)
   |(with_reducible exact laws_toHoleS.mono _ _)
   |(with_reducible exact spec_MergeFirst.mono _ _ _ _)
   |(with_reducible exact LeO.refl _)
   |(with_reducible exact LeO.none _)
   |(with_reducible refine LeO.ite ?_ ?_)
   |(with_reducible refine LeO.bind ?_ (fun _ => ?_))
   |exact ih0 _ _ _ _ _ _ _ _ _ _ _ _ _
   |exact ih1 _ _ _ _ _ _ _ _
   |exact ih2 _ _ _
   |exact impl_MergeFirst.mono _ _ _ _
   |exact laws_eqHoleS.mono _ _ _
   |exact laws_heldHoleS.mono _ _ _
   |exact laws_markHoleS.mono _ _ _
   |exact laws_toHoleS.mono _ _
   |exact spec_MergeFirst.mono _ _ _ _
   |exact LeO.none _
    | refine LeO.ite ?_ ?_
    | refine LeO.bind ?_ (fun _ => ?_)
  ·intro y0 y1 y2 y3 y4 y5 y6 y7
   unfold laws_FnExactMergeFirst.j1
   repeat' first
   |(with_reducible exact ih0 _ _ _ _ _ _ _ _ _ _ _ _ _)
   |(with_reducible exact ih1 _ _ _ _ _ _ _ _)
   |(with_reducible exact ih2 _ _ _)
   |(with_reducible exact impl_MergeFirst.mono _ _ _ _)
   |(with_reducible exact laws_eqHoleS.mono _ _ _)
   |(with_reducible exact laws_heldHoleS.mono _ _ _)
   |(with_reducible exact laws_markHoleS.mono _ _ _)
   |(with_reducible exact laws_toHoleS.mono _ _)
   |(with_reducible exact spec_MergeFirst.mono _ _ _ _)
   |(with_reducible exact LeO.refl _)
   |(with_reducible exact LeO.none _)
   |(with_reducible refine LeO.ite ?_ ?_)
   |(with_reducible refine LeO.bind ?_ (fun _ => ?_))
   |exact ih0 _ _ _ _ _ _ _ _ _ _ _ _ _
   |exact ih1 _ _ _ _ _ _ _ _
   |exact ih2 _ _ _
   |exact impl_MergeFirst.mono _ _ _ _
   |exact laws_eqHoleS.mono _ _ _
   |exact laws_heldHoleS.mono _ _ _
   |exact laws_markHoleS.mono _ _ _
   |exact laws_toHoleS.mono _ _
   |exact spec_MergeFirst.mono _ _ _ _
   |exact LeO.none _
    | refine LeO.ite ?_ ?_
    | refine LeO.bind ?_ (fun _ => ?_)
  ·intro y0 y1 y2
   unfold laws_FnExactMergeFirst.j2
   repeat' first
   |(with_reducible exact ih0 _ _ _ _ _ _ _ _ _ _ _ _ _)
   |(with_reducible exact ih1 _ _ _ _ _ _ _ _)
   |(with_reducible exact ih2 _ _ _)
   |(with_reducible exact impl_MergeFirst.mono _ _ _ _)
   |(with_reducible exact laws_eqHoleS.mono _ _ _)
   |(with_reducible exact laws_heldHoleS.mono _ _ _)
   |(with_reducible exact laws_markHoleS.mono _ _ _)
   |(with_reducible exact laws_toHoleS.mono _ _)
   |(with_reducible exact spec_MergeFirst.mono _ _ _ _)
   |(with_reducible exact LeO.refl _)
   |(with_reducible exact LeO.none _)
   |(with_reducible refine LeO.ite ?_ ?_)
   |(with_reducible refine LeO.bind ?_ (fun _ => ?_))
   |exact ih0 _ _ _ _ _ _ _ _ _ _ _ _ _
   |exact ih1 _ _ _ _ _ _ _ _
   |exact ih2 _ _ _
   |exact impl_MergeFirst.mono _ _ _ _
   |exact laws_eqHoleS.mono _ _ _
   |exact laws_heldHoleS.mono _ _ _
   |exact laws_markHoleS.mono _ _ _
   |exact laws_toHoleS.mono _ _
   |exact spec_MergeFirst.mono _ _ _ _
   |exact LeO.none _
    | refine LeO.ite ?_ ?_
    | refine LeO.bind ?_ (fun _ => ?_)
theorem laws_FnExactMergeFirst.mono : ∀ a0 a1 a2 k, LeO (laws_FnExactMergeFirst.f k a0 a1 a2) (laws_FnExactMergeFirst.f (k + 1) a0 a1 a2) := by
 intro a0 a1 a2 k
 obtain ⟨ih0, ih1, ih2⟩ := laws_FnExactMergeFirst.mono_l k
 unfold laws_FnExactMergeFirst.f
 repeat' first
  |(with_reducible exact ih0 _ _ _ _ _ _ _ _ _ _ _ _ _)
  |(with_reducible exact ih1 _ _ _ _ _ _ _ _)
  |(with_reducible exact ih2 _ _ _)
  |(with_reducible exact impl_MergeFirst.mono _ _ _ _)
  |(with_reducible exact laws_eqHoleS.mono _ _ _)
  |(with_reducible exact laws_heldHoleS.mono _ _ _)
  |(with_reducible exact laws_markHoleS.mono _ _ _)
  |(with_reducible exact laws_toHoleS.mono _ _)
  |(with_reducible exact spec_MergeFirst.mono _ _ _ _)
  |(with_reducible exact LeO.refl _)
  |(with_reducible exact LeO.none _)
  |(with_reducible refine LeO.ite ?_ ?_)
  |(with_reducible refine LeO.bind ?_ (fun _ => ?_))
  |exact ih0 _ _ _ _ _ _ _ _ _ _ _ _ _
  |exact ih1 _ _ _ _ _ _ _ _
  |exact ih2 _ _ _
  |exact impl_MergeFirst.mono _ _ _ _
  |exact laws_eqHoleS.mono _ _ _
  |exact laws_heldHoleS.mono _ _ _
  |exact laws_markHoleS.mono _ _ _
  |exact laws_toHoleS.mono _ _
  |exact spec_MergeFirst.mono _ _ _ _
  |exact LeO.none _
   | refine LeO.ite ?_ ?_
   | refine LeO.bind ?_ (fun _ => ?_)
theorem laws_FnExactMergeFirst.j0_true : ∀ {k y0 y1 y2 y3 y4 y5 y6 y7 y8 y9 y10 y11}, laws_FnExactMergeFirst.j0 k y0 y1 y2 y3 y4 y5 y6 y7 y8 y9 y10 y11 true = some true → False := by
 intro k y0 y1 y2 y3 y4 y5 y6 y7 y8 y9 y10 y11 h
 cases k with
 | zero => simp only [laws_FnExactMergeFirst.j0] at h; cases h
 | succ k => rw [laws_FnExactMergeFirst.j0, if_pos rfl] at h; cases h
theorem laws_FnExactMergeFirst.j1_true : ∀ {k y0 y1 y2 y3 y4 y5 y6}, laws_FnExactMergeFirst.j1 k y0 y1 y2 y3 y4 y5 y6 true = some true → False := by
 intro k y0 y1 y2 y3 y4 y5 y6 h
 cases k with
 | zero => simp only [laws_FnExactMergeFirst.j1] at h; cases h
 | succ k => rw [laws_FnExactMergeFirst.j1, if_pos rfl] at h; cases h
theorem laws_FnExactMergeFirst.j2_true : ∀ {k y0 y1}, laws_FnExactMergeFirst.j2 k y0 y1 true = some true → False := by
 intro k y0 y1 h
 cases k with
 | zero => simp only [laws_FnExactMergeFirst.j2] at h; cases h
 | succ k => rw [laws_FnExactMergeFirst.j2, if_pos rfl] at h; cases h
set_option maxHeartbeats 8000000 in
set_option maxRecDepth 100000 in
theorem laws_FnExactMergeFirst.calls (k : Nat) (A0 : Option Addr) (c0 : Nat) (l0 : List (S96)) (A1 : Option Addr) (c1 : Nat) (l1 : List (S96)) (A2 : Option Addr) (c2 : Nat) (l2 : List (S96)) (r : Bool) (w : World) (hr0 : Kd.C k96 w A0 l0.length l0) (hc0 : l0.length ≤ c0) (hr1 : Kd.C k96 w A1 l1.length l1) (hc1 : l1.length ≤ c1) (hr2 : Kd.C k96 w A2 l2.length l2) (hc2 : l2.length ≤ c2) (h : laws_FnExactMergeFirst.f k l0 l1 l2 = some r) (hr_ : r = true) :
 Calls Try.prog 6 #[.slice A0 l0.length c0, .slice A1 l1.length c1, .slice A2 l2.length c2] w fun e w' => e = .returned (.bool r) ∧ Below w.heap.size w w' := by
 have HR_ := Aside0.mk hr_
 clear hr_
 have HR0 := Aside0.mk hr0
 have HC0 := Aside0.mk hc0
 clear hr0 hc0
 have HR1 := Aside0.mk hr1
 have HC1 := Aside0.mk hc1
 clear hr1 hc1
 have HR2 := Aside0.mk hr2
 have HC2 := Aside0.mk hc2
 clear hr2 hc2
 have HB := Aside0.mk (Below.refl w.heap.size w)
 have H : ((laws_szHoleS.f l0 1048576).bind fun t315 => (if t315 < 0 then (some true) else ((laws_szHoleS.f l1 t315).bind fun t316 => (if t316 < 0 then (some true) else ((laws_szHoleS.f l2 t316).bind fun t317 => (if t317 < 0 then (some true) else ((laws_toHoleS.f k l0).bind fun t318 => ((laws_toHoleS.f k l1).bind fun t321 => ((laws_toHoleS.f k l2).bind fun t324 => ((spec_MergeFirst.f k t318 t321 t324).bind fun bt327 => ((laws_toHoleS.f k l0).bind fun t332 => ((laws_toHoleS.f k l1).bind fun t335 => ((laws_toHoleS.f k l2).bind fun t338 => ((impl_MergeFirst.f k t332 t335 t338).bind fun bt341 => ((laws_eqHoleS.f k bt341.1 bt327.1).bind fun t346 => (if t346 = true then (if bt341.2.1 = bt327.2.1 then (laws_FnExactMergeFirst.j0 k l0 l1 l2 bt327.1 bt327.2.1 bt327.2.2 t332 t335 t338 bt341.1 bt341.2.1 bt341.2.2 (bt341.2.2 != bt327.2.2)) else (laws_FnExactMergeFirst.j0 k l0 l1 l2 bt327.1 bt327.2.1 bt327.2.2 t332 t335 t338 bt341.1 bt341.2.1 bt341.2.2 true)) else (laws_FnExactMergeFirst.j0 k l0 l1 l2 bt327.1 bt327.2.1 bt327.2.2 t332 t335 t338 bt341.1 bt341.2.1 bt341.2.2 true))))))))))))))))) = some r := h
 clear h
 replace H := Option.bind_eq_some_iff.mp H
 obtain ⟨t315, A40, H⟩ := H
 try dsimp only at H
 have A4 := Aside0.mk A40
 clear A40
 by_cases c5 : t315 < 0
 ·rw [if_pos c5] at H
  have c5b0 : decide (t315 < 0) = true := decide_eq_true c5
  clear c5
  obtain rfl := Option.some.inj H
  go_enter Try.func6, Try.ntmps6
  go_wp2_with (first|((with_reducible refine gate_callee (f := 28) rfl ?_); refine goesL_ (some 25) rfl rfl Try.func28 (by kernel_rfl) rfl #[.slice A0 l0.length c0, .int .i64 1048576] rfl (by (try simp only [List.map_toArray, List.map_cons, List.map_nil]); first | done | rfl|(simp only [List.length_drop, List.length_take]; rfl)) ?_; (with_reducible refine (laws_szHoleS.calls _ _ l0 1048576 t315 _ ?side1 ?side2 A4.out).mono ?_);(case side1 => repeat (first|exact HR0.out|(with_reducible refine Kd.C_alloc ?_ _)|(with_reducible refine Kd.C_drewN ?_ _)|(with_reducible refine Kd.C_drew ?_)));(case side2 => exact HC0.out); rintro e w' ⟨rfl, ⟨nd, rfl⟩⟩; refine ⟨_, rfl, ?_⟩))
  go_ret
  exact ⟨by first | rfl|(simp [errW_none, errW_some] <;> rfl)|(simp [*, errW_none, errW_some] <;> rfl), by repeat (first|(with_reducible first|exact HB.out|apply below_alloc|apply pw_below_drewN|apply below_drew1)|exact HB.out)⟩
 ·rw [if_neg c5] at H
  have c5b0 : decide (t315 < 0) = false := decide_eq_false c5
  clear c5
  replace H := Option.bind_eq_some_iff.mp H
  obtain ⟨t316, A60, H⟩ := H
  try dsimp only at H
  have A6 := Aside0.mk A60
  clear A60
  by_cases c7 : t316 < 0
  ·rw [if_pos c7] at H
   have c7b0 : decide (t316 < 0) = true := decide_eq_true c7
   clear c7
   obtain rfl := Option.some.inj H
   go_enter Try.func6, Try.ntmps6
   go_wp2_with (first|((with_reducible refine gate_callee (f := 28) rfl ?_); refine goesL_ (some 25) rfl rfl Try.func28 (by kernel_rfl) rfl #[.slice A0 l0.length c0, .int .i64 1048576] rfl (by (try simp only [List.map_toArray, List.map_cons, List.map_nil]); first | done | rfl|(simp only [List.length_drop, List.length_take]; rfl)) ?_; (with_reducible refine (laws_szHoleS.calls _ _ l0 1048576 t315 _ ?side1 ?side2 A4.out).mono ?_);(case side1 => repeat (first|exact HR0.out|(with_reducible refine Kd.C_alloc ?_ _)|(with_reducible refine Kd.C_drewN ?_ _)|(with_reducible refine Kd.C_drew ?_)));(case side2 => exact HC0.out); rintro e w' ⟨rfl, ⟨nd, rfl⟩⟩; refine ⟨_, rfl, ?_⟩)|((with_reducible refine gate_callee (f := 28) rfl ?_); refine goesL_ (some 30) rfl rfl Try.func28 (by kernel_rfl) rfl #[.slice A1 l1.length c1, .int .i64 t315] rfl (by (try simp only [List.map_toArray, List.map_cons, List.map_nil]); first | done | rfl|(simp only [List.length_drop, List.length_take]; rfl)) ?_; (with_reducible refine (laws_szHoleS.calls _ _ l1 t315 t316 _ ?side1 ?side2 A6.out).mono ?_);(case side1 => repeat (first|exact HR1.out|(with_reducible refine Kd.C_alloc ?_ _)|(with_reducible refine Kd.C_drewN ?_ _)|(with_reducible refine Kd.C_drew ?_)));(case side2 => exact HC1.out); rintro e w' ⟨rfl, ⟨nd, rfl⟩⟩; refine ⟨_, rfl, ?_⟩))
   go_ret
   exact ⟨by first | rfl|(simp [errW_none, errW_some] <;> rfl)|(simp [*, errW_none, errW_some] <;> rfl), by repeat (first|(with_reducible first|exact HB.out|apply below_alloc|apply pw_below_drewN|apply below_drew1)|exact HB.out)⟩
  ·rw [if_neg c7] at H
   have c7b0 : decide (t316 < 0) = false := decide_eq_false c7
   clear c7
   replace H := Option.bind_eq_some_iff.mp H
   obtain ⟨t317, A80, H⟩ := H
   try dsimp only at H
   have A8 := Aside0.mk A80
   clear A80
   by_cases c9 : t317 < 0
   ·rw [if_pos c9] at H
    have c9b0 : decide (t317 < 0) = true := decide_eq_true c9
    clear c9
    obtain rfl := Option.some.inj H
    go_enter Try.func6, Try.ntmps6
    go_wp2_with (first|((with_reducible refine gate_callee (f := 28) rfl ?_); refine goesL_ (some 25) rfl rfl Try.func28 (by kernel_rfl) rfl #[.slice A0 l0.length c0, .int .i64 1048576] rfl (by (try simp only [List.map_toArray, List.map_cons, List.map_nil]); first | done | rfl|(simp only [List.length_drop, List.length_take]; rfl)) ?_; (with_reducible refine (laws_szHoleS.calls _ _ l0 1048576 t315 _ ?side1 ?side2 A4.out).mono ?_);(case side1 => repeat (first|exact HR0.out|(with_reducible refine Kd.C_alloc ?_ _)|(with_reducible refine Kd.C_drewN ?_ _)|(with_reducible refine Kd.C_drew ?_)));(case side2 => exact HC0.out); rintro e w' ⟨rfl, ⟨nd, rfl⟩⟩; refine ⟨_, rfl, ?_⟩)|((with_reducible refine gate_callee (f := 28) rfl ?_); refine goesL_ (some 30) rfl rfl Try.func28 (by kernel_rfl) rfl #[.slice A1 l1.length c1, .int .i64 t315] rfl (by (try simp only [List.map_toArray, List.map_cons, List.map_nil]); first | done | rfl|(simp only [List.length_drop, List.length_take]; rfl)) ?_; (with_reducible refine (laws_szHoleS.calls _ _ l1 t315 t316 _ ?side1 ?side2 A6.out).mono ?_);(case side1 => repeat (first|exact HR1.out|(with_reducible refine Kd.C_alloc ?_ _)|(with_reducible refine Kd.C_drewN ?_ _)|(with_reducible refine Kd.C_drew ?_)));(case side2 => exact HC1.out); rintro e w' ⟨rfl, ⟨nd, rfl⟩⟩; refine ⟨_, rfl, ?_⟩)|((with_reducible refine gate_callee (f := 28) rfl ?_); refine goesL_ (some 35) rfl rfl Try.func28 (by kernel_rfl) rfl #[.slice A2 l2.length c2, .int .i64 t316] rfl (by (try simp only [List.map_toArray, List.map_cons, List.map_nil]); first | done | rfl|(simp only [List.length_drop, List.length_take]; rfl)) ?_; (with_reducible refine (laws_szHoleS.calls _ _ l2 t316 t317 _ ?side1 ?side2 A8.out).mono ?_);(case side1 => repeat (first|exact HR2.out|(with_reducible refine Kd.C_alloc ?_ _)|(with_reducible refine Kd.C_drewN ?_ _)|(with_reducible refine Kd.C_drew ?_)));(case side2 => exact HC2.out); rintro e w' ⟨rfl, ⟨nd, rfl⟩⟩; refine ⟨_, rfl, ?_⟩))
    go_ret
    exact ⟨by first | rfl|(simp [errW_none, errW_some] <;> rfl)|(simp [*, errW_none, errW_some] <;> rfl), by repeat (first|(with_reducible first|exact HB.out|apply below_alloc|apply pw_below_drewN|apply below_drew1)|exact HB.out)⟩
   ·rw [if_neg c9] at H
    have c9b0 : decide (t317 < 0) = false := decide_eq_false c9
    clear c9
    replace H := Option.bind_eq_some_iff.mp H
    obtain ⟨t318, A100, H⟩ := H
    try dsimp only at H
    have A10 := Aside0.mk A100
    clear A100
    replace H := Option.bind_eq_some_iff.mp H
    obtain ⟨t321, A110, H⟩ := H
    try dsimp only at H
    have A11 := Aside0.mk A110
    clear A110
    replace H := Option.bind_eq_some_iff.mp H
    obtain ⟨t324, A120, H⟩ := H
    try dsimp only at H
    have A12 := Aside0.mk A120
    clear A120
    replace H := Option.bind_eq_some_iff.mp H
    obtain ⟨⟨t327, t328, t329⟩, A130, H⟩ := H
    try dsimp only at H
    have A13 := Aside0.mk A130
    clear A130
    replace H := Option.bind_eq_some_iff.mp H
    obtain ⟨t332, A140, H⟩ := H
    try dsimp only at H
    have A14 := Aside0.mk A140
    clear A140
    replace H := Option.bind_eq_some_iff.mp H
    obtain ⟨t335, A150, H⟩ := H
    try dsimp only at H
    have A15 := Aside0.mk A150
    clear A150
    replace H := Option.bind_eq_some_iff.mp H
    obtain ⟨t338, A160, H⟩ := H
    try dsimp only at H
    have A16 := Aside0.mk A160
    clear A160
    replace H := Option.bind_eq_some_iff.mp H
    obtain ⟨⟨t341, t342, t343⟩, A170, H⟩ := H
    try dsimp only at H
    have A17 := Aside0.mk A170
    clear A170
    have HC18 := Aside0.mk H
    clear H
    go_enter Try.func6, Try.ntmps6
    go_upto_region 16 with (first|((with_reducible refine gate_callee (f := 28) rfl ?_); refine goesL_ (some 25) rfl rfl Try.func28 (by kernel_rfl) rfl #[.slice A0 l0.length c0, .int .i64 1048576] rfl (by (try simp only [List.map_toArray, List.map_cons, List.map_nil]); first | done | rfl|(simp only [List.length_drop, List.length_take]; rfl)) ?_; (with_reducible refine (laws_szHoleS.calls _ _ l0 1048576 t315 _ ?side1 ?side2 A4.out).mono ?_);(case side1 => repeat (first|exact HR0.out|(with_reducible refine Kd.C_alloc ?_ _)|(with_reducible refine Kd.C_drewN ?_ _)|(with_reducible refine Kd.C_drew ?_)));(case side2 => exact HC0.out); rintro e w' ⟨rfl, ⟨nd, rfl⟩⟩; refine ⟨_, rfl, ?_⟩)|((with_reducible refine gate_callee (f := 28) rfl ?_); refine goesL_ (some 30) rfl rfl Try.func28 (by kernel_rfl) rfl #[.slice A1 l1.length c1, .int .i64 t315] rfl (by (try simp only [List.map_toArray, List.map_cons, List.map_nil]); first | done | rfl|(simp only [List.length_drop, List.length_take]; rfl)) ?_; (with_reducible refine (laws_szHoleS.calls _ _ l1 t315 t316 _ ?side1 ?side2 A6.out).mono ?_);(case side1 => repeat (first|exact HR1.out|(with_reducible refine Kd.C_alloc ?_ _)|(with_reducible refine Kd.C_drewN ?_ _)|(with_reducible refine Kd.C_drew ?_)));(case side2 => exact HC1.out); rintro e w' ⟨rfl, ⟨nd, rfl⟩⟩; refine ⟨_, rfl, ?_⟩)|((with_reducible refine gate_callee (f := 28) rfl ?_); refine goesL_ (some 35) rfl rfl Try.func28 (by kernel_rfl) rfl #[.slice A2 l2.length c2, .int .i64 t316] rfl (by (try simp only [List.map_toArray, List.map_cons, List.map_nil]); first | done | rfl|(simp only [List.length_drop, List.length_take]; rfl)) ?_; (with_reducible refine (laws_szHoleS.calls _ _ l2 t316 t317 _ ?side1 ?side2 A8.out).mono ?_);(case side1 => repeat (first|exact HR2.out|(with_reducible refine Kd.C_alloc ?_ _)|(with_reducible refine Kd.C_drewN ?_ _)|(with_reducible refine Kd.C_drew ?_)));(case side2 => exact HC2.out); rintro e w' ⟨rfl, ⟨nd, rfl⟩⟩; refine ⟨_, rfl, ?_⟩)|((with_reducible refine gate_callee (f := 30) rfl ?_); refine goesL_ (some 40) rfl rfl Try.func30 (by kernel_rfl) rfl #[.slice A0 l0.length c0] rfl (by (try simp only [List.map_toArray, List.map_cons, List.map_nil]); first | done | rfl|(simp only [List.length_drop, List.length_take]; rfl)) ?_; (with_reducible refine (laws_toHoleS.calls k _ _ l0 t318 _ ?side1 ?side2 A10.out).mono ?_);(case side1 => repeat (first|exact HR0.out|(with_reducible refine Kd.C_alloc ?_ _)|(with_reducible refine Kd.C_drewN ?_ _)|(with_reducible refine Kd.C_drew ?_)));(case side2 => exact HC0.out); rintro e w19 ⟨v319, rfl, ho0, hb⟩; refine ⟨_, rfl, ?_⟩; have n0_ := Aside0.mk (Kd.R_lower ho0 (below_size (by repeat (first|(with_reducible first|exact HB.out|apply below_alloc|apply pw_below_drewN|apply below_drew1)|exact HB.out)))); have n1_ := Aside0.mk (below_step (by repeat (first|(with_reducible first|exact HB.out|apply below_alloc|apply pw_below_drewN|apply below_drew1)|exact HB.out)) hb); clear HB; have HO320 := n0_; have HB := n1_; clear n0_ n1_; (try clear hb); (try clear hb2); (try clear hk); (try clear hi); (try clear ho0))|((with_reducible refine gate_callee (f := 30) rfl ?_); refine goesL_ (some 42) rfl rfl Try.func30 (by kernel_rfl) rfl #[.slice A1 l1.length c1] rfl (by (try simp only [List.map_toArray, List.map_cons, List.map_nil]); first | done | rfl|(simp only [List.length_drop, List.length_take]; rfl)) ?_; (with_reducible refine (laws_toHoleS.calls k _ _ l1 t321 _ ?side1 ?side2 A11.out).mono ?_);(case side1 => repeat (first|exact (Kd.C_below HR1.out HB.out)|(with_reducible refine Kd.C_alloc ?_ _)|(with_reducible refine Kd.C_drewN ?_ _)|(with_reducible refine Kd.C_drew ?_)));(case side2 => exact HC1.out); rintro e w20 ⟨v322, rfl, ho0, hb⟩; refine ⟨_, rfl, ?_⟩; have n0_ := Aside0.mk (Kd.R_elder' (by (with_reducible repeat (first|apply Kd.R_alloc|apply Kd.R_drewN|apply Kd.R_drew)); exact HO320.out) (Kd.R_base ho0) hb); have n1_ := Aside0.mk (Kd.R_lower (Kd.R_new' ho0 (Kd.R_lt (by (with_reducible repeat (first|apply Kd.R_alloc|apply Kd.R_drewN|apply Kd.R_drew)); exact HO320.out))) (below_size (by repeat (first|(with_reducible first|exact HB.out|apply below_alloc|apply pw_below_drewN|apply below_drew1)|exact HB.out)))); have n2_ := Aside0.mk (below_step (by repeat (first|(with_reducible first|exact HB.out|apply below_alloc|apply pw_below_drewN|apply below_drew1)|exact HB.out)) hb); clear HO320; clear HB; have HO320 := n0_; have HO323 := n1_; have HB := n2_; clear n0_ n1_ n2_; (try clear hb); (try clear hb2); (try clear hk); (try clear hi); (try clear ho0))|((with_reducible refine gate_callee (f := 30) rfl ?_); refine goesL_ (some 44) rfl rfl Try.func30 (by kernel_rfl) rfl #[.slice A2 l2.length c2] rfl (by (try simp only [List.map_toArray, List.map_cons, List.map_nil]); first | done | rfl|(simp only [List.length_drop, List.length_take]; rfl)) ?_; (with_reducible refine (laws_toHoleS.calls k _ _ l2 t324 _ ?side1 ?side2 A12.out).mono ?_);(case side1 => repeat (first|exact (Kd.C_below HR2.out HB.out)|(with_reducible refine Kd.C_alloc ?_ _)|(with_reducible refine Kd.C_drewN ?_ _)|(with_reducible refine Kd.C_drew ?_)));(case side2 => exact HC2.out); rintro e w21 ⟨v325, rfl, ho0, hb⟩; refine ⟨_, rfl, ?_⟩; have n0_ := Aside0.mk (Kd.R_elder' (by (with_reducible repeat (first|apply Kd.R_alloc|apply Kd.R_drewN|apply Kd.R_drew)); exact HO320.out) (Kd.R_base ho0) hb); have n1_ := Aside0.mk (Kd.R_elder' (by (with_reducible repeat (first|apply Kd.R_alloc|apply Kd.R_drewN|apply Kd.R_drew)); exact HO323.out) (Kd.R_base ho0) hb); have n2_ := Aside0.mk (Kd.R_lower (Kd.R_new' (Kd.R_new' ho0 (Kd.R_lt (by (with_reducible repeat (first|apply Kd.R_alloc|apply Kd.R_drewN|apply Kd.R_drew)); exact HO320.out))) (Kd.R_lt (by (with_reducible repeat (first|apply Kd.R_alloc|apply Kd.R_drewN|apply Kd.R_drew)); exact HO323.out))) (below_size (by repeat (first|(with_reducible first|exact HB.out|apply below_alloc|apply pw_below_drewN|apply below_drew1)|exact HB.out)))); have n3_ := Aside0.mk (below_step (by repeat (first|(with_reducible first|exact HB.out|apply below_alloc|apply pw_below_drewN|apply below_drew1)|exact HB.out)) hb); clear HO320; clear HO323; clear HB; have HO320 := n0_; have HO323 := n1_; have HO326 := n2_; have HB := n3_; clear n0_ n1_ n2_ n3_; (try clear hb); (try clear hb2); (try clear hk); (try clear hi); (try clear ho0); obtain ⟨Ao22, co22, eo22⟩ := Kd.R_slice HO320.out; subst eo22; obtain ⟨Ao23, co23, eo23⟩ := Kd.R_slice HO323.out; subst eo23; obtain ⟨Ao24, co24, eo24⟩ := Kd.R_slice HO326.out; subst eo24)|((with_reducible refine gate_callee (f := 37) rfl ?_); refine goesL_ (some 45) rfl rfl Try.func37 (by kernel_rfl) rfl #[.slice Ao22 t318.length co22, .slice Ao23 t321.length co23, .slice Ao24 t324.length co24] rfl (by (try simp only [List.map_toArray, List.map_cons, List.map_nil]); first | done | rfl|(simp only [List.length_drop, List.length_take]; rfl)) ?_; (with_reducible refine (spec_MergeFirst.calls k _ _ t318 _ _ t321 _ _ t324 t327 t328 t329 _ ?side1 ?side2 ?side3 ?side4 ?side5 ?side6 A13.out).mono ?_);(case side1 => repeat (first|exact (Kd.R_reads' HO320.out).2.2|(with_reducible refine Kd.C_alloc ?_ _)|(with_reducible refine Kd.C_drewN ?_ _)|(with_reducible refine Kd.C_drew ?_)));(case side2 => exact (Kd.R_reads' HO320.out).2.1);(case side3 => repeat (first|exact (Kd.R_reads' HO323.out).2.2|(with_reducible refine Kd.C_alloc ?_ _)|(with_reducible refine Kd.C_drewN ?_ _)|(with_reducible refine Kd.C_drew ?_)));(case side4 => exact (Kd.R_reads' HO323.out).2.1);(case side5 => repeat (first|exact (Kd.R_reads' HO326.out).2.2|(with_reducible refine Kd.C_alloc ?_ _)|(with_reducible refine Kd.C_drewN ?_ _)|(with_reducible refine Kd.C_drew ?_)));(case side6 => exact (Kd.R_reads' HO326.out).2.1); rintro e w25 ⟨v330, rfl, ho0, hb⟩; refine ⟨_, rfl, ?_⟩; have n0_ := Aside0.mk (Kd.R_elder' (by (with_reducible repeat (first|apply Kd.R_alloc|apply Kd.R_drewN|apply Kd.R_drew)); exact HO320.out) (Kd.R_base ho0) hb); have n1_ := Aside0.mk (Kd.R_elder' (by (with_reducible repeat (first|apply Kd.R_alloc|apply Kd.R_drewN|apply Kd.R_drew)); exact HO323.out) (Kd.R_base ho0) hb); have n2_ := Aside0.mk (Kd.R_elder' (by (with_reducible repeat (first|apply Kd.R_alloc|apply Kd.R_drewN|apply Kd.R_drew)); exact HO326.out) (Kd.R_base ho0) hb); have n3_ := Aside0.mk (Kd.R_lower (Kd.R_new' (Kd.R_new' (Kd.R_new' ho0 (Kd.R_lt (by (with_reducible repeat (first|apply Kd.R_alloc|apply Kd.R_drewN|apply Kd.R_drew)); exact HO320.out))) (Kd.R_lt (by (with_reducible repeat (first|apply Kd.R_alloc|apply Kd.R_drewN|apply Kd.R_drew)); exact HO323.out))) (Kd.R_lt (by (with_reducible repeat (first|apply Kd.R_alloc|apply Kd.R_drewN|apply Kd.R_drew)); exact HO326.out))) (below_size (by repeat (first|(with_reducible first|exact HB.out|apply below_alloc|apply pw_below_drewN|apply below_drew1)|exact HB.out)))); have n4_ := Aside0.mk (below_step (by repeat (first|(with_reducible first|exact HB.out|apply below_alloc|apply pw_below_drewN|apply below_drew1)|exact HB.out)) hb); clear HO320; clear HO323; clear HO326; clear HB; have HO320 := n0_; have HO323 := n1_; have HO326 := n2_; have HO331 := n3_; have HB := n4_; clear n0_ n1_ n2_ n3_ n4_; (try clear hb); (try clear hb2); (try clear hk); (try clear hi); (try clear ho0))|((with_reducible refine gate_callee (f := 30) rfl ?_); refine goesL_ (some 50) rfl rfl Try.func30 (by kernel_rfl) rfl #[.slice A0 l0.length c0] rfl (by (try simp only [List.map_toArray, List.map_cons, List.map_nil]); first | done | rfl|(simp only [List.length_drop, List.length_take]; rfl)) ?_; (with_reducible refine (laws_toHoleS.calls k _ _ l0 t332 _ ?side1 ?side2 A14.out).mono ?_);(case side1 => repeat (first|exact (Kd.C_below HR0.out HB.out)|(with_reducible refine Kd.C_alloc ?_ _)|(with_reducible refine Kd.C_drewN ?_ _)|(with_reducible refine Kd.C_drew ?_)));(case side2 => exact HC0.out); rintro e w26 ⟨v333, rfl, ho0, hb⟩; refine ⟨_, rfl, ?_⟩; have n0_ := Aside0.mk (Kd.R_elder' (by (with_reducible repeat (first|apply Kd.R_alloc|apply Kd.R_drewN|apply Kd.R_drew)); exact HO320.out) (Kd.R_base ho0) hb); have n1_ := Aside0.mk (Kd.R_elder' (by (with_reducible repeat (first|apply Kd.R_alloc|apply Kd.R_drewN|apply Kd.R_drew)); exact HO323.out) (Kd.R_base ho0) hb); have n2_ := Aside0.mk (Kd.R_elder' (by (with_reducible repeat (first|apply Kd.R_alloc|apply Kd.R_drewN|apply Kd.R_drew)); exact HO326.out) (Kd.R_base ho0) hb); have n3_ := Aside0.mk (Kd.R_elder' (by (with_reducible repeat (first|apply Kd.R_alloc|apply Kd.R_drewN|apply Kd.R_drew)); exact HO331.out) (Kd.R_base ho0) hb); have n4_ := Aside0.mk (Kd.R_lower (Kd.R_new' (Kd.R_new' (Kd.R_new' (Kd.R_new' ho0 (Kd.R_lt (by (with_reducible repeat (first|apply Kd.R_alloc|apply Kd.R_drewN|apply Kd.R_drew)); exact HO320.out))) (Kd.R_lt (by (with_reducible repeat (first|apply Kd.R_alloc|apply Kd.R_drewN|apply Kd.R_drew)); exact HO323.out))) (Kd.R_lt (by (with_reducible repeat (first|apply Kd.R_alloc|apply Kd.R_drewN|apply Kd.R_drew)); exact HO326.out))) (Kd.R_lt (by (with_reducible repeat (first|apply Kd.R_alloc|apply Kd.R_drewN|apply Kd.R_drew)); exact HO331.out))) (below_size (by repeat (first|(with_reducible first|exact HB.out|apply below_alloc|apply pw_below_drewN|apply below_drew1)|exact HB.out)))); have n5_ := Aside0.mk (below_step (by repeat (first|(with_reducible first|exact HB.out|apply below_alloc|apply pw_below_drewN|apply below_drew1)|exact HB.out)) hb); clear HO320; clear HO323; clear HO326; clear HO331; clear HB; have HO320 := n0_; have HO323 := n1_; have HO326 := n2_; have HO331 := n3_; have HO334 := n4_; have HB := n5_; clear n0_ n1_ n2_ n3_ n4_ n5_; (try clear hb); (try clear hb2); (try clear hk); (try clear hi); (try clear ho0))|((with_reducible refine gate_callee (f := 30) rfl ?_); refine goesL_ (some 52) rfl rfl Try.func30 (by kernel_rfl) rfl #[.slice A1 l1.length c1] rfl (by (try simp only [List.map_toArray, List.map_cons, List.map_nil]); first | done | rfl|(simp only [List.length_drop, List.length_take]; rfl)) ?_; (with_reducible refine (laws_toHoleS.calls k _ _ l1 t335 _ ?side1 ?side2 A15.out).mono ?_);(case side1 => repeat (first|exact (Kd.C_below HR1.out HB.out)|(with_reducible refine Kd.C_alloc ?_ _)|(with_reducible refine Kd.C_drewN ?_ _)|(with_reducible refine Kd.C_drew ?_)));(case side2 => exact HC1.out); rintro e w27 ⟨v336, rfl, ho0, hb⟩; refine ⟨_, rfl, ?_⟩; have n0_ := Aside0.mk (Kd.R_elder' (by (with_reducible repeat (first|apply Kd.R_alloc|apply Kd.R_drewN|apply Kd.R_drew)); exact HO320.out) (Kd.R_base ho0) hb); have n1_ := Aside0.mk (Kd.R_elder' (by (with_reducible repeat (first|apply Kd.R_alloc|apply Kd.R_drewN|apply Kd.R_drew)); exact HO323.out) (Kd.R_base ho0) hb); have n2_ := Aside0.mk (Kd.R_elder' (by (with_reducible repeat (first|apply Kd.R_alloc|apply Kd.R_drewN|apply Kd.R_drew)); exact HO326.out) (Kd.R_base ho0) hb); have n3_ := Aside0.mk (Kd.R_elder' (by (with_reducible repeat (first|apply Kd.R_alloc|apply Kd.R_drewN|apply Kd.R_drew)); exact HO331.out) (Kd.R_base ho0) hb); have n4_ := Aside0.mk (Kd.R_elder' (by (with_reducible repeat (first|apply Kd.R_alloc|apply Kd.R_drewN|apply Kd.R_drew)); exact HO334.out) (Kd.R_base ho0) hb); have n5_ := Aside0.mk (Kd.R_lower (Kd.R_new' (Kd.R_new' (Kd.R_new' (Kd.R_new' (Kd.R_new' ho0 (Kd.R_lt (by (with_reducible repeat (first|apply Kd.R_alloc|apply Kd.R_drewN|apply Kd.R_drew)); exact HO320.out))) (Kd.R_lt (by (with_reducible repeat (first|apply Kd.R_alloc|apply Kd.R_drewN|apply Kd.R_drew)); exact HO323.out))) (Kd.R_lt (by (with_reducible repeat (first|apply Kd.R_alloc|apply Kd.R_drewN|apply Kd.R_drew)); exact HO326.out))) (Kd.R_lt (by (with_reducible repeat (first|apply Kd.R_alloc|apply Kd.R_drewN|apply Kd.R_drew)); exact HO331.out))) (Kd.R_lt (by (with_reducible repeat (first|apply Kd.R_alloc|apply Kd.R_drewN|apply Kd.R_drew)); exact HO334.out))) (below_size (by repeat (first|(with_reducible first|exact HB.out|apply below_alloc|apply pw_below_drewN|apply below_drew1)|exact HB.out)))); have n6_ := Aside0.mk (below_step (by repeat (first|(with_reducible first|exact HB.out|apply below_alloc|apply pw_below_drewN|apply below_drew1)|exact HB.out)) hb); clear HO320; clear HO323; clear HO326; clear HO331; clear HO334; clear HB; have HO320 := n0_; have HO323 := n1_; have HO326 := n2_; have HO331 := n3_; have HO334 := n4_; have HO337 := n5_; have HB := n6_; clear n0_ n1_ n2_ n3_ n4_ n5_ n6_; (try clear hb); (try clear hb2); (try clear hk); (try clear hi); (try clear ho0))|((with_reducible refine gate_callee (f := 30) rfl ?_); refine goesL_ (some 54) rfl rfl Try.func30 (by kernel_rfl) rfl #[.slice A2 l2.length c2] rfl (by (try simp only [List.map_toArray, List.map_cons, List.map_nil]); first | done | rfl|(simp only [List.length_drop, List.length_take]; rfl)) ?_; (with_reducible refine (laws_toHoleS.calls k _ _ l2 t338 _ ?side1 ?side2 A16.out).mono ?_);(case side1 => repeat (first|exact (Kd.C_below HR2.out HB.out)|(with_reducible refine Kd.C_alloc ?_ _)|(with_reducible refine Kd.C_drewN ?_ _)|(with_reducible refine Kd.C_drew ?_)));(case side2 => exact HC2.out); rintro e w28 ⟨v339, rfl, ho0, hb⟩; refine ⟨_, rfl, ?_⟩; have n0_ := Aside0.mk (Kd.R_elder' (by (with_reducible repeat (first|apply Kd.R_alloc|apply Kd.R_drewN|apply Kd.R_drew)); exact HO320.out) (Kd.R_base ho0) hb); have n1_ := Aside0.mk (Kd.R_elder' (by (with_reducible repeat (first|apply Kd.R_alloc|apply Kd.R_drewN|apply Kd.R_drew)); exact HO323.out) (Kd.R_base ho0) hb); have n2_ := Aside0.mk (Kd.R_elder' (by (with_reducible repeat (first|apply Kd.R_alloc|apply Kd.R_drewN|apply Kd.R_drew)); exact HO326.out) (Kd.R_base ho0) hb); have n3_ := Aside0.mk (Kd.R_elder' (by (with_reducible repeat (first|apply Kd.R_alloc|apply Kd.R_drewN|apply Kd.R_drew)); exact HO331.out) (Kd.R_base ho0) hb); have n4_ := Aside0.mk (Kd.R_elder' (by (with_reducible repeat (first|apply Kd.R_alloc|apply Kd.R_drewN|apply Kd.R_drew)); exact HO334.out) (Kd.R_base ho0) hb); have n5_ := Aside0.mk (Kd.R_elder' (by (with_reducible repeat (first|apply Kd.R_alloc|apply Kd.R_drewN|apply Kd.R_drew)); exact HO337.out) (Kd.R_base ho0) hb); have n6_ := Aside0.mk (Kd.R_lower (Kd.R_new' (Kd.R_new' (Kd.R_new' (Kd.R_new' (Kd.R_new' (Kd.R_new' ho0 (Kd.R_lt (by (with_reducible repeat (first|apply Kd.R_alloc|apply Kd.R_drewN|apply Kd.R_drew)); exact HO320.out))) (Kd.R_lt (by (with_reducible repeat (first|apply Kd.R_alloc|apply Kd.R_drewN|apply Kd.R_drew)); exact HO323.out))) (Kd.R_lt (by (with_reducible repeat (first|apply Kd.R_alloc|apply Kd.R_drewN|apply Kd.R_drew)); exact HO326.out))) (Kd.R_lt (by (with_reducible repeat (first|apply Kd.R_alloc|apply Kd.R_drewN|apply Kd.R_drew)); exact HO331.out))) (Kd.R_lt (by (with_reducible repeat (first|apply Kd.R_alloc|apply Kd.R_drewN|apply Kd.R_drew)); exact HO334.out))) (Kd.R_lt (by (with_reducible repeat (first|apply Kd.R_alloc|apply Kd.R_drewN|apply Kd.R_drew)); exact HO337.out))) (below_size (by repeat (first|(with_reducible first|exact HB.out|apply below_alloc|apply pw_below_drewN|apply below_drew1)|exact HB.out)))); have n7_ := Aside0.mk (below_step (by repeat (first|(with_reducible first|exact HB.out|apply below_alloc|apply pw_below_drewN|apply below_drew1)|exact HB.out)) hb); clear HO320; clear HO323; clear HO326; clear HO331; clear HO334; clear HO337; clear HB; have HO320 := n0_; have HO323 := n1_; have HO326 := n2_; have HO331 := n3_; have HO334 := n4_; have HO337 := n5_; have HO340 := n6_; have HB := n7_; clear n0_ n1_ n2_ n3_ n4_ n5_ n6_ n7_; (try clear hb); (try clear hb2); (try clear hk); (try clear hi); (try clear ho0); obtain ⟨Ao29, co29, eo29⟩ := Kd.R_slice HO334.out; subst eo29; obtain ⟨Ao30, co30, eo30⟩ := Kd.R_slice HO337.out; subst eo30; obtain ⟨Ao31, co31, eo31⟩ := Kd.R_slice HO340.out; subst eo31)|((with_reducible refine gate_callee (f := 38) rfl ?_); refine goesL_ (some 59) rfl rfl Try.func38 (by kernel_rfl) rfl #[.slice Ao29 t332.length co29, .slice Ao30 t335.length co30, .slice Ao31 t338.length co31] rfl (by (try simp only [List.map_toArray, List.map_cons, List.map_nil]); first | done | rfl|(simp only [List.length_drop, List.length_take]; rfl)) ?_; (with_reducible refine (impl_MergeFirst.calls k _ _ t332 _ _ t335 _ _ t338 t341 t342 t343 _ ?side1 ?side2 ?side3 ?side4 ?side5 ?side6 A17.out).mono ?_);(case side1 => repeat (first|exact (Kd.R_reads' HO334.out).2.2|(with_reducible refine Kd.C_alloc ?_ _)|(with_reducible refine Kd.C_drewN ?_ _)|(with_reducible refine Kd.C_drew ?_)));(case side2 => exact (Kd.R_reads' HO334.out).2.1);(case side3 => repeat (first|exact (Kd.R_reads' HO337.out).2.2|(with_reducible refine Kd.C_alloc ?_ _)|(with_reducible refine Kd.C_drewN ?_ _)|(with_reducible refine Kd.C_drew ?_)));(case side4 => exact (Kd.R_reads' HO337.out).2.1);(case side5 => repeat (first|exact (Kd.R_reads' HO340.out).2.2|(with_reducible refine Kd.C_alloc ?_ _)|(with_reducible refine Kd.C_drewN ?_ _)|(with_reducible refine Kd.C_drew ?_)));(case side6 => exact (Kd.R_reads' HO340.out).2.1); rintro e w32 ⟨v344, rfl, ho0, hb⟩; refine ⟨_, rfl, ?_⟩; have n0_ := Aside0.mk (Kd.R_elder' (by (with_reducible repeat (first|apply Kd.R_alloc|apply Kd.R_drewN|apply Kd.R_drew)); exact HO320.out) (Kd.R_base ho0) hb); have n1_ := Aside0.mk (Kd.R_elder' (by (with_reducible repeat (first|apply Kd.R_alloc|apply Kd.R_drewN|apply Kd.R_drew)); exact HO323.out) (Kd.R_base ho0) hb); have n2_ := Aside0.mk (Kd.R_elder' (by (with_reducible repeat (first|apply Kd.R_alloc|apply Kd.R_drewN|apply Kd.R_drew)); exact HO326.out) (Kd.R_base ho0) hb); have n3_ := Aside0.mk (Kd.R_elder' (by (with_reducible repeat (first|apply Kd.R_alloc|apply Kd.R_drewN|apply Kd.R_drew)); exact HO331.out) (Kd.R_base ho0) hb); have n4_ := Aside0.mk (Kd.R_elder' (by (with_reducible repeat (first|apply Kd.R_alloc|apply Kd.R_drewN|apply Kd.R_drew)); exact HO334.out) (Kd.R_base ho0) hb); have n5_ := Aside0.mk (Kd.R_elder' (by (with_reducible repeat (first|apply Kd.R_alloc|apply Kd.R_drewN|apply Kd.R_drew)); exact HO337.out) (Kd.R_base ho0) hb); have n6_ := Aside0.mk (Kd.R_elder' (by (with_reducible repeat (first|apply Kd.R_alloc|apply Kd.R_drewN|apply Kd.R_drew)); exact HO340.out) (Kd.R_base ho0) hb); have n7_ := Aside0.mk (Kd.R_lower (Kd.R_new' (Kd.R_new' (Kd.R_new' (Kd.R_new' (Kd.R_new' (Kd.R_new' (Kd.R_new' ho0 (Kd.R_lt (by (with_reducible repeat (first|apply Kd.R_alloc|apply Kd.R_drewN|apply Kd.R_drew)); exact HO320.out))) (Kd.R_lt (by (with_reducible repeat (first|apply Kd.R_alloc|apply Kd.R_drewN|apply Kd.R_drew)); exact HO323.out))) (Kd.R_lt (by (with_reducible repeat (first|apply Kd.R_alloc|apply Kd.R_drewN|apply Kd.R_drew)); exact HO326.out))) (Kd.R_lt (by (with_reducible repeat (first|apply Kd.R_alloc|apply Kd.R_drewN|apply Kd.R_drew)); exact HO331.out))) (Kd.R_lt (by (with_reducible repeat (first|apply Kd.R_alloc|apply Kd.R_drewN|apply Kd.R_drew)); exact HO334.out))) (Kd.R_lt (by (with_reducible repeat (first|apply Kd.R_alloc|apply Kd.R_drewN|apply Kd.R_drew)); exact HO337.out))) (Kd.R_lt (by (with_reducible repeat (first|apply Kd.R_alloc|apply Kd.R_drewN|apply Kd.R_drew)); exact HO340.out))) (below_size (by repeat (first|(with_reducible first|exact HB.out|apply below_alloc|apply pw_below_drewN|apply below_drew1)|exact HB.out)))); have n8_ := Aside0.mk (below_step (by repeat (first|(with_reducible first|exact HB.out|apply below_alloc|apply pw_below_drewN|apply below_drew1)|exact HB.out)) hb); clear HO320; clear HO323; clear HO326; clear HO331; clear HO334; clear HO337; clear HO340; clear HB; have HO320 := n0_; have HO323 := n1_; have HO326 := n2_; have HO331 := n3_; have HO334 := n4_; have HO337 := n5_; have HO340 := n6_; have HO345 := n7_; have HB := n8_; clear n0_ n1_ n2_ n3_ n4_ n5_ n6_ n7_ n8_; (try clear hb); (try clear hb2); (try clear hk); (try clear hi); (try clear ho0)))
    (try simp only [Act.put, List.setIfInBounds_toArray, List.set_cons_zero, List.set_cons_succ])
    go_cut [76] (fun v76 wc => ∃ (kq : Nat) (x76_17 : Bool), v76 = .bool x76_17 ∧ Aside0 (laws_FnExactMergeFirst.j0 kq l0 l1 l2 t327 t328 t329 t332 t335 t338 t341 t342 t343 x76_17 = some r) ∧ Aside0 (kq ≤ k) ∧ Aside0 (Kd.R k42 42 wc w.heap.size (fun k_ => some k_ ≠ ((.slice Ao29 t332.length co29) : Value).ownBlock ∧ some k_ ≠ ((.slice Ao30 t335.length co30) : Value).ownBlock ∧ some k_ ≠ ((.slice Ao31 t338.length co31) : Value).ownBlock ∧ some k_ ≠ (v344 : Value).ownBlock) v330 t327) ∧ Aside0 (Kd.R k42 42 wc w.heap.size (fun k_ => some k_ ≠ (v330 : Value).ownBlock ∧ some k_ ≠ ((.slice Ao30 t335.length co30) : Value).ownBlock ∧ some k_ ≠ ((.slice Ao31 t338.length co31) : Value).ownBlock ∧ some k_ ≠ (v344 : Value).ownBlock) (.slice Ao29 t332.length co29) t332) ∧ Aside0 (Kd.R k42 42 wc w.heap.size (fun k_ => some k_ ≠ (v330 : Value).ownBlock ∧ some k_ ≠ ((.slice Ao29 t332.length co29) : Value).ownBlock ∧ some k_ ≠ ((.slice Ao31 t338.length co31) : Value).ownBlock ∧ some k_ ≠ (v344 : Value).ownBlock) (.slice Ao30 t335.length co30) t335) ∧ Aside0 (Kd.R k42 42 wc w.heap.size (fun k_ => some k_ ≠ (v330 : Value).ownBlock ∧ some k_ ≠ ((.slice Ao29 t332.length co29) : Value).ownBlock ∧ some k_ ≠ ((.slice Ao30 t335.length co30) : Value).ownBlock ∧ some k_ ≠ (v344 : Value).ownBlock) (.slice Ao31 t338.length co31) t338) ∧ Aside0 (Kd.R k42 42 wc w.heap.size (fun k_ => some k_ ≠ (v330 : Value).ownBlock ∧ some k_ ≠ ((.slice Ao29 t332.length co29) : Value).ownBlock ∧ some k_ ≠ ((.slice Ao30 t335.length co30) : Value).ownBlock ∧ some k_ ≠ ((.slice Ao31 t338.length co31) : Value).ownBlock) v344 t341) ∧ Aside0 (Below w.heap.size w wc))
    case first =>
     have H := HC18.out
     clear HC18
     replace H := Option.bind_eq_some_iff.mp H
     obtain ⟨t346, A330, H⟩ := H
     try dsimp only at H
     have A33 := Aside0.mk A330
     clear A330
     by_cases c34 : t346 = true
     ·subst c34
      have H1 : (if t342 = t328 then (laws_FnExactMergeFirst.j0 k l0 l1 l2 t327 t328 t329 t332 t335 t338 t341 t342 t343 (t343 != t329)) else (laws_FnExactMergeFirst.j0 k l0 l1 l2 t327 t328 t329 t332 t335 t338 t341 t342 t343 true)) = some r := by rw [if_pos rfl] at H; exact H
      clear H
      have H := H1
      clear H1
      by_cases c35 : t342 = t328
      ·rw [if_pos c35] at H
       have c35b0 : (t342 == t328) = true := beq_iff_eq.mpr c35
       have c35b1 : (t342 != t328) = false := bne_eq_false_iff_eq.mpr c35
       clear c35
       (first|rw [c35b0]|(simp only [i64_w, i32_w]; rw [c35b0]) | skip)
       have H' := Aside0.mk H
       clear H
       obtain ⟨Ao36, co36, eo36⟩ := Kd.R_slice HO345.out
       subst eo36
       obtain ⟨Ao37, co37, eo37⟩ := Kd.R_slice HO331.out
       subst eo37
       go_wp2_with (first|((with_reducible refine gate_callee (f := 32) rfl ?_); refine goesL_ (some 65) rfl rfl Try.func32 (by kernel_rfl) rfl #[.slice Ao36 t341.length co36, .slice Ao37 t327.length co37] rfl (by (try simp only [List.map_toArray, List.map_cons, List.map_nil]); first | done | rfl|(simp only [List.length_drop, List.length_take]; rfl)) ?_; (with_reducible refine (laws_eqHoleS.calls k _ _ t341 _ _ t327 true _ ?side1 ?side2 ?side3 ?side4 A33.out).mono ?_);(case side1 => repeat (first|exact (Kd.R_reads' HO345.out).2.2|(with_reducible refine Kd.C_alloc ?_ _)|(with_reducible refine Kd.C_drewN ?_ _)|(with_reducible refine Kd.C_drew ?_)));(case side2 => exact (Kd.R_reads' HO345.out).2.1);(case side3 => repeat (first|exact (Kd.R_reads' HO331.out).2.2|(with_reducible refine Kd.C_alloc ?_ _)|(with_reducible refine Kd.C_drewN ?_ _)|(with_reducible refine Kd.C_drew ?_)));(case side4 => exact (Kd.R_reads' HO331.out).2.1); rintro e w38 ⟨rfl, hb⟩; refine ⟨_, rfl, ?_⟩; have n0_ := Aside0.mk (Kd.R_below (by (with_reducible repeat (first|apply Kd.R_alloc|apply Kd.R_drewN|apply Kd.R_drew)); exact HO320.out) hb); have n1_ := Aside0.mk (Kd.R_below (by (with_reducible repeat (first|apply Kd.R_alloc|apply Kd.R_drewN|apply Kd.R_drew)); exact HO323.out) hb); have n2_ := Aside0.mk (Kd.R_below (by (with_reducible repeat (first|apply Kd.R_alloc|apply Kd.R_drewN|apply Kd.R_drew)); exact HO326.out) hb); have n3_ := Aside0.mk (Kd.R_below (by (with_reducible repeat (first|apply Kd.R_alloc|apply Kd.R_drewN|apply Kd.R_drew)); exact HO331.out) hb); have n4_ := Aside0.mk (Kd.R_below (by (with_reducible repeat (first|apply Kd.R_alloc|apply Kd.R_drewN|apply Kd.R_drew)); exact HO334.out) hb); have n5_ := Aside0.mk (Kd.R_below (by (with_reducible repeat (first|apply Kd.R_alloc|apply Kd.R_drewN|apply Kd.R_drew)); exact HO337.out) hb); have n6_ := Aside0.mk (Kd.R_below (by (with_reducible repeat (first|apply Kd.R_alloc|apply Kd.R_drewN|apply Kd.R_drew)); exact HO340.out) hb); have n7_ := Aside0.mk (Kd.R_below (by (with_reducible repeat (first|apply Kd.R_alloc|apply Kd.R_drewN|apply Kd.R_drew)); exact HO345.out) hb); have n8_ := Aside0.mk (below_step (by repeat (first|(with_reducible first|exact HB.out|apply below_alloc|apply pw_below_drewN|apply below_drew1)|exact HB.out)) hb); clear HO320; clear HO323; clear HO326; clear HO331; clear HO334; clear HO337; clear HO340; clear HO345; clear HB; have HO320 := n0_; have HO323 := n1_; have HO326 := n2_; have HO331 := n3_; have HO334 := n4_; have HO337 := n5_; have HO340 := n6_; have HO345 := n7_; have HB := n8_; clear n0_ n1_ n2_ n3_ n4_ n5_ n6_ n7_ n8_; (try clear hb); (try clear hb2); (try clear hk); (try clear hi)))
       go_meet
       case rel => exact ⟨_, ((t343 != t329)), (by first | rfl|(simp;done)|(simp [*];done)), H', ⟨by first | omega|exact Nat.le_refl _⟩, ⟨by (with_reducible repeat (first|apply Kd.R_alloc|apply Kd.R_drewN|apply Kd.R_drew)); exact Kd.R_mono HO331.out (fun _ hk => ⟨hk.1.1.1.2, ⟨hk.1.1.2, ⟨hk.1.2, hk.2⟩⟩⟩)⟩, ⟨by (with_reducible repeat (first|apply Kd.R_alloc|apply Kd.R_drewN|apply Kd.R_drew)); exact Kd.R_mono HO334.out (fun _ hk => ⟨hk.1.1.1.2, ⟨hk.1.1.2, ⟨hk.1.2, hk.2⟩⟩⟩)⟩, ⟨by (with_reducible repeat (first|apply Kd.R_alloc|apply Kd.R_drewN|apply Kd.R_drew)); exact Kd.R_mono HO337.out (fun _ hk => ⟨hk.1.1.1.2, ⟨hk.1.1.2, ⟨hk.1.2, hk.2⟩⟩⟩)⟩, ⟨by (with_reducible repeat (first|apply Kd.R_alloc|apply Kd.R_drewN|apply Kd.R_drew)); exact Kd.R_mono HO340.out (fun _ hk => ⟨hk.1.1.1.2, ⟨hk.1.1.2, ⟨hk.1.2, hk.2⟩⟩⟩)⟩, ⟨by (with_reducible repeat (first|apply Kd.R_alloc|apply Kd.R_drewN|apply Kd.R_drew)); exact Kd.R_mono HO345.out (fun _ hk => ⟨hk.1.1.1.2, ⟨hk.1.1.2, ⟨hk.1.2, hk.2⟩⟩⟩)⟩, ⟨by repeat (first|(with_reducible first|exact HB.out|apply below_alloc|apply pw_below_drewN|apply below_drew1)|exact HB.out)⟩⟩
      ·rw [if_neg c35] at H
       have c35b0 : (t342 == t328) = false := beq_eq_false_iff_ne.mpr c35
       have c35b1 : (t342 != t328) = true := bne_iff_ne.mpr c35
       (first|rw [c35b0]|(simp only [i64_w, i32_w]; rw [c35b0]) | skip)
       exact (laws_FnExactMergeFirst.j0_true (H.trans (congrArg some HR_.out))).elim
     ·replace c34 := Bool.eq_false_iff.mpr c34
      subst c34
      have H1 : (laws_FnExactMergeFirst.j0 k l0 l1 l2 t327 t328 t329 t332 t335 t338 t341 t342 t343 true) = some r := by rw [if_neg (show ¬ (false = true) by decide)] at H; exact H
      clear H
      have H := H1
      clear H1
      exact (laws_FnExactMergeFirst.j0_true (H.trans (congrArg some HR_.out))).elim
    case rest =>
     clear HC18
     try clear c1
     try clear c2
     try clear p2
     try clear c3
     try clear c5
     try clear c5b0
     try clear c6
     try clear c7
     try clear c7b0
     try clear c9
     try clear c9b0
     try clear c28
     try clear c30
     try clear c32
     try clear c34
     try clear c35
     try clear c35b0
     try clear c35b1
     try clear c37
     try clear c38
     obtain ⟨kq, x76_17, rfl, HA, HJ17, HO_8, HO_11, HO_12, HO_13, HO_14, HB⟩ := hcut
     cases kq with
     | zero => exact absurd HA.out (by simp [laws_FnExactMergeFirst.j0])
     | succ kj17 =>
      have H := HA.out
      clear HA
      simp only [laws_FnExactMergeFirst.j0] at H
      by_cases c45 : x76_17 = true
      ·subst c45
       have H1 : (some false) = some r := by rw [if_pos rfl] at H; exact H
       clear H
       have H := H1
       clear H1
       exact absurd ((Option.some.inj H).trans HR_.out) (by decide)
      ·replace c45 := Bool.eq_false_iff.mpr c45
       subst c45
       have H1 : ((laws_toHoleS.f kj17 l0).bind fun t347 => ((laws_eqHoleS.f kj17 t332 t347).bind fun t350 => (if t350 = true then ((laws_toHoleS.f kj17 l1).bind fun t351 => ((laws_eqHoleS.f kj17 t335 t351).bind fun t354 => (if t354 = true then ((laws_toHoleS.f kj17 l2).bind fun t355 => ((laws_eqHoleS.f kj17 t338 t355).bind fun t358 => (if t358 = true then ((laws_markHoleS.f kj17 t332 1).bind fun bt359 => ((laws_markHoleS.f kj17 t335 bt359.1).bind fun bt361 => ((laws_markHoleS.f kj17 t338 bt361.1).bind fun bt363 => (if bt363.1 < 0 then (laws_FnExactMergeFirst.j1 kj17 l0 l1 l2 t327 t328 t329 t341 true) else ((laws_eqHoleS.f kj17 t341 t327).bind fun t365 => (if t365 = true then (if t342 = t328 then (laws_FnExactMergeFirst.j1 kj17 l0 l1 l2 t327 t328 t329 t341 (t343 != t329)) else (laws_FnExactMergeFirst.j1 kj17 l0 l1 l2 t327 t328 t329 t341 true)) else (laws_FnExactMergeFirst.j1 kj17 l0 l1 l2 t327 t328 t329 t341 true))))))) else (some false)))) else (some false)))) else (some false)))) = some r := by rw [if_neg (show ¬ (false = true) by decide)] at H; exact H
       clear H
       have H := H1
       clear H1
       replace H := Option.bind_eq_some_iff.mp H
       obtain ⟨t347, A460, H⟩ := H
       try dsimp only at H
       have A46 := Aside0.mk A460
       clear A460
       replace H := Option.bind_eq_some_iff.mp H
       obtain ⟨t350, A470, H⟩ := H
       try dsimp only at H
       have A47 := Aside0.mk A470
       clear A470
       by_cases c48 : t350 = true
       ·subst c48
        have H1 : ((laws_toHoleS.f kj17 l1).bind fun t351 => ((laws_eqHoleS.f kj17 t335 t351).bind fun t354 => (if t354 = true then ((laws_toHoleS.f kj17 l2).bind fun t355 => ((laws_eqHoleS.f kj17 t338 t355).bind fun t358 => (if t358 = true then ((laws_markHoleS.f kj17 t332 1).bind fun bt359 => ((laws_markHoleS.f kj17 t335 bt359.1).bind fun bt361 => ((laws_markHoleS.f kj17 t338 bt361.1).bind fun bt363 => (if bt363.1 < 0 then (laws_FnExactMergeFirst.j1 kj17 l0 l1 l2 t327 t328 t329 t341 true) else ((laws_eqHoleS.f kj17 t341 t327).bind fun t365 => (if t365 = true then (if t342 = t328 then (laws_FnExactMergeFirst.j1 kj17 l0 l1 l2 t327 t328 t329 t341 (t343 != t329)) else (laws_FnExactMergeFirst.j1 kj17 l0 l1 l2 t327 t328 t329 t341 true)) else (laws_FnExactMergeFirst.j1 kj17 l0 l1 l2 t327 t328 t329 t341 true))))))) else (some false)))) else (some false)))) = some r := by rw [if_pos rfl] at H; exact H
        clear H
        have H := H1
        clear H1
        replace H := Option.bind_eq_some_iff.mp H
        obtain ⟨t351, A490, H⟩ := H
        try dsimp only at H
        have A49 := Aside0.mk A490
        clear A490
        replace H := Option.bind_eq_some_iff.mp H
        obtain ⟨t354, A500, H⟩ := H
        try dsimp only at H
        have A50 := Aside0.mk A500
        clear A500
        by_cases c51 : t354 = true
        ·subst c51
         have H1 : ((laws_toHoleS.f kj17 l2).bind fun t355 => ((laws_eqHoleS.f kj17 t338 t355).bind fun t358 => (if t358 = true then ((laws_markHoleS.f kj17 t332 1).bind fun bt359 => ((laws_markHoleS.f kj17 t335 bt359.1).bind fun bt361 => ((laws_markHoleS.f kj17 t338 bt361.1).bind fun bt363 => (if bt363.1 < 0 then (laws_FnExactMergeFirst.j1 kj17 l0 l1 l2 t327 t328 t329 t341 true) else ((laws_eqHoleS.f kj17 t341 t327).bind fun t365 => (if t365 = true then (if t342 = t328 then (laws_FnExactMergeFirst.j1 kj17 l0 l1 l2 t327 t328 t329 t341 (t343 != t329)) else (laws_FnExactMergeFirst.j1 kj17 l0 l1 l2 t327 t328 t329 t341 true)) else (laws_FnExactMergeFirst.j1 kj17 l0 l1 l2 t327 t328 t329 t341 true))))))) else (some false)))) = some r := by rw [if_pos rfl] at H; exact H
         clear H
         have H := H1
         clear H1
         replace H := Option.bind_eq_some_iff.mp H
         obtain ⟨t355, A520, H⟩ := H
         try dsimp only at H
         have A52 := Aside0.mk A520
         clear A520
         replace H := Option.bind_eq_some_iff.mp H
         obtain ⟨t358, A530, H⟩ := H
         try dsimp only at H
         have A53 := Aside0.mk A530
         clear A530
         by_cases c54 : t358 = true
         ·subst c54
          have H1 : ((laws_markHoleS.f kj17 t332 1).bind fun bt359 => ((laws_markHoleS.f kj17 t335 bt359.1).bind fun bt361 => ((laws_markHoleS.f kj17 t338 bt361.1).bind fun bt363 => (if bt363.1 < 0 then (laws_FnExactMergeFirst.j1 kj17 l0 l1 l2 t327 t328 t329 t341 true) else ((laws_eqHoleS.f kj17 t341 t327).bind fun t365 => (if t365 = true then (if t342 = t328 then (laws_FnExactMergeFirst.j1 kj17 l0 l1 l2 t327 t328 t329 t341 (t343 != t329)) else (laws_FnExactMergeFirst.j1 kj17 l0 l1 l2 t327 t328 t329 t341 true)) else (laws_FnExactMergeFirst.j1 kj17 l0 l1 l2 t327 t328 t329 t341 true))))))) = some r := by rw [if_pos rfl] at H; exact H
          clear H
          have H := H1
          clear H1
          replace H := Option.bind_eq_some_iff.mp H
          obtain ⟨⟨t359, t360⟩, A550, H⟩ := H
          try dsimp only at H
          have A55 := Aside0.mk A550
          clear A550
          replace H := Option.bind_eq_some_iff.mp H
          obtain ⟨⟨t361, t362⟩, A560, H⟩ := H
          try dsimp only at H
          have A56 := Aside0.mk A560
          clear A560
          replace H := Option.bind_eq_some_iff.mp H
          obtain ⟨⟨t363, t364⟩, A570, H⟩ := H
          try dsimp only at H
          have A57 := Aside0.mk A570
          clear A570
          have HC58 := Aside0.mk H
          clear H
          go_upto_region 28 with (first|((with_reducible refine gate_callee (f := 30) rfl ?_); refine goesL_ (some 79) rfl rfl Try.func30 (by kernel_rfl) rfl #[.slice A0 l0.length c0] rfl (by (try simp only [List.map_toArray, List.map_cons, List.map_nil]); first | done | rfl|(simp only [List.length_drop, List.length_take]; rfl)) ?_; (with_reducible refine (laws_toHoleS.calls kj17 _ _ l0 t347 _ ?side1 ?side2 A46.out).mono ?_);(case side1 => repeat (first|exact (Kd.C_below HR0.out HB.out)|(with_reducible refine Kd.C_alloc ?_ _)|(with_reducible refine Kd.C_drewN ?_ _)|(with_reducible refine Kd.C_drew ?_)));(case side2 => exact HC0.out); rintro e w59 ⟨v348, rfl, ho0, hb⟩; refine ⟨_, rfl, ?_⟩; have n0_ := Aside0.mk (Kd.R_elder' (by (with_reducible repeat (first|apply Kd.R_alloc|apply Kd.R_drewN|apply Kd.R_drew)); exact HO_8.out) (Kd.R_base ho0) hb); have n1_ := Aside0.mk (Kd.R_elder' (by (with_reducible repeat (first|apply Kd.R_alloc|apply Kd.R_drewN|apply Kd.R_drew)); exact HO_11.out) (Kd.R_base ho0) hb); have n2_ := Aside0.mk (Kd.R_elder' (by (with_reducible repeat (first|apply Kd.R_alloc|apply Kd.R_drewN|apply Kd.R_drew)); exact HO_12.out) (Kd.R_base ho0) hb); have n3_ := Aside0.mk (Kd.R_elder' (by (with_reducible repeat (first|apply Kd.R_alloc|apply Kd.R_drewN|apply Kd.R_drew)); exact HO_13.out) (Kd.R_base ho0) hb); have n4_ := Aside0.mk (Kd.R_elder' (by (with_reducible repeat (first|apply Kd.R_alloc|apply Kd.R_drewN|apply Kd.R_drew)); exact HO_14.out) (Kd.R_base ho0) hb); have n5_ := Aside0.mk (Kd.R_lower (Kd.R_new' (Kd.R_new' (Kd.R_new' (Kd.R_new' (Kd.R_new' ho0 (Kd.R_lt (by (with_reducible repeat (first|apply Kd.R_alloc|apply Kd.R_drewN|apply Kd.R_drew)); exact HO_8.out))) (Kd.R_lt (by (with_reducible repeat (first|apply Kd.R_alloc|apply Kd.R_drewN|apply Kd.R_drew)); exact HO_11.out))) (Kd.R_lt (by (with_reducible repeat (first|apply Kd.R_alloc|apply Kd.R_drewN|apply Kd.R_drew)); exact HO_12.out))) (Kd.R_lt (by (with_reducible repeat (first|apply Kd.R_alloc|apply Kd.R_drewN|apply Kd.R_drew)); exact HO_13.out))) (Kd.R_lt (by (with_reducible repeat (first|apply Kd.R_alloc|apply Kd.R_drewN|apply Kd.R_drew)); exact HO_14.out))) (below_size (by repeat (first|(with_reducible first|exact HB.out|apply below_alloc|apply pw_below_drewN|apply below_drew1)|exact HB.out)))); have n6_ := Aside0.mk (below_step (by repeat (first|(with_reducible first|exact HB.out|apply below_alloc|apply pw_below_drewN|apply below_drew1)|exact HB.out)) hb); clear HO_8; clear HO_11; clear HO_12; clear HO_13; clear HO_14; clear HB; have HO_8 := n0_; have HO_11 := n1_; have HO_12 := n2_; have HO_13 := n3_; have HO_14 := n4_; have HO349 := n5_; have HB := n6_; clear n0_ n1_ n2_ n3_ n4_ n5_ n6_; (try clear hb); (try clear hb2); (try clear hk); (try clear hi); (try clear ho0); obtain ⟨Ao60, co60, eo60⟩ := Kd.R_slice HO349.out; subst eo60)|((with_reducible refine gate_callee (f := 32) rfl ?_); refine goesL_ (some 80) rfl rfl Try.func32 (by kernel_rfl) rfl #[.slice Ao29 t332.length co29, .slice Ao60 t347.length co60] rfl (by (try simp only [List.map_toArray, List.map_cons, List.map_nil]); first | done | rfl|(simp only [List.length_drop, List.length_take]; rfl)) ?_; (with_reducible refine (laws_eqHoleS.calls kj17 _ _ t332 _ _ t347 true _ ?side1 ?side2 ?side3 ?side4 A47.out).mono ?_);(case side1 => repeat (first|exact (Kd.R_reads' HO_11.out).2.2|(with_reducible refine Kd.C_alloc ?_ _)|(with_reducible refine Kd.C_drewN ?_ _)|(with_reducible refine Kd.C_drew ?_)));(case side2 => exact (Kd.R_reads' HO_11.out).2.1);(case side3 => repeat (first|exact (Kd.R_reads' HO349.out).2.2|(with_reducible refine Kd.C_alloc ?_ _)|(with_reducible refine Kd.C_drewN ?_ _)|(with_reducible refine Kd.C_drew ?_)));(case side4 => exact (Kd.R_reads' HO349.out).2.1); rintro e w61 ⟨rfl, hb⟩; refine ⟨_, rfl, ?_⟩; have n0_ := Aside0.mk (Kd.R_below (by (with_reducible repeat (first|apply Kd.R_alloc|apply Kd.R_drewN|apply Kd.R_drew)); exact HO_8.out) hb); have n1_ := Aside0.mk (Kd.R_below (by (with_reducible repeat (first|apply Kd.R_alloc|apply Kd.R_drewN|apply Kd.R_drew)); exact HO_11.out) hb); have n2_ := Aside0.mk (Kd.R_below (by (with_reducible repeat (first|apply Kd.R_alloc|apply Kd.R_drewN|apply Kd.R_drew)); exact HO_12.out) hb); have n3_ := Aside0.mk (Kd.R_below (by (with_reducible repeat (first|apply Kd.R_alloc|apply Kd.R_drewN|apply Kd.R_drew)); exact HO_13.out) hb); have n4_ := Aside0.mk (Kd.R_below (by (with_reducible repeat (first|apply Kd.R_alloc|apply Kd.R_drewN|apply Kd.R_drew)); exact HO_14.out) hb); have n5_ := Aside0.mk (Kd.R_below (by (with_reducible repeat (first|apply Kd.R_alloc|apply Kd.R_drewN|apply Kd.R_drew)); exact HO349.out) hb); have n6_ := Aside0.mk (below_step (by repeat (first|(with_reducible first|exact HB.out|apply below_alloc|apply pw_below_drewN|apply below_drew1)|exact HB.out)) hb); clear HO_8; clear HO_11; clear HO_12; clear HO_13; clear HO_14; clear HO349; clear HB; have HO_8 := n0_; have HO_11 := n1_; have HO_12 := n2_; have HO_13 := n3_; have HO_14 := n4_; have HO349 := n5_; have HB := n6_; clear n0_ n1_ n2_ n3_ n4_ n5_ n6_; (try clear hb); (try clear hb2); (try clear hk); (try clear hi))|((with_reducible refine gate_callee (f := 30) rfl ?_); refine goesL_ (some 84) rfl rfl Try.func30 (by kernel_rfl) rfl #[.slice A1 l1.length c1] rfl (by (try simp only [List.map_toArray, List.map_cons, List.map_nil]); first | done | rfl|(simp only [List.length_drop, List.length_take]; rfl)) ?_; (with_reducible refine (laws_toHoleS.calls kj17 _ _ l1 t351 _ ?side1 ?side2 A49.out).mono ?_);(case side1 => repeat (first|exact (Kd.C_below HR1.out HB.out)|(with_reducible refine Kd.C_alloc ?_ _)|(with_reducible refine Kd.C_drewN ?_ _)|(with_reducible refine Kd.C_drew ?_)));(case side2 => exact HC1.out); rintro e w62 ⟨v352, rfl, ho0, hb⟩; refine ⟨_, rfl, ?_⟩; have n0_ := Aside0.mk (Kd.R_elder' (by (with_reducible repeat (first|apply Kd.R_alloc|apply Kd.R_drewN|apply Kd.R_drew)); exact HO_8.out) (Kd.R_base ho0) hb); have n1_ := Aside0.mk (Kd.R_elder' (by (with_reducible repeat (first|apply Kd.R_alloc|apply Kd.R_drewN|apply Kd.R_drew)); exact HO_11.out) (Kd.R_base ho0) hb); have n2_ := Aside0.mk (Kd.R_elder' (by (with_reducible repeat (first|apply Kd.R_alloc|apply Kd.R_drewN|apply Kd.R_drew)); exact HO_12.out) (Kd.R_base ho0) hb); have n3_ := Aside0.mk (Kd.R_elder' (by (with_reducible repeat (first|apply Kd.R_alloc|apply Kd.R_drewN|apply Kd.R_drew)); exact HO_13.out) (Kd.R_base ho0) hb); have n4_ := Aside0.mk (Kd.R_elder' (by (with_reducible repeat (first|apply Kd.R_alloc|apply Kd.R_drewN|apply Kd.R_drew)); exact HO_14.out) (Kd.R_base ho0) hb); have n5_ := Aside0.mk (Kd.R_elder' (by (with_reducible repeat (first|apply Kd.R_alloc|apply Kd.R_drewN|apply Kd.R_drew)); exact HO349.out) (Kd.R_base ho0) hb); have n6_ := Aside0.mk (Kd.R_lower (Kd.R_new' (Kd.R_new' (Kd.R_new' (Kd.R_new' (Kd.R_new' (Kd.R_new' ho0 (Kd.R_lt (by (with_reducible repeat (first|apply Kd.R_alloc|apply Kd.R_drewN|apply Kd.R_drew)); exact HO_8.out))) (Kd.R_lt (by (with_reducible repeat (first|apply Kd.R_alloc|apply Kd.R_drewN|apply Kd.R_drew)); exact HO_11.out))) (Kd.R_lt (by (with_reducible repeat (first|apply Kd.R_alloc|apply Kd.R_drewN|apply Kd.R_drew)); exact HO_12.out))) (Kd.R_lt (by (with_reducible repeat (first|apply Kd.R_alloc|apply Kd.R_drewN|apply Kd.R_drew)); exact HO_13.out))) (Kd.R_lt (by (with_reducible repeat (first|apply Kd.R_alloc|apply Kd.R_drewN|apply Kd.R_drew)); exact HO_14.out))) (Kd.R_lt (by (with_reducible repeat (first|apply Kd.R_alloc|apply Kd.R_drewN|apply Kd.R_drew)); exact HO349.out))) (below_size (by repeat (first|(with_reducible first|exact HB.out|apply below_alloc|apply pw_below_drewN|apply below_drew1)|exact HB.out)))); have n7_ := Aside0.mk (below_step (by repeat (first|(with_reducible first|exact HB.out|apply below_alloc|apply pw_below_drewN|apply below_drew1)|exact HB.out)) hb); clear HO_8; clear HO_11; clear HO_12; clear HO_13; clear HO_14; clear HO349; clear HB; have HO_8 := n0_; have HO_11 := n1_; have HO_12 := n2_; have HO_13 := n3_; have HO_14 := n4_; have HO349 := n5_; have HO353 := n6_; have HB := n7_; clear n0_ n1_ n2_ n3_ n4_ n5_ n6_ n7_; (try clear hb); (try clear hb2); (try clear hk); (try clear hi); (try clear ho0); obtain ⟨Ao63, co63, eo63⟩ := Kd.R_slice HO353.out; subst eo63)|((with_reducible refine gate_callee (f := 32) rfl ?_); refine goesL_ (some 85) rfl rfl Try.func32 (by kernel_rfl) rfl #[.slice Ao30 t335.length co30, .slice Ao63 t351.length co63] rfl (by (try simp only [List.map_toArray, List.map_cons, List.map_nil]); first | done | rfl|(simp only [List.length_drop, List.length_take]; rfl)) ?_; (with_reducible refine (laws_eqHoleS.calls kj17 _ _ t335 _ _ t351 true _ ?side1 ?side2 ?side3 ?side4 A50.out).mono ?_);(case side1 => repeat (first|exact (Kd.R_reads' HO_12.out).2.2|(with_reducible refine Kd.C_alloc ?_ _)|(with_reducible refine Kd.C_drewN ?_ _)|(with_reducible refine Kd.C_drew ?_)));(case side2 => exact (Kd.R_reads' HO_12.out).2.1);(case side3 => repeat (first|exact (Kd.R_reads' HO353.out).2.2|(with_reducible refine Kd.C_alloc ?_ _)|(with_reducible refine Kd.C_drewN ?_ _)|(with_reducible refine Kd.C_drew ?_)));(case side4 => exact (Kd.R_reads' HO353.out).2.1); rintro e w64 ⟨rfl, hb⟩; refine ⟨_, rfl, ?_⟩; have n0_ := Aside0.mk (Kd.R_below (by (with_reducible repeat (first|apply Kd.R_alloc|apply Kd.R_drewN|apply Kd.R_drew)); exact HO_8.out) hb); have n1_ := Aside0.mk (Kd.R_below (by (with_reducible repeat (first|apply Kd.R_alloc|apply Kd.R_drewN|apply Kd.R_drew)); exact HO_11.out) hb); have n2_ := Aside0.mk (Kd.R_below (by (with_reducible repeat (first|apply Kd.R_alloc|apply Kd.R_drewN|apply Kd.R_drew)); exact HO_12.out) hb); have n3_ := Aside0.mk (Kd.R_below (by (with_reducible repeat (first|apply Kd.R_alloc|apply Kd.R_drewN|apply Kd.R_drew)); exact HO_13.out) hb); have n4_ := Aside0.mk (Kd.R_below (by (with_reducible repeat (first|apply Kd.R_alloc|apply Kd.R_drewN|apply Kd.R_drew)); exact HO_14.out) hb); have n5_ := Aside0.mk (Kd.R_below (by (with_reducible repeat (first|apply Kd.R_alloc|apply Kd.R_drewN|apply Kd.R_drew)); exact HO349.out) hb); have n6_ := Aside0.mk (Kd.R_below (by (with_reducible repeat (first|apply Kd.R_alloc|apply Kd.R_drewN|apply Kd.R_drew)); exact HO353.out) hb); have n7_ := Aside0.mk (below_step (by repeat (first|(with_reducible first|exact HB.out|apply below_alloc|apply pw_below_drewN|apply below_drew1)|exact HB.out)) hb); clear HO_8; clear HO_11; clear HO_12; clear HO_13; clear HO_14; clear HO349; clear HO353; clear HB; have HO_8 := n0_; have HO_11 := n1_; have HO_12 := n2_; have HO_13 := n3_; have HO_14 := n4_; have HO349 := n5_; have HO353 := n6_; have HB := n7_; clear n0_ n1_ n2_ n3_ n4_ n5_ n6_ n7_; (try clear hb); (try clear hb2); (try clear hk); (try clear hi))|((with_reducible refine gate_callee (f := 30) rfl ?_); refine goesL_ (some 89) rfl rfl Try.func30 (by kernel_rfl) rfl #[.slice A2 l2.length c2] rfl (by (try simp only [List.map_toArray, List.map_cons, List.map_nil]); first | done | rfl|(simp only [List.length_drop, List.length_take]; rfl)) ?_; (with_reducible refine (laws_toHoleS.calls kj17 _ _ l2 t355 _ ?side1 ?side2 A52.out).mono ?_);(case side1 => repeat (first|exact (Kd.C_below HR2.out HB.out)|(with_reducible refine Kd.C_alloc ?_ _)|(with_reducible refine Kd.C_drewN ?_ _)|(with_reducible refine Kd.C_drew ?_)));(case side2 => exact HC2.out); rintro e w65 ⟨v356, rfl, ho0, hb⟩; refine ⟨_, rfl, ?_⟩; have n0_ := Aside0.mk (Kd.R_elder' (by (with_reducible repeat (first|apply Kd.R_alloc|apply Kd.R_drewN|apply Kd.R_drew)); exact HO_8.out) (Kd.R_base ho0) hb); have n1_ := Aside0.mk (Kd.R_elder' (by (with_reducible repeat (first|apply Kd.R_alloc|apply Kd.R_drewN|apply Kd.R_drew)); exact HO_11.out) (Kd.R_base ho0) hb); have n2_ := Aside0.mk (Kd.R_elder' (by (with_reducible repeat (first|apply Kd.R_alloc|apply Kd.R_drewN|apply Kd.R_drew)); exact HO_12.out) (Kd.R_base ho0) hb); have n3_ := Aside0.mk (Kd.R_elder' (by (with_reducible repeat (first|apply Kd.R_alloc|apply Kd.R_drewN|apply Kd.R_drew)); exact HO_13.out) (Kd.R_base ho0) hb); have n4_ := Aside0.mk (Kd.R_elder' (by (with_reducible repeat (first|apply Kd.R_alloc|apply Kd.R_drewN|apply Kd.R_drew)); exact HO_14.out) (Kd.R_base ho0) hb); have n5_ := Aside0.mk (Kd.R_elder' (by (with_reducible repeat (first|apply Kd.R_alloc|apply Kd.R_drewN|apply Kd.R_drew)); exact HO349.out) (Kd.R_base ho0) hb); have n6_ := Aside0.mk (Kd.R_elder' (by (with_reducible repeat (first|apply Kd.R_alloc|apply Kd.R_drewN|apply Kd.R_drew)); exact HO353.out) (Kd.R_base ho0) hb); have n7_ := Aside0.mk (Kd.R_lower (Kd.R_new' (Kd.R_new' (Kd.R_new' (Kd.R_new' (Kd.R_new' (Kd.R_new' (Kd.R_new' ho0 (Kd.R_lt (by (with_reducible repeat (first|apply Kd.R_alloc|apply Kd.R_drewN|apply Kd.R_drew)); exact HO_8.out))) (Kd.R_lt (by (with_reducible repeat (first|apply Kd.R_alloc|apply Kd.R_drewN|apply Kd.R_drew)); exact HO_11.out))) (Kd.R_lt (by (with_reducible repeat (first|apply Kd.R_alloc|apply Kd.R_drewN|apply Kd.R_drew)); exact HO_12.out))) (Kd.R_lt (by (with_reducible repeat (first|apply Kd.R_alloc|apply Kd.R_drewN|apply Kd.R_drew)); exact HO_13.out))) (Kd.R_lt (by (with_reducible repeat (first|apply Kd.R_alloc|apply Kd.R_drewN|apply Kd.R_drew)); exact HO_14.out))) (Kd.R_lt (by (with_reducible repeat (first|apply Kd.R_alloc|apply Kd.R_drewN|apply Kd.R_drew)); exact HO349.out))) (Kd.R_lt (by (with_reducible repeat (first|apply Kd.R_alloc|apply Kd.R_drewN|apply Kd.R_drew)); exact HO353.out))) (below_size (by repeat (first|(with_reducible first|exact HB.out|apply below_alloc|apply pw_below_drewN|apply below_drew1)|exact HB.out)))); have n8_ := Aside0.mk (below_step (by repeat (first|(with_reducible first|exact HB.out|apply below_alloc|apply pw_below_drewN|apply below_drew1)|exact HB.out)) hb); clear HO_8; clear HO_11; clear HO_12; clear HO_13; clear HO_14; clear HO349; clear HO353; clear HB; have HO_8 := n0_; have HO_11 := n1_; have HO_12 := n2_; have HO_13 := n3_; have HO_14 := n4_; have HO349 := n5_; have HO353 := n6_; have HO357 := n7_; have HB := n8_; clear n0_ n1_ n2_ n3_ n4_ n5_ n6_ n7_ n8_; (try clear hb); (try clear hb2); (try clear hk); (try clear hi); (try clear ho0); obtain ⟨Ao66, co66, eo66⟩ := Kd.R_slice HO357.out; subst eo66)|((with_reducible refine gate_callee (f := 32) rfl ?_); refine goesL_ (some 90) rfl rfl Try.func32 (by kernel_rfl) rfl #[.slice Ao31 t338.length co31, .slice Ao66 t355.length co66] rfl (by (try simp only [List.map_toArray, List.map_cons, List.map_nil]); first | done | rfl|(simp only [List.length_drop, List.length_take]; rfl)) ?_; (with_reducible refine (laws_eqHoleS.calls kj17 _ _ t338 _ _ t355 true _ ?side1 ?side2 ?side3 ?side4 A53.out).mono ?_);(case side1 => repeat (first|exact (Kd.R_reads' HO_13.out).2.2|(with_reducible refine Kd.C_alloc ?_ _)|(with_reducible refine Kd.C_drewN ?_ _)|(with_reducible refine Kd.C_drew ?_)));(case side2 => exact (Kd.R_reads' HO_13.out).2.1);(case side3 => repeat (first|exact (Kd.R_reads' HO357.out).2.2|(with_reducible refine Kd.C_alloc ?_ _)|(with_reducible refine Kd.C_drewN ?_ _)|(with_reducible refine Kd.C_drew ?_)));(case side4 => exact (Kd.R_reads' HO357.out).2.1); rintro e w67 ⟨rfl, hb⟩; refine ⟨_, rfl, ?_⟩; have n0_ := Aside0.mk (Kd.R_below (by (with_reducible repeat (first|apply Kd.R_alloc|apply Kd.R_drewN|apply Kd.R_drew)); exact HO_8.out) hb); have n1_ := Aside0.mk (Kd.R_below (by (with_reducible repeat (first|apply Kd.R_alloc|apply Kd.R_drewN|apply Kd.R_drew)); exact HO_11.out) hb); have n2_ := Aside0.mk (Kd.R_below (by (with_reducible repeat (first|apply Kd.R_alloc|apply Kd.R_drewN|apply Kd.R_drew)); exact HO_12.out) hb); have n3_ := Aside0.mk (Kd.R_below (by (with_reducible repeat (first|apply Kd.R_alloc|apply Kd.R_drewN|apply Kd.R_drew)); exact HO_13.out) hb); have n4_ := Aside0.mk (Kd.R_below (by (with_reducible repeat (first|apply Kd.R_alloc|apply Kd.R_drewN|apply Kd.R_drew)); exact HO_14.out) hb); have n5_ := Aside0.mk (Kd.R_below (by (with_reducible repeat (first|apply Kd.R_alloc|apply Kd.R_drewN|apply Kd.R_drew)); exact HO349.out) hb); have n6_ := Aside0.mk (Kd.R_below (by (with_reducible repeat (first|apply Kd.R_alloc|apply Kd.R_drewN|apply Kd.R_drew)); exact HO353.out) hb); have n7_ := Aside0.mk (Kd.R_below (by (with_reducible repeat (first|apply Kd.R_alloc|apply Kd.R_drewN|apply Kd.R_drew)); exact HO357.out) hb); have n8_ := Aside0.mk (below_step (by repeat (first|(with_reducible first|exact HB.out|apply below_alloc|apply pw_below_drewN|apply below_drew1)|exact HB.out)) hb); clear HO_8; clear HO_11; clear HO_12; clear HO_13; clear HO_14; clear HO349; clear HO353; clear HO357; clear HB; have HO_8 := n0_; have HO_11 := n1_; have HO_12 := n2_; have HO_13 := n3_; have HO_14 := n4_; have HO349 := n5_; have HO353 := n6_; have HO357 := n7_; have HB := n8_; clear n0_ n1_ n2_ n3_ n4_ n5_ n6_ n7_ n8_; (try clear hb); (try clear hb2); (try clear hk); (try clear hi))|((with_reducible refine gate_callee (f := 33) rfl ?_); refine goesL_ (some 94) rfl rfl Try.func33 (by kernel_rfl) rfl #[.slice Ao29 t332.length co29, .int .i64 1] rfl (by (try simp only [List.map_toArray, List.map_cons, List.map_nil]); first | done | rfl|(simp only [List.length_drop, List.length_take]; rfl)) ?_; (with_reducible refine (laws_markHoleS.calls kj17 (fun k_ => some k_ = (.slice Ao29 t332.length co29 : Value).ownBlock) (.slice Ao29 t332.length co29) t332 1 t359 t360 w _ ?side1 ?side2 A55.out).mono ?_);(case side1 => repeat (first|(with_reducible first|exact HB.out|apply below_alloc|apply pw_below_drewN|apply below_drew1)|exact HB.out));(case side2 => exact Kd.R_tight rfl HO_11.out); rintro e w68 ⟨rfl, hy0, hb, hkp⟩; refine ⟨_, rfl, ?_⟩; have n0_ := Aside0.mk (Kd.R_mono (ok' := fun k_ => some k_ ≠ (.slice Ao29 t332.length co29 : Value).ownBlock ∧ some k_ ≠ (.slice Ao30 t335.length co30 : Value).ownBlock ∧ some k_ ≠ (.slice Ao31 t338.length co31 : Value).ownBlock ∧ some k_ ≠ (v344 : Value).ownBlock ∧ some k_ ≠ (.slice Ao60 t347.length co60 : Value).ownBlock ∧ some k_ ≠ (.slice Ao63 t351.length co63 : Value).ownBlock ∧ some k_ ≠ (.slice Ao66 t355.length co66 : Value).ownBlock) (Kd.R_keptB (HO_8.out) hkp (fun k_ hk_ hs_ => (hk_.1.1.1.1) hs_)) (fun k_ hk_ => ⟨hk_.1.1.1.1.1, hk_.1.1.1.1.2.1, hk_.1.1.1.1.2.2.1, hk_.1.1.1.1.2.2.2, hk_.1.1.1.2, hk_.1.1.2, hk_.1.2⟩)); have n1_ := Aside0.mk (Kd.R_reok rfl hy0 (fun k_ e_ => HO_11.out.1 k_ e_)); have n2_ := Aside0.mk (Kd.R_mono (ok' := fun k_ => some k_ ≠ (v330 : Value).ownBlock ∧ some k_ ≠ (.slice Ao29 t332.length co29 : Value).ownBlock ∧ some k_ ≠ (.slice Ao31 t338.length co31 : Value).ownBlock ∧ some k_ ≠ (v344 : Value).ownBlock ∧ some k_ ≠ (.slice Ao60 t347.length co60 : Value).ownBlock ∧ some k_ ≠ (.slice Ao63 t351.length co63 : Value).ownBlock ∧ some k_ ≠ (.slice Ao66 t355.length co66 : Value).ownBlock) (Kd.R_keptB (HO_12.out) hkp (fun k_ hk_ hs_ => (hk_.1.1.1.2.1) hs_)) (fun k_ hk_ => ⟨hk_.1.1.1.1.1, hk_.1.1.1.1.2.1, hk_.1.1.1.1.2.2.1, hk_.1.1.1.1.2.2.2, hk_.1.1.1.2, hk_.1.1.2, hk_.1.2⟩)); have n3_ := Aside0.mk (Kd.R_mono (ok' := fun k_ => some k_ ≠ (v330 : Value).ownBlock ∧ some k_ ≠ (.slice Ao29 t332.length co29 : Value).ownBlock ∧ some k_ ≠ (.slice Ao30 t335.length co30 : Value).ownBlock ∧ some k_ ≠ (v344 : Value).ownBlock ∧ some k_ ≠ (.slice Ao60 t347.length co60 : Value).ownBlock ∧ some k_ ≠ (.slice Ao63 t351.length co63 : Value).ownBlock ∧ some k_ ≠ (.slice Ao66 t355.length co66 : Value).ownBlock) (Kd.R_keptB (HO_13.out) hkp (fun k_ hk_ hs_ => (hk_.1.1.1.2.1) hs_)) (fun k_ hk_ => ⟨hk_.1.1.1.1.1, hk_.1.1.1.1.2.1, hk_.1.1.1.1.2.2.1, hk_.1.1.1.1.2.2.2, hk_.1.1.1.2, hk_.1.1.2, hk_.1.2⟩)); have n4_ := Aside0.mk (Kd.R_mono (ok' := fun k_ => some k_ ≠ (v330 : Value).ownBlock ∧ some k_ ≠ (.slice Ao29 t332.length co29 : Value).ownBlock ∧ some k_ ≠ (.slice Ao30 t335.length co30 : Value).ownBlock ∧ some k_ ≠ (.slice Ao31 t338.length co31 : Value).ownBlock ∧ some k_ ≠ (.slice Ao60 t347.length co60 : Value).ownBlock ∧ some k_ ≠ (.slice Ao63 t351.length co63 : Value).ownBlock ∧ some k_ ≠ (.slice Ao66 t355.length co66 : Value).ownBlock) (Kd.R_keptB (HO_14.out) hkp (fun k_ hk_ hs_ => (hk_.1.1.1.2.1) hs_)) (fun k_ hk_ => ⟨hk_.1.1.1.1.1, hk_.1.1.1.1.2.1, hk_.1.1.1.1.2.2.1, hk_.1.1.1.1.2.2.2, hk_.1.1.1.2, hk_.1.1.2, hk_.1.2⟩)); have n5_ := Aside0.mk (Kd.R_mono (ok' := fun k_ => some k_ ≠ (v330 : Value).ownBlock ∧ some k_ ≠ (.slice Ao29 t332.length co29 : Value).ownBlock ∧ some k_ ≠ (.slice Ao30 t335.length co30 : Value).ownBlock ∧ some k_ ≠ (.slice Ao31 t338.length co31 : Value).ownBlock ∧ some k_ ≠ (v344 : Value).ownBlock ∧ some k_ ≠ (.slice Ao63 t351.length co63 : Value).ownBlock ∧ some k_ ≠ (.slice Ao66 t355.length co66 : Value).ownBlock) (Kd.R_keptB (HO349.out) hkp (fun k_ hk_ hs_ => (hk_.1.1.1.1.1.2) hs_)) (fun k_ hk_ => ⟨hk_.1.1.1.1.1.1.1.2, hk_.1.1.1.1.1.1.2, hk_.1.1.1.1.1.2, hk_.1.1.1.1.2, hk_.1.1.1.2, hk_.1.1.2, hk_.1.2⟩)); have n6_ := Aside0.mk (Kd.R_mono (ok' := fun k_ => some k_ ≠ (v330 : Value).ownBlock ∧ some k_ ≠ (.slice Ao29 t332.length co29 : Value).ownBlock ∧ some k_ ≠ (.slice Ao30 t335.length co30 : Value).ownBlock ∧ some k_ ≠ (.slice Ao31 t338.length co31 : Value).ownBlock ∧ some k_ ≠ (v344 : Value).ownBlock ∧ some k_ ≠ (.slice Ao60 t347.length co60 : Value).ownBlock ∧ some k_ ≠ (.slice Ao66 t355.length co66 : Value).ownBlock) (Kd.R_keptB (HO353.out) hkp (fun k_ hk_ hs_ => (hk_.1.1.1.1.1.2) hs_)) (fun k_ hk_ => ⟨hk_.1.1.1.1.1.1.1.2, hk_.1.1.1.1.1.1.2, hk_.1.1.1.1.1.2, hk_.1.1.1.1.2, hk_.1.1.1.2, hk_.1.1.2, hk_.1.2⟩)); have n7_ := Aside0.mk (Kd.R_mono (ok' := fun k_ => some k_ ≠ (v330 : Value).ownBlock ∧ some k_ ≠ (.slice Ao29 t332.length co29 : Value).ownBlock ∧ some k_ ≠ (.slice Ao30 t335.length co30 : Value).ownBlock ∧ some k_ ≠ (.slice Ao31 t338.length co31 : Value).ownBlock ∧ some k_ ≠ (v344 : Value).ownBlock ∧ some k_ ≠ (.slice Ao60 t347.length co60 : Value).ownBlock ∧ some k_ ≠ (.slice Ao63 t351.length co63 : Value).ownBlock) (Kd.R_keptB (HO357.out) hkp (fun k_ hk_ hs_ => (hk_.1.1.1.1.1.2) hs_)) (fun k_ hk_ => ⟨hk_.1.1.1.1.1.1.1.2, hk_.1.1.1.1.1.1.2, hk_.1.1.1.1.1.2, hk_.1.1.1.1.2, hk_.1.1.1.2, hk_.1.1.2, hk_.1.2⟩)); have n8_ := Aside0.mk (hb); clear HO_8; clear HO_11; clear HO_12; clear HO_13; clear HO_14; clear HO349; clear HO353; clear HO357; clear HB; have HO_8 := n0_; have HO_11 := n1_; have HO_12 := n2_; have HO_13 := n3_; have HO_14 := n4_; have HO349 := n5_; have HO353 := n6_; have HO357 := n7_; have HB := n8_; clear n0_ n1_ n2_ n3_ n4_ n5_ n6_ n7_ n8_; (try clear hb); (try clear hkp); (try clear hy0))|((with_reducible refine gate_callee (f := 33) rfl ?_); refine goesL_ (some 97) rfl rfl Try.func33 (by kernel_rfl) rfl #[.slice Ao30 t335.length co30, .int .i64 t359] rfl (by (try simp only [List.map_toArray, List.map_cons, List.map_nil]); first | done | rfl|(simp only [List.length_drop, List.length_take]; rfl)) ?_; (with_reducible refine (laws_markHoleS.calls kj17 (fun k_ => some k_ = (.slice Ao30 t335.length co30 : Value).ownBlock) (.slice Ao30 t335.length co30) t335 t359 t361 t362 w _ ?side1 ?side2 A56.out).mono ?_);(case side1 => repeat (first|(with_reducible first|exact HB.out|apply below_alloc|apply pw_below_drewN|apply below_drew1)|exact HB.out));(case side2 => exact Kd.R_tight rfl HO_12.out); rintro e w69 ⟨rfl, hy0, hb, hkp⟩; refine ⟨_, rfl, ?_⟩; have n0_ := Aside0.mk (Kd.R_mono (ok' := fun k_ => some k_ ≠ (.slice Ao29 t332.length co29 : Value).ownBlock ∧ some k_ ≠ (.slice Ao30 t335.length co30 : Value).ownBlock ∧ some k_ ≠ (.slice Ao31 t338.length co31 : Value).ownBlock ∧ some k_ ≠ (v344 : Value).ownBlock ∧ some k_ ≠ (.slice Ao60 t347.length co60 : Value).ownBlock ∧ some k_ ≠ (.slice Ao63 t351.length co63 : Value).ownBlock ∧ some k_ ≠ (.slice Ao66 t355.length co66 : Value).ownBlock) (Kd.R_keptB (HO_8.out) hkp (fun k_ hk_ hs_ => (hk_.2.1) hs_)) (fun k_ hk_ => ⟨hk_.1.1, hk_.1.2.1, hk_.1.2.2.1, hk_.1.2.2.2.1, hk_.1.2.2.2.2.1, hk_.1.2.2.2.2.2.1, hk_.1.2.2.2.2.2.2⟩)); have n1_ := Aside0.mk (Kd.R_mono (ok' := fun k_ => some k_ ≠ (v330 : Value).ownBlock ∧ some k_ ≠ (.slice Ao30 t335.length co30 : Value).ownBlock ∧ some k_ ≠ (.slice Ao31 t338.length co31 : Value).ownBlock ∧ some k_ ≠ (v344 : Value).ownBlock ∧ some k_ ≠ (.slice Ao60 t347.length co60 : Value).ownBlock ∧ some k_ ≠ (.slice Ao63 t351.length co63 : Value).ownBlock ∧ some k_ ≠ (.slice Ao66 t355.length co66 : Value).ownBlock) (Kd.R_keptB (HO_11.out) hkp (fun k_ hk_ hs_ => (hk_.1.1.1.2.1) hs_)) (fun k_ hk_ => ⟨hk_.1.1.1.1.1, hk_.1.1.1.1.2.1, hk_.1.1.1.1.2.2.1, hk_.1.1.1.1.2.2.2, hk_.1.1.1.2, hk_.1.1.2, hk_.1.2⟩)); have n2_ := Aside0.mk (Kd.R_reok rfl hy0 (fun k_ e_ => HO_12.out.1 k_ e_)); have n3_ := Aside0.mk (Kd.R_mono (ok' := fun k_ => some k_ ≠ (v330 : Value).ownBlock ∧ some k_ ≠ (.slice Ao29 t332.length co29 : Value).ownBlock ∧ some k_ ≠ (.slice Ao30 t335.length co30 : Value).ownBlock ∧ some k_ ≠ (v344 : Value).ownBlock ∧ some k_ ≠ (.slice Ao60 t347.length co60 : Value).ownBlock ∧ some k_ ≠ (.slice Ao63 t351.length co63 : Value).ownBlock ∧ some k_ ≠ (.slice Ao66 t355.length co66 : Value).ownBlock) (Kd.R_keptB (HO_13.out) hkp (fun k_ hk_ hs_ => (hk_.2.2.1) hs_)) (fun k_ hk_ => ⟨hk_.1.1, hk_.1.2.1, hk_.1.2.2.1, hk_.1.2.2.2.1, hk_.1.2.2.2.2.1, hk_.1.2.2.2.2.2.1, hk_.1.2.2.2.2.2.2⟩)); have n4_ := Aside0.mk (Kd.R_mono (ok' := fun k_ => some k_ ≠ (v330 : Value).ownBlock ∧ some k_ ≠ (.slice Ao29 t332.length co29 : Value).ownBlock ∧ some k_ ≠ (.slice Ao30 t335.length co30 : Value).ownBlock ∧ some k_ ≠ (.slice Ao31 t338.length co31 : Value).ownBlock ∧ some k_ ≠ (.slice Ao60 t347.length co60 : Value).ownBlock ∧ some k_ ≠ (.slice Ao63 t351.length co63 : Value).ownBlock ∧ some k_ ≠ (.slice Ao66 t355.length co66 : Value).ownBlock) (Kd.R_keptB (HO_14.out) hkp (fun k_ hk_ hs_ => (hk_.2.2.1) hs_)) (fun k_ hk_ => ⟨hk_.1.1, hk_.1.2.1, hk_.1.2.2.1, hk_.1.2.2.2.1, hk_.1.2.2.2.2.1, hk_.1.2.2.2.2.2.1, hk_.1.2.2.2.2.2.2⟩)); have n5_ := Aside0.mk (Kd.R_mono (ok' := fun k_ => some k_ ≠ (v330 : Value).ownBlock ∧ some k_ ≠ (.slice Ao29 t332.length co29 : Value).ownBlock ∧ some k_ ≠ (.slice Ao30 t335.length co30 : Value).ownBlock ∧ some k_ ≠ (.slice Ao31 t338.length co31 : Value).ownBlock ∧ some k_ ≠ (v344 : Value).ownBlock ∧ some k_ ≠ (.slice Ao63 t351.length co63 : Value).ownBlock ∧ some k_ ≠ (.slice Ao66 t355.length co66 : Value).ownBlock) (Kd.R_keptB (HO349.out) hkp (fun k_ hk_ hs_ => (hk_.2.2.1) hs_)) (fun k_ hk_ => ⟨hk_.1.1, hk_.1.2.1, hk_.1.2.2.1, hk_.1.2.2.2.1, hk_.1.2.2.2.2.1, hk_.1.2.2.2.2.2.1, hk_.1.2.2.2.2.2.2⟩)); have n6_ := Aside0.mk (Kd.R_mono (ok' := fun k_ => some k_ ≠ (v330 : Value).ownBlock ∧ some k_ ≠ (.slice Ao29 t332.length co29 : Value).ownBlock ∧ some k_ ≠ (.slice Ao30 t335.length co30 : Value).ownBlock ∧ some k_ ≠ (.slice Ao31 t338.length co31 : Value).ownBlock ∧ some k_ ≠ (v344 : Value).ownBlock ∧ some k_ ≠ (.slice Ao60 t347.length co60 : Value).ownBlock ∧ some k_ ≠ (.slice Ao66 t355.length co66 : Value).ownBlock) (Kd.R_keptB (HO353.out) hkp (fun k_ hk_ hs_ => (hk_.2.2.1) hs_)) (fun k_ hk_ => ⟨hk_.1.1, hk_.1.2.1, hk_.1.2.2.1, hk_.1.2.2.2.1, hk_.1.2.2.2.2.1, hk_.1.2.2.2.2.2.1, hk_.1.2.2.2.2.2.2⟩)); have n7_ := Aside0.mk (Kd.R_mono (ok' := fun k_ => some k_ ≠ (v330 : Value).ownBlock ∧ some k_ ≠ (.slice Ao29 t332.length co29 : Value).ownBlock ∧ some k_ ≠ (.slice Ao30 t335.length co30 : Value).ownBlock ∧ some k_ ≠ (.slice Ao31 t338.length co31 : Value).ownBlock ∧ some k_ ≠ (v344 : Value).ownBlock ∧ some k_ ≠ (.slice Ao60 t347.length co60 : Value).ownBlock ∧ some k_ ≠ (.slice Ao63 t351.length co63 : Value).ownBlock) (Kd.R_keptB (HO357.out) hkp (fun k_ hk_ hs_ => (hk_.2.2.1) hs_)) (fun k_ hk_ => ⟨hk_.1.1, hk_.1.2.1, hk_.1.2.2.1, hk_.1.2.2.2.1, hk_.1.2.2.2.2.1, hk_.1.2.2.2.2.2.1, hk_.1.2.2.2.2.2.2⟩)); have n8_ := Aside0.mk (hb); clear HO_8; clear HO_11; clear HO_12; clear HO_13; clear HO_14; clear HO349; clear HO353; clear HO357; clear HB; have HO_8 := n0_; have HO_11 := n1_; have HO_12 := n2_; have HO_13 := n3_; have HO_14 := n4_; have HO349 := n5_; have HO353 := n6_; have HO357 := n7_; have HB := n8_; clear n0_ n1_ n2_ n3_ n4_ n5_ n6_ n7_ n8_; (try clear hb); (try clear hkp); (try clear hy0))|((with_reducible refine gate_callee (f := 33) rfl ?_); refine goesL_ (some 100) rfl rfl Try.func33 (by kernel_rfl) rfl #[.slice Ao31 t338.length co31, .int .i64 t361] rfl (by (try simp only [List.map_toArray, List.map_cons, List.map_nil]); first | done | rfl|(simp only [List.length_drop, List.length_take]; rfl)) ?_; (with_reducible refine (laws_markHoleS.calls kj17 (fun k_ => some k_ = (.slice Ao31 t338.length co31 : Value).ownBlock) (.slice Ao31 t338.length co31) t338 t361 t363 t364 w _ ?side1 ?side2 A57.out).mono ?_);(case side1 => repeat (first|(with_reducible first|exact HB.out|apply below_alloc|apply pw_below_drewN|apply below_drew1)|exact HB.out));(case side2 => exact Kd.R_tight rfl HO_13.out); rintro e w70 ⟨rfl, hy0, hb, hkp⟩; refine ⟨_, rfl, ?_⟩; have n0_ := Aside0.mk (Kd.R_mono (ok' := fun k_ => some k_ ≠ (.slice Ao29 t332.length co29 : Value).ownBlock ∧ some k_ ≠ (.slice Ao30 t335.length co30 : Value).ownBlock ∧ some k_ ≠ (.slice Ao31 t338.length co31 : Value).ownBlock ∧ some k_ ≠ (v344 : Value).ownBlock ∧ some k_ ≠ (.slice Ao60 t347.length co60 : Value).ownBlock ∧ some k_ ≠ (.slice Ao63 t351.length co63 : Value).ownBlock ∧ some k_ ≠ (.slice Ao66 t355.length co66 : Value).ownBlock) (Kd.R_keptB (HO_8.out) hkp (fun k_ hk_ hs_ => (hk_.2.2.1) hs_)) (fun k_ hk_ => ⟨hk_.1.1, hk_.1.2.1, hk_.1.2.2.1, hk_.1.2.2.2.1, hk_.1.2.2.2.2.1, hk_.1.2.2.2.2.2.1, hk_.1.2.2.2.2.2.2⟩)); have n1_ := Aside0.mk (Kd.R_mono (ok' := fun k_ => some k_ ≠ (v330 : Value).ownBlock ∧ some k_ ≠ (.slice Ao30 t335.length co30 : Value).ownBlock ∧ some k_ ≠ (.slice Ao31 t338.length co31 : Value).ownBlock ∧ some k_ ≠ (v344 : Value).ownBlock ∧ some k_ ≠ (.slice Ao60 t347.length co60 : Value).ownBlock ∧ some k_ ≠ (.slice Ao63 t351.length co63 : Value).ownBlock ∧ some k_ ≠ (.slice Ao66 t355.length co66 : Value).ownBlock) (Kd.R_keptB (HO_11.out) hkp (fun k_ hk_ hs_ => (hk_.2.2.1) hs_)) (fun k_ hk_ => ⟨hk_.1.1, hk_.1.2.1, hk_.1.2.2.1, hk_.1.2.2.2.1, hk_.1.2.2.2.2.1, hk_.1.2.2.2.2.2.1, hk_.1.2.2.2.2.2.2⟩)); have n2_ := Aside0.mk (Kd.R_mono (ok' := fun k_ => some k_ ≠ (v330 : Value).ownBlock ∧ some k_ ≠ (.slice Ao29 t332.length co29 : Value).ownBlock ∧ some k_ ≠ (.slice Ao31 t338.length co31 : Value).ownBlock ∧ some k_ ≠ (v344 : Value).ownBlock ∧ some k_ ≠ (.slice Ao60 t347.length co60 : Value).ownBlock ∧ some k_ ≠ (.slice Ao63 t351.length co63 : Value).ownBlock ∧ some k_ ≠ (.slice Ao66 t355.length co66 : Value).ownBlock) (Kd.R_keptB (HO_12.out) hkp (fun k_ hk_ hs_ => (hk_.2.2.1) hs_)) (fun k_ hk_ => ⟨hk_.1.1, hk_.1.2.1, hk_.1.2.2.1, hk_.1.2.2.2.1, hk_.1.2.2.2.2.1, hk_.1.2.2.2.2.2.1, hk_.1.2.2.2.2.2.2⟩)); have n3_ := Aside0.mk (Kd.R_reok rfl hy0 (fun k_ e_ => HO_13.out.1 k_ e_)); have n4_ := Aside0.mk (Kd.R_mono (ok' := fun k_ => some k_ ≠ (v330 : Value).ownBlock ∧ some k_ ≠ (.slice Ao29 t332.length co29 : Value).ownBlock ∧ some k_ ≠ (.slice Ao30 t335.length co30 : Value).ownBlock ∧ some k_ ≠ (.slice Ao31 t338.length co31 : Value).ownBlock ∧ some k_ ≠ (.slice Ao60 t347.length co60 : Value).ownBlock ∧ some k_ ≠ (.slice Ao63 t351.length co63 : Value).ownBlock ∧ some k_ ≠ (.slice Ao66 t355.length co66 : Value).ownBlock) (Kd.R_keptB (HO_14.out) hkp (fun k_ hk_ hs_ => (hk_.2.2.2.1) hs_)) (fun k_ hk_ => ⟨hk_.1.1, hk_.1.2.1, hk_.1.2.2.1, hk_.1.2.2.2.1, hk_.1.2.2.2.2.1, hk_.1.2.2.2.2.2.1, hk_.1.2.2.2.2.2.2⟩)); have n5_ := Aside0.mk (Kd.R_mono (ok' := fun k_ => some k_ ≠ (v330 : Value).ownBlock ∧ some k_ ≠ (.slice Ao29 t332.length co29 : Value).ownBlock ∧ some k_ ≠ (.slice Ao30 t335.length co30 : Value).ownBlock ∧ some k_ ≠ (.slice Ao31 t338.length co31 : Value).ownBlock ∧ some k_ ≠ (v344 : Value).ownBlock ∧ some k_ ≠ (.slice Ao63 t351.length co63 : Value).ownBlock ∧ some k_ ≠ (.slice Ao66 t355.length co66 : Value).ownBlock) (Kd.R_keptB (HO349.out) hkp (fun k_ hk_ hs_ => (hk_.2.2.2.1) hs_)) (fun k_ hk_ => ⟨hk_.1.1, hk_.1.2.1, hk_.1.2.2.1, hk_.1.2.2.2.1, hk_.1.2.2.2.2.1, hk_.1.2.2.2.2.2.1, hk_.1.2.2.2.2.2.2⟩)); have n6_ := Aside0.mk (Kd.R_mono (ok' := fun k_ => some k_ ≠ (v330 : Value).ownBlock ∧ some k_ ≠ (.slice Ao29 t332.length co29 : Value).ownBlock ∧ some k_ ≠ (.slice Ao30 t335.length co30 : Value).ownBlock ∧ some k_ ≠ (.slice Ao31 t338.length co31 : Value).ownBlock ∧ some k_ ≠ (v344 : Value).ownBlock ∧ some k_ ≠ (.slice Ao60 t347.length co60 : Value).ownBlock ∧ some k_ ≠ (.slice Ao66 t355.length co66 : Value).ownBlock) (Kd.R_keptB (HO353.out) hkp (fun k_ hk_ hs_ => (hk_.2.2.2.1) hs_)) (fun k_ hk_ => ⟨hk_.1.1, hk_.1.2.1, hk_.1.2.2.1, hk_.1.2.2.2.1, hk_.1.2.2.2.2.1, hk_.1.2.2.2.2.2.1, hk_.1.2.2.2.2.2.2⟩)); have n7_ := Aside0.mk (Kd.R_mono (ok' := fun k_ => some k_ ≠ (v330 : Value).ownBlock ∧ some k_ ≠ (.slice Ao29 t332.length co29 : Value).ownBlock ∧ some k_ ≠ (.slice Ao30 t335.length co30 : Value).ownBlock ∧ some k_ ≠ (.slice Ao31 t338.length co31 : Value).ownBlock ∧ some k_ ≠ (v344 : Value).ownBlock ∧ some k_ ≠ (.slice Ao60 t347.length co60 : Value).ownBlock ∧ some k_ ≠ (.slice Ao63 t351.length co63 : Value).ownBlock) (Kd.R_keptB (HO357.out) hkp (fun k_ hk_ hs_ => (hk_.2.2.2.1) hs_)) (fun k_ hk_ => ⟨hk_.1.1, hk_.1.2.1, hk_.1.2.2.1, hk_.1.2.2.2.1, hk_.1.2.2.2.2.1, hk_.1.2.2.2.2.2.1, hk_.1.2.2.2.2.2.2⟩)); have n8_ := Aside0.mk (hb); clear HO_8; clear HO_11; clear HO_12; clear HO_13; clear HO_14; clear HO349; clear HO353; clear HO357; clear HB; have HO_8 := n0_; have HO_11 := n1_; have HO_12 := n2_; have HO_13 := n3_; have HO_14 := n4_; have HO349 := n5_; have HO353 := n6_; have HO357 := n7_; have HB := n8_; clear n0_ n1_ n2_ n3_ n4_ n5_ n6_ n7_ n8_; (try clear hb); (try clear hkp); (try clear hy0)))
          (try simp only [Act.put, List.setIfInBounds_toArray, List.set_cons_zero, List.set_cons_succ])
          go_cut [118] (fun v118 wc => ∃ (kq : Nat) (x118_57 : Bool), v118 = .bool x118_57 ∧ Aside0 (laws_FnExactMergeFirst.j1 kq l0 l1 l2 t327 t328 t329 t341 x118_57 = some r) ∧ Aside0 (kq ≤ kj17) ∧ Aside0 (Kd.R k42 42 wc w.heap.size (fun k_ => some k_ ≠ (v344 : Value).ownBlock) v330 t327) ∧ Aside0 (Kd.R k42 42 wc w.heap.size (fun k_ => some k_ ≠ (v330 : Value).ownBlock) v344 t341) ∧ Aside0 (Below w.heap.size w wc))
          case first =>
           have H := HC58.out
           clear HC58
           by_cases c71 : t363 < 0
           ·rw [if_pos c71] at H
            have c71b0 : decide (t363 < 0) = true := decide_eq_true c71
            clear c71
            (first|rw [c71b0]|(simp only [i64_w, i32_w]; rw [c71b0]) | skip)
            have H' := Aside0.mk H
            clear H
            go_wp2
            go_meet
            case rel => exact ⟨_, (true), (by first | rfl|(simp;done)|(simp [*];done)), H', ⟨by have := HJ17.out; first | omega|exact Nat.le_refl _⟩, ⟨by (with_reducible repeat (first|apply Kd.R_alloc|apply Kd.R_drewN|apply Kd.R_drew)); exact Kd.R_mono HO_8.out (fun _ hk => hk.2.2.2.1)⟩, ⟨by (with_reducible repeat (first|apply Kd.R_alloc|apply Kd.R_drewN|apply Kd.R_drew)); exact Kd.R_mono HO_14.out (fun _ hk => hk.1)⟩, ⟨by repeat (first|(with_reducible first|exact HB.out|apply below_alloc|apply pw_below_drewN|apply below_drew1)|exact HB.out)⟩⟩
           ·rw [if_neg c71] at H
            have c71b0 : decide (t363 < 0) = false := decide_eq_false c71
            clear c71
            (first|rw [c71b0]|(simp only [i64_w, i32_w]; rw [c71b0]) | skip)
            replace H := Option.bind_eq_some_iff.mp H
            obtain ⟨t365, A720, H⟩ := H
            try dsimp only at H
            have A72 := Aside0.mk A720
            clear A720
            by_cases c73 : t365 = true
            ·subst c73
             have H1 : (if t342 = t328 then (laws_FnExactMergeFirst.j1 kj17 l0 l1 l2 t327 t328 t329 t341 (t343 != t329)) else (laws_FnExactMergeFirst.j1 kj17 l0 l1 l2 t327 t328 t329 t341 true)) = some r := by rw [if_pos rfl] at H; exact H
             clear H
             have H := H1
             clear H1
             by_cases c74 : t342 = t328
             ·rw [if_pos c74] at H
              have c74b0 : (t342 == t328) = true := beq_iff_eq.mpr c74
              have c74b1 : (t342 != t328) = false := bne_eq_false_iff_eq.mpr c74
              clear c74
              have H' := Aside0.mk H
              clear H
              obtain ⟨Ao75, co75, eo75⟩ := Kd.R_slice HO_14.out
              subst eo75
              obtain ⟨Ao76, co76, eo76⟩ := Kd.R_slice HO_8.out
              subst eo76
              go_wp2_with (first|(go_at_call 32; (with_reducible refine (laws_eqHoleS.calls kj17 _ _ t341 _ _ t327 true _ ?side1 ?side2 ?side3 ?side4 A72.out).mono ?_);(case side1 => repeat (first|exact (Kd.R_reads' HO_14.out).2.2|(with_reducible refine Kd.C_alloc ?_ _)|(with_reducible refine Kd.C_drewN ?_ _)|(with_reducible refine Kd.C_drew ?_)));(case side2 => exact (Kd.R_reads' HO_14.out).2.1);(case side3 => repeat (first|exact (Kd.R_reads' HO_8.out).2.2|(with_reducible refine Kd.C_alloc ?_ _)|(with_reducible refine Kd.C_drewN ?_ _)|(with_reducible refine Kd.C_drew ?_)));(case side4 => exact (Kd.R_reads' HO_8.out).2.1); rintro e w77 ⟨rfl, hb⟩; have n0_ := Aside0.mk (Kd.R_below (by (with_reducible repeat (first|apply Kd.R_alloc|apply Kd.R_drewN|apply Kd.R_drew)); exact HO_8.out) hb); have n1_ := Aside0.mk (Kd.R_below (by (with_reducible repeat (first|apply Kd.R_alloc|apply Kd.R_drewN|apply Kd.R_drew)); exact HO_11.out) hb); have n2_ := Aside0.mk (Kd.R_below (by (with_reducible repeat (first|apply Kd.R_alloc|apply Kd.R_drewN|apply Kd.R_drew)); exact HO_12.out) hb); have n3_ := Aside0.mk (Kd.R_below (by (with_reducible repeat (first|apply Kd.R_alloc|apply Kd.R_drewN|apply Kd.R_drew)); exact HO_13.out) hb); have n4_ := Aside0.mk (Kd.R_below (by (with_reducible repeat (first|apply Kd.R_alloc|apply Kd.R_drewN|apply Kd.R_drew)); exact HO_14.out) hb); have n5_ := Aside0.mk (Kd.R_below (by (with_reducible repeat (first|apply Kd.R_alloc|apply Kd.R_drewN|apply Kd.R_drew)); exact HO349.out) hb); have n6_ := Aside0.mk (Kd.R_below (by (with_reducible repeat (first|apply Kd.R_alloc|apply Kd.R_drewN|apply Kd.R_drew)); exact HO353.out) hb); have n7_ := Aside0.mk (Kd.R_below (by (with_reducible repeat (first|apply Kd.R_alloc|apply Kd.R_drewN|apply Kd.R_drew)); exact HO357.out) hb); have n8_ := Aside0.mk (below_step (by repeat (first|(with_reducible first|exact HB.out|apply below_alloc|apply pw_below_drewN|apply below_drew1)|exact HB.out)) hb); clear HO_8; clear HO_11; clear HO_12; clear HO_13; clear HO_14; clear HO349; clear HO353; clear HO357; clear HB; have HO_8 := n0_; have HO_11 := n1_; have HO_12 := n2_; have HO_13 := n3_; have HO_14 := n4_; have HO349 := n5_; have HO353 := n6_; have HO357 := n7_; have HB := n8_; clear n0_ n1_ n2_ n3_ n4_ n5_ n6_ n7_ n8_; (try clear hb); (try clear hb2); (try clear hk); (try clear hi)))
              go_meet
              case rel => exact ⟨_, ((t343 != t329)), (by first | rfl|(simp;done)|(simp [*];done)), H', ⟨by have := HJ17.out; first | omega|exact Nat.le_refl _⟩, ⟨by (with_reducible repeat (first|apply Kd.R_alloc|apply Kd.R_drewN|apply Kd.R_drew)); exact Kd.R_mono HO_8.out (fun _ hk => hk.2.2.2.1)⟩, ⟨by (with_reducible repeat (first|apply Kd.R_alloc|apply Kd.R_drewN|apply Kd.R_drew)); exact Kd.R_mono HO_14.out (fun _ hk => hk.1)⟩, ⟨by repeat (first|(with_reducible first|exact HB.out|apply below_alloc|apply pw_below_drewN|apply below_drew1)|exact HB.out)⟩⟩
             ·rw [if_neg c74] at H
              have c74b0 : (t342 == t328) = false := beq_eq_false_iff_ne.mpr c74
              have c74b1 : (t342 != t328) = true := bne_iff_ne.mpr c74
              exact (laws_FnExactMergeFirst.j1_true (H.trans (congrArg some HR_.out))).elim
            ·replace c73 := Bool.eq_false_iff.mpr c73
             subst c73
             have H1 : (laws_FnExactMergeFirst.j1 kj17 l0 l1 l2 t327 t328 t329 t341 true) = some r := by rw [if_neg (show ¬ (false = true) by decide)] at H; exact H
             clear H
             have H := H1
             clear H1
             exact (laws_FnExactMergeFirst.j1_true (H.trans (congrArg some HR_.out))).elim
          case rest =>
           clear HC58
           try clear c1
           try clear c2
           try clear p2
           try clear c3
           try clear c4
           try clear c5
           try clear c5b0
           try clear c6
           try clear c7
           try clear c7b0
           try clear c9
           try clear c9b0
           try clear c28
           try clear c30
           try clear c32
           try clear c33
           try clear c34
           try clear c35
           try clear c35b0
           try clear c35b1
           try clear c37
           try clear c38
           try clear c45
           try clear c48
           try clear c51
           try clear c54
           try clear c71
           try clear c71b0
           try clear c73
           try clear c74
           try clear c74b0
           try clear c74b1
           try clear p2
           obtain ⟨kq, x118_57, rfl, HA, HJ57, HO_8, HO_14, HB⟩ := hcut
           cases kq with
           | zero => exact absurd HA.out (by simp [laws_FnExactMergeFirst.j1])
           | succ kj57 =>
            have H := HA.out
            clear HA
            simp only [laws_FnExactMergeFirst.j1] at H
            by_cases c84 : x118_57 = true
            ·subst c84
             have H1 : (some false) = some r := by rw [if_pos rfl] at H; exact H
             clear H
             have H := H1
             clear H1
             exact absurd ((Option.some.inj H).trans HR_.out) (by decide)
            ·replace c84 := Bool.eq_false_iff.mpr c84
             subst c84
             have H1 : ((laws_markHoleS.f kj57 t341 1).bind fun bt366 => ((laws_heldHoleS.f kj57 bt366.2 1).bind fun t368 => (if t368 < 0 then (some false) else (if t368 = bt366.1 then ((laws_toHoleS.f kj57 l0).bind fun t369 => ((laws_toHoleS.f kj57 l1).bind fun t372 => ((laws_toHoleS.f kj57 l2).bind fun t375 => ((impl_MergeFirst.f kj57 t369 t372 t375).bind fun bt378 => ((laws_eqHoleS.f kj57 bt378.1 t327).bind fun t383 => (if t383 = true then (if bt378.2.1 = t328 then (laws_FnExactMergeFirst.j2 kj57 bt366.2 bt366.1 (bt378.2.2 != t329)) else (laws_FnExactMergeFirst.j2 kj57 bt366.2 bt366.1 true)) else (laws_FnExactMergeFirst.j2 kj57 bt366.2 bt366.1 true))))))) else (some false))))) = some r := by rw [if_neg (show ¬ (false = true) by decide)] at H; exact H
             clear H
             have H := H1
             clear H1
             replace H := Option.bind_eq_some_iff.mp H
             obtain ⟨⟨t366, t367⟩, A850, H⟩ := H
             try dsimp only at H
             have A85 := Aside0.mk A850
             clear A850
             replace H := Option.bind_eq_some_iff.mp H
             obtain ⟨t368, A860, H⟩ := H
             try dsimp only at H
             have A86 := Aside0.mk A860
             clear A860
             by_cases c87 : t368 < 0
             ·rw [if_pos c87] at H
              have c87b0 : decide (t368 < 0) = true := decide_eq_true c87
              clear c87
              exact absurd ((Option.some.inj H).trans HR_.out) (by decide)
             ·rw [if_neg c87] at H
              have c87b0 : decide (t368 < 0) = false := decide_eq_false c87
              clear c87
              by_cases c90 : t368 = t366
              ·rw [if_pos c90] at H
               have c90b0 : (t368 == t366) = true := beq_iff_eq.mpr c90
               have c90b1 : (t368 != t366) = false := bne_eq_false_iff_eq.mpr c90
               clear c90
               replace H := Option.bind_eq_some_iff.mp H
               obtain ⟨t369, A910, H⟩ := H
               try dsimp only at H
               have A91 := Aside0.mk A910
               clear A910
               replace H := Option.bind_eq_some_iff.mp H
               obtain ⟨t372, A920, H⟩ := H
               try dsimp only at H
               have A92 := Aside0.mk A920
               clear A920
               replace H := Option.bind_eq_some_iff.mp H
               obtain ⟨t375, A930, H⟩ := H
               try dsimp only at H
               have A93 := Aside0.mk A930
               clear A930
               replace H := Option.bind_eq_some_iff.mp H
               obtain ⟨⟨t378, t379, t380⟩, A940, H⟩ := H
               try dsimp only at H
               have A94 := Aside0.mk A940
               clear A940
               have HC95 := Aside0.mk H
               clear H
               obtain ⟨Ao96, co96, eo96⟩ := Kd.R_slice HO_14.out
               subst eo96
               go_upto_region 39 with (first|((with_reducible refine gate_callee (f := 33) rfl ?_); refine goesL_ (some 121) rfl rfl Try.func33 (by kernel_rfl) rfl #[.slice Ao96 t341.length co96, .int .i64 1] rfl (by (try simp only [List.map_toArray, List.map_cons, List.map_nil]); first | done | rfl|(simp only [List.length_drop, List.length_take]; rfl)) ?_; (with_reducible refine (laws_markHoleS.calls kj57 (fun k_ => some k_ = (.slice Ao96 t341.length co96 : Value).ownBlock) (.slice Ao96 t341.length co96) t341 1 t366 t367 w _ ?side1 ?side2 A85.out).mono ?_);(case side1 => repeat (first|(with_reducible first|exact HB.out|apply below_alloc|apply pw_below_drewN|apply below_drew1)|exact HB.out));(case side2 => exact Kd.R_tight rfl HO_14.out); rintro e w97 ⟨rfl, hy0, hb, hkp⟩; refine ⟨_, rfl, ?_⟩; have n0_ := Aside0.mk (Kd.R_mono (ok' := fun k_ => some k_ ≠ (.slice Ao96 t341.length co96 : Value).ownBlock) (Kd.R_keptB (HO_8.out) hkp (fun k_ hk_ hs_ => (hk_) hs_)) (fun k_ hk_ => hk_.1)); have n1_ := Aside0.mk (Kd.R_reok rfl hy0 (fun k_ e_ => HO_14.out.1 k_ e_)); have n2_ := Aside0.mk (hb); clear HO_8; clear HO_14; clear HB; have HO_8 := n0_; have HO_14 := n1_; have HB := n2_; clear n0_ n1_ n2_; (try clear hb); (try clear hkp); (try clear hy0))|((with_reducible refine gate_callee (f := 34) rfl ?_); refine goesL_ (some 124) rfl rfl Try.func34 (by kernel_rfl) rfl #[.slice Ao96 t367.length co96, .int .i64 1] rfl (by (try simp only [List.map_toArray, List.map_cons, List.map_nil]); first | done|(rw [show t367.length = t341.length from (Kd.R_reads' HO_14.out).1.symm] <;> rfl) | rfl|(simp only [List.length_drop, List.length_take]; rfl)) ?_; (with_reducible refine (laws_heldHoleS.calls kj57 _ _ t367 1 t368 _ ?side1 ?side2 A86.out).mono ?_);(case side1 => repeat (first|exact (Kd.R_reads' HO_14.out).2.2|(with_reducible refine Kd.C_alloc ?_ _)|(with_reducible refine Kd.C_drewN ?_ _)|(with_reducible refine Kd.C_drew ?_)));(case side2 => rw [show t367.length = t341.length from (Kd.R_reads' HO_14.out).1.symm]; exact (Kd.R_reads' HO_14.out).2.1); rintro e w' ⟨rfl, ⟨nd, rfl⟩⟩; refine ⟨_, rfl, ?_⟩)|((with_reducible refine gate_callee (f := 30) rfl ?_); refine goesL_ (some 132) rfl rfl Try.func30 (by kernel_rfl) rfl #[.slice A0 l0.length c0] rfl (by (try simp only [List.map_toArray, List.map_cons, List.map_nil]); first | done | rfl|(simp only [List.length_drop, List.length_take]; rfl)) ?_; (with_reducible refine (laws_toHoleS.calls kj57 _ _ l0 t369 _ ?side1 ?side2 A91.out).mono ?_);(case side1 => repeat (first|exact (Kd.C_below HR0.out (by repeat (first|(with_reducible first|exact HB.out|apply below_alloc|apply pw_below_drewN|apply below_drew1)|exact HB.out)))|(with_reducible refine Kd.C_alloc ?_ _)|(with_reducible refine Kd.C_drewN ?_ _)|(with_reducible refine Kd.C_drew ?_)));(case side2 => exact HC0.out); rintro e w98 ⟨v370, rfl, ho0, hb⟩; refine ⟨_, rfl, ?_⟩; have n0_ := Aside0.mk (Kd.R_elder' (by (with_reducible repeat (first|apply Kd.R_alloc|apply Kd.R_drewN|apply Kd.R_drew)); exact HO_8.out) (Kd.R_base ho0) hb); have n1_ := Aside0.mk (Kd.R_elder' (by (with_reducible repeat (first|apply Kd.R_alloc|apply Kd.R_drewN|apply Kd.R_drew)); exact HO_14.out) (Kd.R_base ho0) hb); have n2_ := Aside0.mk (Kd.R_lower (Kd.R_new' (Kd.R_new' ho0 (Kd.R_lt (by (with_reducible repeat (first|apply Kd.R_alloc|apply Kd.R_drewN|apply Kd.R_drew)); exact HO_8.out))) (Kd.R_lt (by (with_reducible repeat (first|apply Kd.R_alloc|apply Kd.R_drewN|apply Kd.R_drew)); exact HO_14.out))) (below_size (by repeat (first|(with_reducible first|exact HB.out|apply below_alloc|apply pw_below_drewN|apply below_drew1)|exact HB.out)))); have n3_ := Aside0.mk (below_step (by repeat (first|(with_reducible first|exact HB.out|apply below_alloc|apply pw_below_drewN|apply below_drew1)|exact HB.out)) hb); clear HO_8; clear HO_14; clear HB; have HO_8 := n0_; have HO_14 := n1_; have HO371 := n2_; have HB := n3_; clear n0_ n1_ n2_ n3_; (try clear hb); (try clear hb2); (try clear hk); (try clear hi); (try clear ho0))|((with_reducible refine gate_callee (f := 30) rfl ?_); refine goesL_ (some 134) rfl rfl Try.func30 (by kernel_rfl) rfl #[.slice A1 l1.length c1] rfl (by (try simp only [List.map_toArray, List.map_cons, List.map_nil]); first | done | rfl|(simp only [List.length_drop, List.length_take]; rfl)) ?_; (with_reducible refine (laws_toHoleS.calls kj57 _ _ l1 t372 _ ?side1 ?side2 A92.out).mono ?_);(case side1 => repeat (first|exact (Kd.C_below HR1.out HB.out)|(with_reducible refine Kd.C_alloc ?_ _)|(with_reducible refine Kd.C_drewN ?_ _)|(with_reducible refine Kd.C_drew ?_)));(case side2 => exact HC1.out); rintro e w99 ⟨v373, rfl, ho0, hb⟩; refine ⟨_, rfl, ?_⟩; have n0_ := Aside0.mk (Kd.R_elder' (by (with_reducible repeat (first|apply Kd.R_alloc|apply Kd.R_drewN|apply Kd.R_drew)); exact HO_8.out) (Kd.R_base ho0) hb); have n1_ := Aside0.mk (Kd.R_elder' (by (with_reducible repeat (first|apply Kd.R_alloc|apply Kd.R_drewN|apply Kd.R_drew)); exact HO_14.out) (Kd.R_base ho0) hb); have n2_ := Aside0.mk (Kd.R_elder' (by (with_reducible repeat (first|apply Kd.R_alloc|apply Kd.R_drewN|apply Kd.R_drew)); exact HO371.out) (Kd.R_base ho0) hb); have n3_ := Aside0.mk (Kd.R_lower (Kd.R_new' (Kd.R_new' (Kd.R_new' ho0 (Kd.R_lt (by (with_reducible repeat (first|apply Kd.R_alloc|apply Kd.R_drewN|apply Kd.R_drew)); exact HO_8.out))) (Kd.R_lt (by (with_reducible repeat (first|apply Kd.R_alloc|apply Kd.R_drewN|apply Kd.R_drew)); exact HO_14.out))) (Kd.R_lt (by (with_reducible repeat (first|apply Kd.R_alloc|apply Kd.R_drewN|apply Kd.R_drew)); exact HO371.out))) (below_size (by repeat (first|(with_reducible first|exact HB.out|apply below_alloc|apply pw_below_drewN|apply below_drew1)|exact HB.out)))); have n4_ := Aside0.mk (below_step (by repeat (first|(with_reducible first|exact HB.out|apply below_alloc|apply pw_below_drewN|apply below_drew1)|exact HB.out)) hb); clear HO_8; clear HO_14; clear HO371; clear HB; have HO_8 := n0_; have HO_14 := n1_; have HO371 := n2_; have HO374 := n3_; have HB := n4_; clear n0_ n1_ n2_ n3_ n4_; (try clear hb); (try clear hb2); (try clear hk); (try clear hi); (try clear ho0))|((with_reducible refine gate_callee (f := 30) rfl ?_); refine goesL_ (some 136) rfl rfl Try.func30 (by kernel_rfl) rfl #[.slice A2 l2.length c2] rfl (by (try simp only [List.map_toArray, List.map_cons, List.map_nil]); first | done | rfl|(simp only [List.length_drop, List.length_take]; rfl)) ?_; (with_reducible refine (laws_toHoleS.calls kj57 _ _ l2 t375 _ ?side1 ?side2 A93.out).mono ?_);(case side1 => repeat (first|exact (Kd.C_below HR2.out HB.out)|(with_reducible refine Kd.C_alloc ?_ _)|(with_reducible refine Kd.C_drewN ?_ _)|(with_reducible refine Kd.C_drew ?_)));(case side2 => exact HC2.out); rintro e w100 ⟨v376, rfl, ho0, hb⟩; refine ⟨_, rfl, ?_⟩; have n0_ := Aside0.mk (Kd.R_elder' (by (with_reducible repeat (first|apply Kd.R_alloc|apply Kd.R_drewN|apply Kd.R_drew)); exact HO_8.out) (Kd.R_base ho0) hb); have n1_ := Aside0.mk (Kd.R_elder' (by (with_reducible repeat (first|apply Kd.R_alloc|apply Kd.R_drewN|apply Kd.R_drew)); exact HO_14.out) (Kd.R_base ho0) hb); have n2_ := Aside0.mk (Kd.R_elder' (by (with_reducible repeat (first|apply Kd.R_alloc|apply Kd.R_drewN|apply Kd.R_drew)); exact HO371.out) (Kd.R_base ho0) hb); have n3_ := Aside0.mk (Kd.R_elder' (by (with_reducible repeat (first|apply Kd.R_alloc|apply Kd.R_drewN|apply Kd.R_drew)); exact HO374.out) (Kd.R_base ho0) hb); have n4_ := Aside0.mk (Kd.R_lower (Kd.R_new' (Kd.R_new' (Kd.R_new' (Kd.R_new' ho0 (Kd.R_lt (by (with_reducible repeat (first|apply Kd.R_alloc|apply Kd.R_drewN|apply Kd.R_drew)); exact HO_8.out))) (Kd.R_lt (by (with_reducible repeat (first|apply Kd.R_alloc|apply Kd.R_drewN|apply Kd.R_drew)); exact HO_14.out))) (Kd.R_lt (by (with_reducible repeat (first|apply Kd.R_alloc|apply Kd.R_drewN|apply Kd.R_drew)); exact HO371.out))) (Kd.R_lt (by (with_reducible repeat (first|apply Kd.R_alloc|apply Kd.R_drewN|apply Kd.R_drew)); exact HO374.out))) (below_size (by repeat (first|(with_reducible first|exact HB.out|apply below_alloc|apply pw_below_drewN|apply below_drew1)|exact HB.out)))); have n5_ := Aside0.mk (below_step (by repeat (first|(with_reducible first|exact HB.out|apply below_alloc|apply pw_below_drewN|apply below_drew1)|exact HB.out)) hb); clear HO_8; clear HO_14; clear HO371; clear HO374; clear HB; have HO_8 := n0_; have HO_14 := n1_; have HO371 := n2_; have HO374 := n3_; have HO377 := n4_; have HB := n5_; clear n0_ n1_ n2_ n3_ n4_ n5_; (try clear hb); (try clear hb2); (try clear hk); (try clear hi); (try clear ho0); obtain ⟨Ao101, co101, eo101⟩ := Kd.R_slice HO371.out; subst eo101; obtain ⟨Ao102, co102, eo102⟩ := Kd.R_slice HO374.out; subst eo102; obtain ⟨Ao103, co103, eo103⟩ := Kd.R_slice HO377.out; subst eo103)|((with_reducible refine gate_callee (f := 38) rfl ?_); refine goesL_ (some 137) rfl rfl Try.func38 (by kernel_rfl) rfl #[.slice Ao101 t369.length co101, .slice Ao102 t372.length co102, .slice Ao103 t375.length co103] rfl (by (try simp only [List.map_toArray, List.map_cons, List.map_nil]); first | done | rfl|(simp only [List.length_drop, List.length_take]; rfl)) ?_; (with_reducible refine (impl_MergeFirst.calls kj57 _ _ t369 _ _ t372 _ _ t375 t378 t379 t380 _ ?side1 ?side2 ?side3 ?side4 ?side5 ?side6 A94.out).mono ?_);(case side1 => repeat (first|exact (Kd.R_reads' HO371.out).2.2|(with_reducible refine Kd.C_alloc ?_ _)|(with_reducible refine Kd.C_drewN ?_ _)|(with_reducible refine Kd.C_drew ?_)));(case side2 => exact (Kd.R_reads' HO371.out).2.1);(case side3 => repeat (first|exact (Kd.R_reads' HO374.out).2.2|(with_reducible refine Kd.C_alloc ?_ _)|(with_reducible refine Kd.C_drewN ?_ _)|(with_reducible refine Kd.C_drew ?_)));(case side4 => exact (Kd.R_reads' HO374.out).2.1);(case side5 => repeat (first|exact (Kd.R_reads' HO377.out).2.2|(with_reducible refine Kd.C_alloc ?_ _)|(with_reducible refine Kd.C_drewN ?_ _)|(with_reducible refine Kd.C_drew ?_)));(case side6 => exact (Kd.R_reads' HO377.out).2.1); rintro e w104 ⟨v381, rfl, ho0, hb⟩; refine ⟨_, rfl, ?_⟩; have n0_ := Aside0.mk (Kd.R_elder' (by (with_reducible repeat (first|apply Kd.R_alloc|apply Kd.R_drewN|apply Kd.R_drew)); exact HO_8.out) (Kd.R_base ho0) hb); have n1_ := Aside0.mk (Kd.R_elder' (by (with_reducible repeat (first|apply Kd.R_alloc|apply Kd.R_drewN|apply Kd.R_drew)); exact HO_14.out) (Kd.R_base ho0) hb); have n2_ := Aside0.mk (Kd.R_elder' (by (with_reducible repeat (first|apply Kd.R_alloc|apply Kd.R_drewN|apply Kd.R_drew)); exact HO371.out) (Kd.R_base ho0) hb); have n3_ := Aside0.mk (Kd.R_elder' (by (with_reducible repeat (first|apply Kd.R_alloc|apply Kd.R_drewN|apply Kd.R_drew)); exact HO374.out) (Kd.R_base ho0) hb); have n4_ := Aside0.mk (Kd.R_elder' (by (with_reducible repeat (first|apply Kd.R_alloc|apply Kd.R_drewN|apply Kd.R_drew)); exact HO377.out) (Kd.R_base ho0) hb); have n5_ := Aside0.mk (Kd.R_lower (Kd.R_new' (Kd.R_new' (Kd.R_new' (Kd.R_new' (Kd.R_new' ho0 (Kd.R_lt (by (with_reducible repeat (first|apply Kd.R_alloc|apply Kd.R_drewN|apply Kd.R_drew)); exact HO_8.out))) (Kd.R_lt (by (with_reducible repeat (first|apply Kd.R_alloc|apply Kd.R_drewN|apply Kd.R_drew)); exact HO_14.out))) (Kd.R_lt (by (with_reducible repeat (first|apply Kd.R_alloc|apply Kd.R_drewN|apply Kd.R_drew)); exact HO371.out))) (Kd.R_lt (by (with_reducible repeat (first|apply Kd.R_alloc|apply Kd.R_drewN|apply Kd.R_drew)); exact HO374.out))) (Kd.R_lt (by (with_reducible repeat (first|apply Kd.R_alloc|apply Kd.R_drewN|apply Kd.R_drew)); exact HO377.out))) (below_size (by repeat (first|(with_reducible first|exact HB.out|apply below_alloc|apply pw_below_drewN|apply below_drew1)|exact HB.out)))); have n6_ := Aside0.mk (below_step (by repeat (first|(with_reducible first|exact HB.out|apply below_alloc|apply pw_below_drewN|apply below_drew1)|exact HB.out)) hb); clear HO_8; clear HO_14; clear HO371; clear HO374; clear HO377; clear HB; have HO_8 := n0_; have HO_14 := n1_; have HO371 := n2_; have HO374 := n3_; have HO377 := n4_; have HO382 := n5_; have HB := n6_; clear n0_ n1_ n2_ n3_ n4_ n5_ n6_; (try clear hb); (try clear hb2); (try clear hk); (try clear hi); (try clear ho0)))
               (try simp only [Act.put, List.setIfInBounds_toArray, List.set_cons_zero, List.set_cons_succ])
               go_cut [154] (fun v154 wc => ∃ (kq : Nat) (x154_94 : Bool), v154 = .bool x154_94 ∧ Aside0 (laws_FnExactMergeFirst.j2 kq t367 t366 x154_94 = some r) ∧ Aside0 (kq ≤ kj57) ∧ Aside0 (Kd.R k42 42 wc w.heap.size (fun _ => True) (.slice Ao96 t341.length co96) t367) ∧ Aside0 (Below w.heap.size w wc))
               case first =>
                have H := HC95.out
                clear HC95
                replace H := Option.bind_eq_some_iff.mp H
                obtain ⟨t383, A1050, H⟩ := H
                try dsimp only at H
                have A105 := Aside0.mk A1050
                clear A1050
                by_cases c106 : t383 = true
                ·subst c106
                 have H1 : (if t379 = t328 then (laws_FnExactMergeFirst.j2 kj57 t367 t366 (t380 != t329)) else (laws_FnExactMergeFirst.j2 kj57 t367 t366 true)) = some r := by rw [if_pos rfl] at H; exact H
                 clear H
                 have H := H1
                 clear H1
                 by_cases c107 : t379 = t328
                 ·rw [if_pos c107] at H
                  have c107b0 : (t379 == t328) = true := beq_iff_eq.mpr c107
                  have c107b1 : (t379 != t328) = false := bne_eq_false_iff_eq.mpr c107
                  clear c107
                  (first|rw [c107b0]|(simp only [i64_w, i32_w]; rw [c107b0]) | skip)
                  have H' := Aside0.mk H
                  clear H
                  obtain ⟨Ao108, co108, eo108⟩ := Kd.R_slice HO382.out
                  subst eo108
                  obtain ⟨Ao109, co109, eo109⟩ := Kd.R_slice HO_8.out
                  subst eo109
                  go_wp2_with (first|((with_reducible refine gate_callee (f := 32) rfl ?_); refine goesL_ (some 143) rfl rfl Try.func32 (by kernel_rfl) rfl #[.slice Ao108 t378.length co108, .slice Ao109 t327.length co109] rfl (by (try simp only [List.map_toArray, List.map_cons, List.map_nil]); first | done | rfl|(simp only [List.length_drop, List.length_take]; rfl)) ?_; (with_reducible refine (laws_eqHoleS.calls kj57 _ _ t378 _ _ t327 true _ ?side1 ?side2 ?side3 ?side4 A105.out).mono ?_);(case side1 => repeat (first|exact (Kd.R_reads' HO382.out).2.2|(with_reducible refine Kd.C_alloc ?_ _)|(with_reducible refine Kd.C_drewN ?_ _)|(with_reducible refine Kd.C_drew ?_)));(case side2 => exact (Kd.R_reads' HO382.out).2.1);(case side3 => repeat (first|exact (Kd.R_reads' HO_8.out).2.2|(with_reducible refine Kd.C_alloc ?_ _)|(with_reducible refine Kd.C_drewN ?_ _)|(with_reducible refine Kd.C_drew ?_)));(case side4 => exact (Kd.R_reads' HO_8.out).2.1); rintro e w110 ⟨rfl, hb⟩; refine ⟨_, rfl, ?_⟩; have n0_ := Aside0.mk (Kd.R_below (by (with_reducible repeat (first|apply Kd.R_alloc|apply Kd.R_drewN|apply Kd.R_drew)); exact HO_8.out) hb); have n1_ := Aside0.mk (Kd.R_below (by (with_reducible repeat (first|apply Kd.R_alloc|apply Kd.R_drewN|apply Kd.R_drew)); exact HO_14.out) hb); have n2_ := Aside0.mk (Kd.R_below (by (with_reducible repeat (first|apply Kd.R_alloc|apply Kd.R_drewN|apply Kd.R_drew)); exact HO371.out) hb); have n3_ := Aside0.mk (Kd.R_below (by (with_reducible repeat (first|apply Kd.R_alloc|apply Kd.R_drewN|apply Kd.R_drew)); exact HO374.out) hb); have n4_ := Aside0.mk (Kd.R_below (by (with_reducible repeat (first|apply Kd.R_alloc|apply Kd.R_drewN|apply Kd.R_drew)); exact HO377.out) hb); have n5_ := Aside0.mk (Kd.R_below (by (with_reducible repeat (first|apply Kd.R_alloc|apply Kd.R_drewN|apply Kd.R_drew)); exact HO382.out) hb); have n6_ := Aside0.mk (below_step (by repeat (first|(with_reducible first|exact HB.out|apply below_alloc|apply pw_below_drewN|apply below_drew1)|exact HB.out)) hb); clear HO_8; clear HO_14; clear HO371; clear HO374; clear HO377; clear HO382; clear HB; have HO_8 := n0_; have HO_14 := n1_; have HO371 := n2_; have HO374 := n3_; have HO377 := n4_; have HO382 := n5_; have HB := n6_; clear n0_ n1_ n2_ n3_ n4_ n5_ n6_; (try clear hb); (try clear hb2); (try clear hk); (try clear hi)))
                  go_meet
                  case rel => exact ⟨_, ((t380 != t329)), (by first | rfl|(simp;done)|(simp [*];done)), H', ⟨by have := HJ17.out; have := HJ57.out; first | omega|exact Nat.le_refl _⟩, ⟨by (with_reducible repeat (first|apply Kd.R_alloc|apply Kd.R_drewN|apply Kd.R_drew)); exact Kd.R_mono HO_14.out (fun _ hk => trivial)⟩, ⟨by repeat (first|(with_reducible first|exact HB.out|apply below_alloc|apply pw_below_drewN|apply below_drew1)|exact HB.out)⟩⟩
                 ·rw [if_neg c107] at H
                  have c107b0 : (t379 == t328) = false := beq_eq_false_iff_ne.mpr c107
                  have c107b1 : (t379 != t328) = true := bne_iff_ne.mpr c107
                  (first|rw [c107b0]|(simp only [i64_w, i32_w]; rw [c107b0]) | skip)
                  exact (laws_FnExactMergeFirst.j2_true (H.trans (congrArg some HR_.out))).elim
                ·replace c106 := Bool.eq_false_iff.mpr c106
                 subst c106
                 have H1 : (laws_FnExactMergeFirst.j2 kj57 t367 t366 true) = some r := by rw [if_neg (show ¬ (false = true) by decide)] at H; exact H
                 clear H
                 have H := H1
                 clear H1
                 exact (laws_FnExactMergeFirst.j2_true (H.trans (congrArg some HR_.out))).elim
               case rest =>
                clear HC95
                try clear c1
                try clear c2
                try clear p2
                try clear c3
                try clear c4
                try clear c5
                try clear c5b0
                try clear c6
                try clear c7
                try clear c7b0
                try clear c8
                try clear c9
                try clear c9b0
                try clear c10
                try clear c28
                try clear c30
                try clear c32
                try clear c33
                try clear c34
                try clear c35
                try clear c35b0
                try clear c35b1
                try clear c37
                try clear c38
                try clear c45
                try clear c48
                try clear c51
                try clear c54
                try clear c71
                try clear c71b0
                try clear c73
                try clear c74
                try clear c74b0
                try clear c74b1
                try clear c84
                try clear c87
                try clear c87b0
                try clear c90
                try clear c90b0
                try clear c90b1
                try clear c106
                try clear c107
                try clear c107b0
                try clear c107b1
                try clear p2
                obtain ⟨kq, x154_94, rfl, HA, HJ94, HO_14, HB⟩ := hcut
                have hl14_94 := (Kd.R_reads' HO_14.out).1
                rw [hl14_94] at HO_14
                (try simp only [hl14_94])
                cases kq with
                | zero => exact absurd HA.out (by simp [laws_FnExactMergeFirst.j2])
                | succ kj94 =>
                 have H := HA.out
                 clear HA
                 simp only [laws_FnExactMergeFirst.j2] at H
                 by_cases c117 : x154_94 = true
                 ·subst c117
                  have H1 : (some false) = some r := by rw [if_pos rfl] at H; exact H
                  clear H
                  have H := H1
                  clear H1
                  exact absurd ((Option.some.inj H).trans HR_.out) (by decide)
                 ·replace c117 := Bool.eq_false_iff.mpr c117
                  subst c117
                  have H1 : ((laws_heldHoleS.f kj94 t367 1).bind fun t384 => (if t384 < 0 then (some false) else (if t384 = t366 then (some true) else (some false)))) = some r := by rw [if_neg (show ¬ (false = true) by decide)] at H; exact H
                  clear H
                  have H := H1
                  clear H1
                  replace H := Option.bind_eq_some_iff.mp H
                  obtain ⟨t384, A1180, H⟩ := H
                  try dsimp only at H
                  have A118 := Aside0.mk A1180
                  clear A1180
                  by_cases c119 : t384 < 0
                  ·rw [if_pos c119] at H
                   have c119b0 : decide (t384 < 0) = true := decide_eq_true c119
                   clear c119
                   exact absurd ((Option.some.inj H).trans HR_.out) (by decide)
                  ·rw [if_neg c119] at H
                   have c119b0 : decide (t384 < 0) = false := decide_eq_false c119
                   clear c119
                   by_cases c120 : t384 = t366
                   ·rw [if_pos c120] at H
                    have c120b0 : (t384 == t366) = true := beq_iff_eq.mpr c120
                    have c120b1 : (t384 != t366) = false := bne_eq_false_iff_eq.mpr c120
                    clear c120
                    obtain rfl := Option.some.inj H
                    go_wp2_with (first|((with_reducible refine gate_callee (f := 34) rfl ?_); refine goesL_ (some 157) rfl rfl Try.func34 (by kernel_rfl) rfl #[.slice Ao96 t367.length co96, .int .i64 1] rfl (by (try simp only [List.map_toArray, List.map_cons, List.map_nil]); first | done | rfl|(simp only [List.length_drop, List.length_take]; rfl)) ?_; (with_reducible refine (laws_heldHoleS.calls kj94 _ _ t367 1 t384 _ ?side1 ?side2 A118.out).mono ?_);(case side1 => repeat (first|exact (Kd.R_reads' HO_14.out).2.2|(with_reducible refine Kd.C_alloc ?_ _)|(with_reducible refine Kd.C_drewN ?_ _)|(with_reducible refine Kd.C_drew ?_)));(case side2 => exact (Kd.R_reads' HO_14.out).2.1); rintro e w' ⟨rfl, ⟨nd, rfl⟩⟩; refine ⟨_, rfl, ?_⟩))
                    go_ret
                    exact ⟨by first | rfl|(simp [errW_none, errW_some] <;> rfl)|(simp [*, errW_none, errW_some] <;> rfl), by repeat (first|(with_reducible first|exact HB.out|apply below_alloc|apply pw_below_drewN|apply below_drew1)|exact HB.out)⟩
                   ·rw [if_neg c120] at H
                    have c120b0 : (t384 == t366) = false := beq_eq_false_iff_ne.mpr c120
                    have c120b1 : (t384 != t366) = true := bne_iff_ne.mpr c120
                    exact absurd ((Option.some.inj H).trans HR_.out) (by decide)
              ·rw [if_neg c90] at H
               have c90b0 : (t368 == t366) = false := beq_eq_false_iff_ne.mpr c90
               have c90b1 : (t368 != t366) = true := bne_iff_ne.mpr c90
               exact absurd ((Option.some.inj H).trans HR_.out) (by decide)
         ·replace c54 := Bool.eq_false_iff.mpr c54
          subst c54
          have H1 : (some false) = some r := by rw [if_neg (show ¬ (false = true) by decide)] at H; exact H
          clear H
          have H := H1
          clear H1
          exact absurd ((Option.some.inj H).trans HR_.out) (by decide)
        ·replace c51 := Bool.eq_false_iff.mpr c51
         subst c51
         have H1 : (some false) = some r := by rw [if_neg (show ¬ (false = true) by decide)] at H; exact H
         clear H
         have H := H1
         clear H1
         exact absurd ((Option.some.inj H).trans HR_.out) (by decide)
       ·replace c48 := Bool.eq_false_iff.mpr c48
        subst c48
        have H1 : (some false) = some r := by rw [if_neg (show ¬ (false = true) by decide)] at H; exact H
        clear H
        have H := H1
        clear H1
        exact absurd ((Option.some.inj H).trans HR_.out) (by decide)
end Go.Proofs.Ytplpjmhmochcfaa.QFnExactMergeFirst
