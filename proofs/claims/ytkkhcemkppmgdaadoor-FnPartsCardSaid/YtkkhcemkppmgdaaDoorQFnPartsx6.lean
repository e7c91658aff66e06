/- Written by a program of this session (the kit's printer, with leaf contracts proved by hand put in): what each Go function computes, and that the call computes it. No condition but those that each theorem names. -/
import Derived.Test.YtkkhcemkppmgdaaDoorQFnPartsx0
import Derived.Test.YtkkhcemkppmgdaaDoorQFnPartsx2
import Derived.Test.YtkkhcemkppmgdaaDoorQFnPartsx3
import Derived.Test.YtkkhcemkppmgdaaDoorQFnPartsx4
import Derived.Test.YtkkhcemkppmgdaaDoorQFnPartsx5
namespace Go.Proofs.YtkkhcemkppmgdaaDoor.QFnParts
open Go.RowKit Go.Proofs.YtkkhcemkppmgdaaDoorW.PrintWords Go.Proofs.YtkkhcemkppmgdaaDoorW.PrintLast Go.Proofs.YtkkhcemkppmgdaaDoorW.PrintMore
attribute [local go_sem] max2_int min2_int max_two min_two max_three min_three max_four min_four   -- for this text's walks alone
set_option linter.unusedVariables false
set_option linter.unusedSimpArgs false

/-! ### impl_SourceAt: function 33 -/
mutual
def impl_SourceAt.j0 : Nat → List (S93) → Int → Bool → Option (Int × Int × Bool)
 | 0, _, _, _ => none
 | k + 1, x0, x1, x15 => if x15 = true then (some (0, 0, false)) else (impl_SourceAt.l0 k x1 x0 (x0.length : Int) 0)
def impl_SourceAt.l0 : Nat → Int → List (S93) → Int → Int → Option (Int × Int × Bool)
 | 0, _, _, _, _ => none
 | k + 1, x1, x16, x17, x18 => if x18 < x17 then (if 0 ≤ x18 then (if x18 < (x16.length : Int) then (if x1 < (wrap64 (((rd_T93 x16 x18).f2) - ((rd_T93 x16 x18).f1))) then (some ((rd_T93 x16 x18).f0, wrap64 (((rd_T93 x16 x18).f1) + x1), true)) else (impl_SourceAt.l0 k (wrap64 (x1 - (wrap64 (((rd_T93 x16 x18).f2) - ((rd_T93 x16 x18).f1))))) x16 x17 (wrap64 (x18 + 1)))) else (none)) else (none)) else (some (0, 0, false))
end
def impl_SourceAt.f (k : Nat) (l0 : List (S93)) (a1 : Int) : Option (Int × Int × Bool) := (impl_isEdition.f k l0).bind fun t289 => (if t289 = true then (impl_SourceAt.j0 k l0 a1 (decide (a1 < 0))) else (impl_SourceAt.j0 k l0 a1 true))
theorem impl_SourceAt.mono_l : ∀ k, (∀ y0 y1 y2, LeO (impl_SourceAt.j0 k y0 y1 y2) (impl_SourceAt.j0 (k + 1) y0 y1 y2)) ∧ (∀ y0 y1 y2 y3, LeO (impl_SourceAt.l0 k y0 y1 y2 y3) (impl_SourceAt.l0 (k + 1) y0 y1 y2 y3))
 | 0 => ⟨fun _ _ _ r h => by simp [impl_SourceAt.j0] at h, fun _ _ _ _ r h => by simp [impl_SourceAt.l0] at h⟩
 | k + 1 => by
  obtain ⟨ih0, ih1⟩ := impl_SourceAt.mono_l k
  refine ⟨?_, ?_⟩
  ·intro y0 y1 y2
   unfold impl_SourceAt.j0
   repeat' first
   |(with_reducible exact ih0 _ _ _)
   |(with_reducible exact ih1 _ _ _ _)
   |(with_reducible exact impl_isEdition.mono _ _)
   |(with_reducible exact LeO.refl _)
   |(with_reducible exact LeO.none _)
   |(with_reducible refine LeO.ite ?_ ?_)
   |(with_reducible refine LeO.bind ?_ (fun _ => ?_))
   |exact ih0 _ _ _
   |exact ih1 _ _ _ _
   |exact impl_isEdition.mono _ _
   |exact LeO.none _
    | refine LeO.ite ?_ ?_
    | refine LeO.bind ?_ (fun _ => ?_)
  ·intro y0 y1 y2 y3
   unfold impl_SourceAt.l0
   repeat' first
   |(with_reducible exact ih0 _ _ _)
   |(with_reducible exact ih1 _ _ _ _)
   |(with_reducible exact impl_isEdition.mono _ _)
   |(with_reducible exact LeO.refl _)
   |(with_reducible exact LeO.none _)
   |(with_reducible refine LeO.ite ?_ ?_)
   |(with_reducible refine LeO.bind ?_ (fun _ => ?_))
   |exact ih0 _ _ _
   |exact ih1 _ _ _ _
   |exact impl_isEdition.mono _ _
   |exact LeO.none _
    | refine LeO.ite ?_ ?_
    | refine LeO.bind ?_ (fun _ => ?_)
theorem impl_SourceAt.mono : ∀ a0 a1 k, LeO (impl_SourceAt.f k a0 a1) (impl_SourceAt.f (k + 1) a0 a1) := by
 intro a0 a1 k
 obtain ⟨ih0, ih1⟩ := impl_SourceAt.mono_l k
 unfold impl_SourceAt.f
 repeat' first
  |(with_reducible exact ih0 _ _ _)
  |(with_reducible exact ih1 _ _ _ _)
  |(with_reducible exact impl_isEdition.mono _ _)
  |(with_reducible exact LeO.refl _)
  |(with_reducible exact LeO.none _)
  |(with_reducible refine LeO.ite ?_ ?_)
  |(with_reducible refine LeO.bind ?_ (fun _ => ?_))
  |exact ih0 _ _ _
  |exact ih1 _ _ _ _
  |exact impl_isEdition.mono _ _
  |exact LeO.none _
   | refine LeO.ite ?_ ?_
   | refine LeO.bind ?_ (fun _ => ?_)
set_option maxHeartbeats 8000000 in
set_option maxRecDepth 100000 in
theorem impl_SourceAt.calls (k : Nat) (A0 : Option Addr) (c0 : Nat) (l0 : List (S93)) (a1 : Int) (r1 : Int) (r2 : Int) (r3 : Bool) (w : World) (hr0 : Kd.C k93 w A0 l0.length l0) (hc0 : l0.length ≤ c0) (h : impl_SourceAt.f k l0 a1 = some (r1, r2, r3)) :
 Calls Tryd.prog 33 #[.slice A0 l0.length c0, .int .i64 a1] w fun e w' => e = .returned (.tuple #[.int .i64 r1, .int .i64 r2, .bool r3]) ∧ Below w.heap.size w w' := by
 have hu93 := Tryd.underlying93
 have HR0 := Aside0.mk hr0
 have HC0 := Aside0.mk hc0
 clear hr0 hc0
 have HB := Aside0.mk (Below.refl w.heap.size w)
 have H : ((impl_isEdition.f k l0).bind fun t289 => (if t289 = true then (impl_SourceAt.j0 k l0 a1 (decide (a1 < 0))) else (impl_SourceAt.j0 k l0 a1 true))) = some (r1, r2, r3) := h
 clear h
 have HC3 := Aside0.mk H
 clear H
 go_enter Tryd.func33, Tryd.ntmps33
 go_upto_region 1 with (fail)
 repeat (go_quiet (fail); go_upto_region 1 with (fail))
 go_cut [15] (fun v15 wc => ∃ (kq : Nat) (x15_2 : Bool), v15 = .bool x15_2 ∧ Aside0 (impl_SourceAt.j0 kq l0 a1 x15_2 = some (r1, r2, r3)) ∧ Aside0 (kq ≤ k) ∧ Aside0 (Below w.heap.size w wc))
 case first =>
  have H := HC3.out
  clear HC3
  replace H := Option.bind_eq_some_iff.mp H
  obtain ⟨t289, A40, H⟩ := H
  try dsimp only at H
  have A4 := Aside0.mk A40
  clear A40
  by_cases c5 : t289 = true
  ·subst c5
   have H1 : (impl_SourceAt.j0 k l0 a1 (decide (a1 < 0))) = some (r1, r2, r3) := by rw [if_pos rfl] at H; exact H
   clear H
   have H := H1
   clear H1
   have H' := Aside0.mk H
   clear H
   iterate 6 (go_wp2_with (first|(go_at_call 83; (with_reducible refine (impl_isEdition.calls k _ _ l0 true _ ?side1 ?side2 A4.out).mono ?_);(case side1 => exact (a11_ HR0.out));(case side2 => exact HC0.out); rintro e w6 ⟨rfl, hb⟩; have n0_ := Aside0.mk (below_step (a0_) hb); clear HB; have HB := n0_; clear n0_; (try clear hb); (try clear hb2); (try clear hk); (try clear hi))); try go_quiet (fail))
   go_meet
   case rel => exact ⟨_, (decide (a1 < 0)), (by first | rfl|(simp;done)|(simp [*];done)), H', ⟨by first | omega|exact Nat.le_refl _⟩, ⟨a0_⟩⟩
  ·replace c5 := Bool.eq_false_iff.mpr c5
   subst c5
   have H1 : (impl_SourceAt.j0 k l0 a1 true) = some (r1, r2, r3) := by rw [if_neg (show ¬ (false = true) by decide)] at H; exact H
   clear H
   have H := H1
   clear H1
   have H' := Aside0.mk H
   clear H
   iterate 6 (go_wp2_with (first|(go_at_call 83; (with_reducible refine (impl_isEdition.calls k _ _ l0 false _ ?side1 ?side2 A4.out).mono ?_);(case side1 => exact (a11_ HR0.out));(case side2 => exact HC0.out); rintro e w7 ⟨rfl, hb⟩; have n0_ := Aside0.mk (below_step (a0_) hb); clear HB; have HB := n0_; clear n0_; (try clear hb); (try clear hb2); (try clear hk); (try clear hi))); try go_quiet (fail))
   go_meet
   case rel => exact ⟨_, (true), (by first | rfl|(simp;done)|(simp [*];done)), H', ⟨by first | omega|exact Nat.le_refl _⟩, ⟨a0_⟩⟩
 case rest =>
  clear HC3
  try clear p2
  try clear c3
  try clear c5
  obtain ⟨kq, x15_2, rfl, HA, HJ2, HB⟩ := hcut
  cases kq with
  | zero => exact absurd HA.out (by simp [impl_SourceAt.j0])
  | succ kj2 =>
   have H := HA.out
   clear HA
   simp only [impl_SourceAt.j0] at H
   by_cases c8 : x15_2 = true
   ·subst c8
    have H1 : (some (0, 0, false)) = some (r1, r2, r3) := by rw [if_pos rfl] at H; exact H
    clear H
    have H := H1
    clear H1
    simp only [Option.some.injEq, Prod.mk.injEq] at H
    obtain ⟨rfl, rfl, rfl⟩ := H
    go_wp2
    repeat (go_quiet (fail); try go_wp2)
    go_ret3
    exact ⟨a5_, a0_⟩
   ·replace c8 := Bool.eq_false_iff.mpr c8
    subst c8
    have H1 : (impl_SourceAt.l0 kj2 a1 l0 (l0.length : Int) 0) = some (r1, r2, r3) := by rw [if_neg (show ¬ (false = true) by decide)] at H; exact H
    clear H
    have H := H1
    clear H1
    have H' := Aside0.mk H
    clear H
    go_wp2
    repeat (go_quiet (fail); try go_wp2)
    (try simp only [Act.put, List.setIfInBounds_toArray, List.set_cons_zero, List.set_cons_succ])
    go_loopg [1, 18] kj2 (fun kq v1 v18 w' => ∃ (x1_2 : Int) (x18_2 : Int), v1 = .int .i64 x1_2 ∧ v18 = .int .i64 x18_2 ∧ Aside0 (impl_SourceAt.l0 kq x1_2 l0 (l0.length : Int) x18_2 = some (r1, r2, r3)) ∧ Aside0 (kq ≤ kj2) ∧ Aside0 (Below w.heap.size w w'))
    case atStart => exact ⟨(a1), (0), (by first | rfl|(simp;done)|(simp [*];done)), (by first | rfl|(simp;done)|(simp [*];done)), H', ⟨Nat.le_refl _⟩, ⟨a0_⟩⟩
    case round =>
     clear H'
     try clear p2
     try clear c3
     try clear c5
     try clear c8
     try clear p2
     obtain ⟨x1_2, x18_2, rfl, rfl, HA, HK2, HB⟩ := hrel
     cases gk with
     | zero => exact absurd HA.out (by simp [impl_SourceAt.l0])
     | succ k2 =>
      have H := HA.out
      clear HA
      simp only [impl_SourceAt.l0] at H
      by_cases c9 : x18_2 < (l0.length : Int)
      ·rw [if_pos c9] at H
       have c9b0 : decide (x18_2 < (l0.length : Int)) = true := decide_eq_true c9
       clear c9
       by_cases c10 : 0 ≤ x18_2
       ·rw [if_pos c10] at H
        have c10b0 : decide (0 ≤ x18_2) = true := decide_eq_true c10
        clear c10
        by_cases c11 : x18_2 < (l0.length : Int)
        ·rw [if_pos c11] at H
         have c11b0 : decide (x18_2 < (l0.length : Int)) = true := decide_eq_true c11
         clear c11
         by_cases c12 : x1_2 < (wrap64 (((rd_T93 l0 x18_2).f2) - ((rd_T93 l0 x18_2).f1)))
         ·rw [if_pos c12] at H
          have c12b0 : decide (x1_2 < (wrap64 (((rd_T93 l0 x18_2).f2) - ((rd_T93 l0 x18_2).f1)))) = true := decide_eq_true c12
          clear c12
          simp only [Option.some.injEq, Prod.mk.injEq] at H
          obtain ⟨rfl, rfl, rfl⟩ := H
          have p290 : 0 ≤ (x18_2 : Int) := of_decide_eq_true (a7_)
          have q290 : x18_2 < (l0.length : Int) := of_decide_eq_true (a7_)
          obtain ⟨ad290, e290, hx290_0, hx290_1, hx290_2⟩ := at_T93 HR0.out x18_2 p290 q290
          cases e290
          replace hx290_0 := (HB.out.cell (World.block_lt_of_cell? w _ hx290_0)).trans hx290_0
          replace hx290_1 := (HB.out.cell (World.block_lt_of_cell? w _ hx290_1)).trans hx290_1
          replace hx290_2 := (HB.out.cell (World.block_lt_of_cell? w _ hx290_2)).trans hx290_2
          replace p290 := eq_true p290
          replace q290 := eq_true q290
          iterate 6 (go_wp2_with (first|((with_reducible refine gate_dst (N := 8) rfl ?_); refine box_event ?hg (N := 8) ?hd (cs := #[.int .i64 0, .int .i64 0, .int .i64 0]) (t := 93) ?hr ?_;(case hd => rfl);(case hg => rfl);(case hr => first|(go_simp;done)|(go_simp; rfl)); intro gb291 hg w13 hbox hb; have n0_ := Aside0.mk (below_step (a0_) hb); have n1_ := Aside0.mk (hbox); have n2_ := Aside0.mk ((by rw [hg]; exact (below_size (a0_)) : w.heap.size ≤ gb291)); have n3_ := Aside0.mk ((by rw [hg]; exact (below_size (a0_)) : w.heap.size ≤ gb291)); clear HB; have HB := n0_; have BK291 := n1_; have GW291 := n2_; have GE291 := n3_; clear n0_ n1_ n2_ n3_; clear hb hbox hg; have hcz14_0 : w13.cell? ⟨gb291, 0, none⟩ = some (.int .i64 0) := (blk_cell BK291.out 0).trans rfl; have hcz14_1 : w13.cell? ⟨gb291, 1, none⟩ = some (.int .i64 0) := (blk_cell BK291.out 1).trans rfl; have hcz14_2 : w13.cell? ⟨gb291, 2, none⟩ = some (.int .i64 0) := (blk_cell BK291.out 2).trans rfl; have hfz14_0 := blk_frozen BK291.out 0; have hfz14_1 := blk_frozen BK291.out 1; have hfz14_2 := blk_frozen BK291.out 2)); try go_quiet (fail))
          go_ret3
          exact ⟨a5_, (a8_ GE291.out)⟩
         ·rw [if_neg c12] at H
          have c12b0 : decide (x1_2 < (wrap64 (((rd_T93 l0 x18_2).f2) - ((rd_T93 l0 x18_2).f1)))) = false := decide_eq_false c12
          clear c12
          have H' := Aside0.mk H
          clear H
          have p290 : 0 ≤ (x18_2 : Int) := of_decide_eq_true (a7_)
          have q290 : x18_2 < (l0.length : Int) := of_decide_eq_true (a7_)
          obtain ⟨ad290, e290, hx290_0, hx290_1, hx290_2⟩ := at_T93 HR0.out x18_2 p290 q290
          cases e290
          replace hx290_0 := (HB.out.cell (World.block_lt_of_cell? w _ hx290_0)).trans hx290_0
          replace hx290_1 := (HB.out.cell (World.block_lt_of_cell? w _ hx290_1)).trans hx290_1
          replace hx290_2 := (HB.out.cell (World.block_lt_of_cell? w _ hx290_2)).trans hx290_2
          replace p290 := eq_true p290
          replace q290 := eq_true q290
          iterate 6 (go_wp2_with (first|((with_reducible refine gate_dst (N := 8) rfl ?_); refine box_event ?hg (N := 8) ?hd (cs := #[.int .i64 0, .int .i64 0, .int .i64 0]) (t := 93) ?hr ?_;(case hd => rfl);(case hg => rfl);(case hr => first|(go_simp;done)|(go_simp; rfl)); intro gb291 hg w15 hbox hb; have n0_ := Aside0.mk (below_step (a0_) hb); have n1_ := Aside0.mk (hbox); have n2_ := Aside0.mk ((by rw [hg]; exact (below_size (a0_)) : w.heap.size ≤ gb291)); have n3_ := Aside0.mk ((by rw [hg]; exact (below_size (a0_)) : w.heap.size ≤ gb291)); clear HB; have HB := n0_; have BK291 := n1_; have GW291 := n2_; have GE291 := n3_; clear n0_ n1_ n2_ n3_; clear hb hbox hg; have hcz16_0 : w15.cell? ⟨gb291, 0, none⟩ = some (.int .i64 0) := (blk_cell BK291.out 0).trans rfl; have hcz16_1 : w15.cell? ⟨gb291, 1, none⟩ = some (.int .i64 0) := (blk_cell BK291.out 1).trans rfl; have hcz16_2 : w15.cell? ⟨gb291, 2, none⟩ = some (.int .i64 0) := (blk_cell BK291.out 2).trans rfl; have hfz16_0 := blk_frozen BK291.out 0; have hfz16_1 := blk_frozen BK291.out 1; have hfz16_2 := blk_frozen BK291.out 2)); try go_quiet (fail))
          go_roundg k2
          case measure => have := HJ2.out; have := HK2.out; omega
          case rel => exact ⟨(wrap64 (x1_2 - (wrap64 (((rd_T93 l0 x18_2).f2) - ((rd_T93 l0 x18_2).f1))))), (wrap64 (x18_2 + 1)), (by first | rfl|(simp;done)|(simp [*];done)), (by first | rfl|(simp;done)|(simp [*];done)), H', ⟨by have := HJ2.out; have := HK2.out; omega⟩, ⟨(a8_ GE291.out)⟩⟩
        ·rw [if_neg c11] at H
         exact absurd H (by simp)
       ·rw [if_neg c10] at H
        exact absurd H (by simp)
      ·rw [if_neg c9] at H
       have c9b0 : decide (x18_2 < (l0.length : Int)) = false := decide_eq_false c9
       clear c9
       simp only [Option.some.injEq, Prod.mk.injEq] at H
       obtain ⟨rfl, rfl, rfl⟩ := H
       go_wp2
       repeat (go_quiet (fail); try go_wp2)
       go_ret3
       exact ⟨a5_, a0_⟩

/-! ### spec_edSource: function 90 -/
def spec_edSource.l0 : Nat → List (S93) → Int → Int → Option (Int × Int)
 | 0, _, _, _ => none
 | k + 1, x0, x1, x6 => if 0 ≤ x6 then (if x6 < (x0.length : Int) then (if x1 ≥ (wrap64 (((rd_T93 x0 x6).f2) - ((rd_T93 x0 x6).f1))) then (spec_edSource.l0 k x0 (wrap64 (x1 - (wrap64 (((rd_T93 x0 x6).f2) - ((rd_T93 x0 x6).f1))))) (wrap64 (x6 + 1))) else (some (x6, wrap64 (((rd_T93 x0 x6).f1) + x1)))) else (none)) else (none)
def spec_edSource.f (k : Nat) (l0 : List (S93)) (a1 : Int) : Option (Int × Int) := spec_edSource.l0 k l0 a1 0
theorem spec_edSource.mono_l : ∀ k, (∀ y0 y1 y2, LeO (spec_edSource.l0 k y0 y1 y2) (spec_edSource.l0 (k + 1) y0 y1 y2))
 | 0 => fun _ _ _ r h => by simp [spec_edSource.l0] at h
 | k + 1 => by
  have ih0 := spec_edSource.mono_l k
  ·intro y0 y1 y2
   unfold spec_edSource.l0
   repeat' first
   |(with_reducible exact ih0 _ _ _)
   |(with_reducible exact LeO.refl _)
   |(with_reducible exact LeO.none _)
   |(with_reducible refine LeO.ite ?_ ?_)
   |(with_reducible refine LeO.bind ?_ (fun _ => ?_))
   |exact ih0 _ _ _
   |exact LeO.none _
    | refine LeO.ite ?_ ?_
    | refine LeO.bind ?_ (fun _ => ?_)
theorem spec_edSource.mono : ∀ a0 a1 k, LeO (spec_edSource.f k a0 a1) (spec_edSource.f (k + 1) a0 a1) := by
 intro a0 a1 k
 have ih0 := spec_edSource.mono_l k
 unfold spec_edSource.f
 repeat' first
  |(with_reducible exact ih0 _ _ _)
  |(with_reducible exact LeO.refl _)
  |(with_reducible exact LeO.none _)
  |(with_reducible refine LeO.ite ?_ ?_)
  |(with_reducible refine LeO.bind ?_ (fun _ => ?_))
  |exact ih0 _ _ _
  |exact LeO.none _
   | refine LeO.ite ?_ ?_
   | refine LeO.bind ?_ (fun _ => ?_)
set_option maxHeartbeats 8000000 in
set_option maxRecDepth 100000 in
theorem spec_edSource.calls (k : Nat) (A0 : Option Addr) (c0 : Nat) (l0 : List (S93)) (a1 : Int) (r1 : Int) (r2 : Int) (w : World) (hr0 : Kd.C k93 w A0 l0.length l0) (hc0 : l0.length ≤ c0) (h : spec_edSource.f k l0 a1 = some (r1, r2)) :
 Calls Tryd.prog 90 #[.slice A0 l0.length c0, .int .i64 a1] w fun e w' => e = .returned (.tuple #[.int .i64 r1, .int .i64 r2]) ∧ Drawn0 w w' := by
 have HR0 := Aside0.mk hr0
 have HC0 := Aside0.mk hc0
 clear hr0 hc0
 have H : (spec_edSource.l0 k l0 a1 0) = some (r1, r2) := h
 clear h
 have H' := Aside0.mk H
 clear H
 go_enter Tryd.func90, Tryd.ntmps90
 go_wp2
 repeat (go_quiet (fail); try go_wp2)
 (try simp only [Act.put, List.setIfInBounds_toArray, List.set_cons_zero, List.set_cons_succ])
 go_loopg [1, 6] k (fun kq v1 v6 w' => ∃ (x1_1 : Int) (x6_1 : Int), v1 = .int .i64 x1_1 ∧ v6 = .int .i64 x6_1 ∧ Aside0 (spec_edSource.l0 kq l0 x1_1 x6_1 = some (r1, r2)) ∧ Aside0 (kq ≤ k) ∧ Drawn0 w w')
 case atStart => exact ⟨(a1), (0), (by first | rfl|(simp;done)|(simp [*];done)), (by first | rfl|(simp;done)|(simp [*];done)), H', ⟨Nat.le_refl _⟩, a18_⟩
 case round =>
  clear H'
  try clear p2
  obtain ⟨x1_1, x6_1, rfl, rfl, HA, HK1, ⟨m1, rfl⟩⟩ := hrel
  cases gk with
  | zero => exact absurd HA.out (by simp [spec_edSource.l0])
  | succ k1 =>
   have H := HA.out
   clear HA
   simp only [spec_edSource.l0] at H
   by_cases c3 : 0 ≤ x6_1
   ·rw [if_pos c3] at H
    have c3b0 : decide (0 ≤ x6_1) = true := decide_eq_true c3
    clear c3
    by_cases c4 : x6_1 < (l0.length : Int)
    ·rw [if_pos c4] at H
     have c4b0 : decide (x6_1 < (l0.length : Int)) = true := decide_eq_true c4
     clear c4
     by_cases c5 : x1_1 ≥ (wrap64 (((rd_T93 l0 x6_1).f2) - ((rd_T93 l0 x6_1).f1)))
     ·rw [if_pos c5] at H
      have c5b0 : decide ((wrap64 (((rd_T93 l0 x6_1).f2) - ((rd_T93 l0 x6_1).f1))) ≤ x1_1) = true := decide_eq_true c5
      clear c5
      have H' := Aside0.mk H
      clear H
      have p292 : 0 ≤ (x6_1 : Int) := of_decide_eq_true (a7_)
      have q292 : x6_1 < (l0.length : Int) := of_decide_eq_true (a7_)
      obtain ⟨ad292, e292, hx292_0, hx292_1, hx292_2⟩ := at_T93 HR0.out x6_1 p292 q292
      cases e292
      replace p292 := eq_true p292
      replace q292 := eq_true q292
      have p293 : 0 ≤ (x6_1 : Int) := of_decide_eq_true (a7_)
      have q293 : x6_1 < (l0.length : Int) := of_decide_eq_true (a7_)
      obtain ⟨ad293, e293, hx293_0, hx293_1, hx293_2⟩ := at_T93 HR0.out x6_1 p293 q293
      obtain rfl : ad292 = ad293 := (by injection e293)
      replace p293 := eq_true p293
      replace q293 := eq_true q293
      have p294 : 0 ≤ (x6_1 : Int) := of_decide_eq_true (a7_)
      have q294 : x6_1 < (l0.length : Int) := of_decide_eq_true (a7_)
      obtain ⟨ad294, e294, hx294_0, hx294_1, hx294_2⟩ := at_T93 HR0.out x6_1 p294 q294
      obtain rfl : ad292 = ad294 := (by injection e294)
      replace p294 := eq_true p294
      replace q294 := eq_true q294
      have p295 : 0 ≤ (x6_1 : Int) := of_decide_eq_true (a7_)
      have q295 : x6_1 < (l0.length : Int) := of_decide_eq_true (a7_)
      obtain ⟨ad295, e295, hx295_0, hx295_1, hx295_2⟩ := at_T93 HR0.out x6_1 p295 q295
      obtain rfl : ad292 = ad295 := (by injection e295)
      replace p295 := eq_true p295
      replace q295 := eq_true q295
      go_wp2
      repeat (go_quiet (fail); try go_wp2)
      go_roundg k1
      case measure => have := HK1.out; omega
      case rel => exact ⟨(wrap64 (x1_1 - (wrap64 (((rd_T93 l0 x6_1).f2) - ((rd_T93 l0 x6_1).f1))))), (wrap64 (x6_1 + 1)), (by first | rfl|(simp;done)|(simp [*];done)), (by first | rfl|(simp;done)|(simp [*];done)), H', ⟨by have := HK1.out; omega⟩, a18_⟩
     ·rw [if_neg c5] at H
      have c5b0 : decide ((wrap64 (((rd_T93 l0 x6_1).f2) - ((rd_T93 l0 x6_1).f1))) ≤ x1_1) = false := decide_eq_false c5
      clear c5
      simp only [Option.some.injEq, Prod.mk.injEq] at H
      obtain ⟨rfl, rfl⟩ := H
      have p292 : 0 ≤ (x6_1 : Int) := of_decide_eq_true (a7_)
      have q292 : x6_1 < (l0.length : Int) := of_decide_eq_true (a7_)
      obtain ⟨ad292, e292, hx292_0, hx292_1, hx292_2⟩ := at_T93 HR0.out x6_1 p292 q292
      cases e292
      replace p292 := eq_true p292
      replace q292 := eq_true q292
      have p293 : 0 ≤ (x6_1 : Int) := of_decide_eq_true (a7_)
      have q293 : x6_1 < (l0.length : Int) := of_decide_eq_true (a7_)
      obtain ⟨ad293, e293, hx293_0, hx293_1, hx293_2⟩ := at_T93 HR0.out x6_1 p293 q293
      obtain rfl : ad292 = ad293 := (by injection e293)
      replace p293 := eq_true p293
      replace q293 := eq_true q293
      have p296 : 0 ≤ (x6_1 : Int) := of_decide_eq_true (a7_)
      have q296 : x6_1 < (l0.length : Int) := of_decide_eq_true (a7_)
      obtain ⟨ad296, e296, hx296_0, hx296_1, hx296_2⟩ := at_T93 HR0.out x6_1 p296 q296
      obtain rfl : ad292 = ad296 := (by injection e296)
      replace p296 := eq_true p296
      replace q296 := eq_true q296
      go_wp2
      repeat (go_quiet (fail); try go_wp2)
      go_ret2
      exact ⟨by first | rfl|(simp;done)|(simp [*];done), a18_⟩
    ·rw [if_neg c4] at H
     exact absurd H (by simp)
   ·rw [if_neg c3] at H
    exact absurd H (by simp)

/-! ### spec_SourceAt: function 34 -/
def spec_SourceAt.f (k : Nat) (l0 : List (S93)) (a1 : Int) : Option (Int × Int × Bool) := (spec_edHas.f k l0 a1).bind fun t297 => (if t297 = true then ((spec_edSource.f k l0 a1).bind fun bt298 => (if 0 ≤ bt298.1 then (if bt298.1 < (l0.length : Int) then (some ((rd_T93 l0 bt298.1).f0, bt298.2, true)) else (none)) else (none))) else (some (0, 0, false)))
theorem spec_SourceAt.mono : ∀ a0 a1 k, LeO (spec_SourceAt.f k a0 a1) (spec_SourceAt.f (k + 1) a0 a1) := by
 intro a0 a1 k
 unfold spec_SourceAt.f
 repeat' first
  |(with_reducible exact spec_edHas.mono _ _ _)
  |(with_reducible exact spec_edSource.mono _ _ _)
  |(with_reducible exact LeO.refl _)
  |(with_reducible exact LeO.none _)
  |(with_reducible refine LeO.ite ?_ ?_)
  |(with_reducible refine LeO.bind ?_ (fun _ => ?_))
  |exact spec_edHas.mono _ _ _
  |exact spec_edSource.mono _ _ _
  |exact LeO.none _
   | refine LeO.ite ?_ ?_
   | refine LeO.bind ?_ (fun _ => ?_)
set_option maxHeartbeats 8000000 in
set_option maxRecDepth 100000 in
theorem spec_SourceAt.calls (k : Nat) (A0 : Option Addr) (c0 : Nat) (l0 : List (S93)) (a1 : Int) (r1 : Int) (r2 : Int) (r3 : Bool) (w : World) (hr0 : Kd.C k93 w A0 l0.length l0) (hc0 : l0.length ≤ c0) (h : spec_SourceAt.f k l0 a1 = some (r1, r2, r3)) :
 Calls Tryd.prog 34 #[.slice A0 l0.length c0, .int .i64 a1] w fun e w' => e = .returned (.tuple #[.int .i64 r1, .int .i64 r2, .bool r3]) ∧ Below w.heap.size w w' := by
 have HR0 := Aside0.mk hr0
 have HC0 := Aside0.mk hc0
 clear hr0 hc0
 have HB := Aside0.mk (Below.refl w.heap.size w)
 have H : ((spec_edHas.f k l0 a1).bind fun t297 => (if t297 = true then ((spec_edSource.f k l0 a1).bind fun bt298 => (if 0 ≤ bt298.1 then (if bt298.1 < (l0.length : Int) then (some ((rd_T93 l0 bt298.1).f0, bt298.2, true)) else (none)) else (none))) else (some (0, 0, false)))) = some (r1, r2, r3) := h
 clear h
 replace H := Option.bind_eq_some_iff.mp H
 obtain ⟨t297, A30, H⟩ := H
 try dsimp only at H
 have A3 := Aside0.mk A30
 clear A30
 by_cases c4 : t297 = true
 ·subst c4
  have H1 : ((spec_edSource.f k l0 a1).bind fun bt298 => (if 0 ≤ bt298.1 then (if bt298.1 < (l0.length : Int) then (some ((rd_T93 l0 bt298.1).f0, bt298.2, true)) else (none)) else (none))) = some (r1, r2, r3) := by rw [if_pos rfl] at H; exact H
  clear H
  have H := H1
  clear H1
  replace H := Option.bind_eq_some_iff.mp H
  obtain ⟨⟨t298, t299⟩, A50, H⟩ := H
  try dsimp only at H
  have A5 := Aside0.mk A50
  clear A50
  by_cases c6 : 0 ≤ t298
  ·rw [if_pos c6] at H
   have c6b0 : decide (0 ≤ t298) = true := decide_eq_true c6
   clear c6
   by_cases c7 : t298 < (l0.length : Int)
   ·rw [if_pos c7] at H
    have c7b0 : decide (t298 < (l0.length : Int)) = true := decide_eq_true c7
    clear c7
    simp only [Option.some.injEq, Prod.mk.injEq] at H
    obtain ⟨rfl, rfl, rfl⟩ := H
    go_enter Tryd.func34, Tryd.ntmps34
    go_wp2_with (first|((with_reducible refine gate_callee (f := 86) rfl ?_); refine goesL_ (some 11) rfl rfl Tryd.func86 (by kernel_rfl) rfl #[.slice A0 l0.length c0, .int .i64 a1] rfl (by (try simp only [List.map_toArray, List.map_cons, List.map_nil]); first | done | rfl|(simp only [List.length_drop, List.length_take]; rfl)) ?_; (with_reducible refine (spec_edHas.calls k _ _ l0 a1 true _ ?side1 ?side2 A3.out).mono ?_);(case side1 => exact (a10_ HR0.out));(case side2 => exact HC0.out); rintro e w8 ⟨rfl, hb⟩; refine ⟨_, rfl, ?_⟩; have n0_ := Aside0.mk (below_step (a0_) hb); clear HB; have HB := n0_; clear n0_; (try clear hb); (try clear hb2); (try clear hk); (try clear hi))|((with_reducible refine gate_callee (f := 90) rfl ?_); refine goesL_ (some 16) rfl rfl Tryd.func90 (by kernel_rfl) rfl #[.slice A0 l0.length c0, .int .i64 a1] rfl (by (try simp only [List.map_toArray, List.map_cons, List.map_nil]); first | done | rfl|(simp only [List.length_drop, List.length_take]; rfl)) ?_; (with_reducible refine (spec_edSource.calls k _ _ l0 a1 t298 t299 _ ?side1 ?side2 A5.out).mono ?_);(case side1 => exact (a11_ HR0.out));(case side2 => exact HC0.out); rintro e w' ⟨rfl, ⟨nd, rfl⟩⟩; refine ⟨_, rfl, ?_⟩; have p300 : 0 ≤ (t298 : Int) := of_decide_eq_true (a7_); have q300 : t298 < (l0.length : Int) := of_decide_eq_true (a7_); obtain ⟨ad300, e300, hx300_0, hx300_1, hx300_2⟩ := at_T93 HR0.out t298 p300 q300; cases e300; replace hx300_0 := (HB.out.cell (World.block_lt_of_cell? w _ hx300_0)).trans hx300_0; replace hx300_1 := (HB.out.cell (World.block_lt_of_cell? w _ hx300_1)).trans hx300_1; replace hx300_2 := (HB.out.cell (World.block_lt_of_cell? w _ hx300_2)).trans hx300_2; replace p300 := eq_true p300; replace q300 := eq_true q300))
    go_ret3
    exact ⟨a5_, a0_⟩
   ·rw [if_neg c7] at H
    exact absurd H (by simp)
  ·rw [if_neg c6] at H
   exact absurd H (by simp)
 ·replace c4 := Bool.eq_false_iff.mpr c4
  subst c4
  have H1 : (some (0, 0, false)) = some (r1, r2, r3) := by rw [if_neg (show ¬ (false = true) by decide)] at H; exact H
  clear H
  have H := H1
  clear H1
  simp only [Option.some.injEq, Prod.mk.injEq] at H
  obtain ⟨rfl, rfl, rfl⟩ := H
  go_enter Tryd.func34, Tryd.ntmps34
  go_wp2_with (first|((with_reducible refine gate_callee (f := 86) rfl ?_); refine goesL_ (some 11) rfl rfl Tryd.func86 (by kernel_rfl) rfl #[.slice A0 l0.length c0, .int .i64 a1] rfl (by (try simp only [List.map_toArray, List.map_cons, List.map_nil]); first | done | rfl|(simp only [List.length_drop, List.length_take]; rfl)) ?_; (with_reducible refine (spec_edHas.calls k _ _ l0 a1 false _ ?side1 ?side2 A3.out).mono ?_);(case side1 => exact (a10_ HR0.out));(case side2 => exact HC0.out); rintro e w9 ⟨rfl, hb⟩; refine ⟨_, rfl, ?_⟩; have n0_ := Aside0.mk (below_step (a0_) hb); clear HB; have HB := n0_; clear n0_; (try clear hb); (try clear hb2); (try clear hk); (try clear hi)))
  go_ret3
  exact ⟨a5_, a0_⟩

/-! ### spec_DrawLengthOfEdition: function 91 -/
def spec_DrawLengthOfEdition.f (k : Nat) (l0 : List Int) : Option ((List (S93))) := (spec_l1Cur_parts.f k l0 0 0 3).bind fun bt302 => (some bt302.1)
theorem spec_DrawLengthOfEdition.mono : ∀ a0 k, LeO (spec_DrawLengthOfEdition.f k a0) (spec_DrawLengthOfEdition.f (k + 1) a0) := by
 intro a0 k
 unfold spec_DrawLengthOfEdition.f
 repeat' first
  |(with_reducible exact spec_l1Cur_parts.mono _ _ _ _ _)
  |(with_reducible exact LeO.refl _)
  |(with_reducible exact LeO.none _)
  |(with_reducible refine LeO.ite ?_ ?_)
  |(with_reducible refine LeO.bind ?_ (fun _ => ?_))
  |exact spec_l1Cur_parts.mono _ _ _ _ _
  |exact LeO.none _
   | refine LeO.ite ?_ ?_
   | refine LeO.bind ?_ (fun _ => ?_)
set_option maxHeartbeats 8000000 in
set_option maxRecDepth 100000 in
theorem spec_DrawLengthOfEdition.calls (k : Nat) (A0 : Option Addr) (c0 : Nat) (l0 : List Int) (r : List (S93)) (w : World) (hr0 : Kd.C (Kd.int .u8) w A0 l0.length l0) (hc0 : l0.length ≤ c0) (h : spec_DrawLengthOfEdition.f k l0 = some r) :
 Calls Tryd.prog 91 #[.slice A0 l0.length c0] w fun e w' => ∃ v0_ : Value, e = .returned (v0_) ∧ Kd.R k93 93 w' w.heap.size (fun _ => True) v0_ r ∧ Below w.heap.size w w' := by
 have hu66 := Tryd.underlying66
 have HR0 := Aside0.mk hr0
 have HC0 := Aside0.mk hc0
 clear hr0 hc0
 have HB := Aside0.mk (Below.refl w.heap.size w)
 have H : ((spec_l1Cur_parts.f k l0 0 0 3).bind fun bt302 => (some bt302.1)) = some r := h
 clear h
 replace H := Option.bind_eq_some_iff.mp H
 obtain ⟨⟨t302, t305, t306⟩, A20, H⟩ := H
 try dsimp only at H
 have A2 := Aside0.mk A20
 clear A20
 obtain rfl := Option.some.inj H
 go_enter Tryd.func91, Tryd.ntmps91
 go_wp2_with (first|((with_reducible refine gate_dst (N := 6) rfl ?_); refine box_event ?hg (N := 6) ?hd (cs := #[.slice A0 l0.length c0, .int .i64 0, .int .u64 0]) (t := 66) ?hr ?_;(case hd => rfl);(case hg => rfl);(case hr => first|(go_simp;done)|(go_simp; rfl)); intro g301 hg w3 hbox hb; have n0_ := Aside0.mk (below_step (a0_) hb); have n1_ := Aside0.mk ((⟨_, _, hbox, by rw [hg]; exact (below_size (a0_)), HR0.out⟩ : IsS66 w w3 g301 l0 0 0)); clear HB; have HB := n0_; have HI301 := n1_; clear n0_ n1_; clear hb hbox hg)|((with_reducible refine gate_callee (f := 79) rfl ?_); refine goesL_ (some 8) rfl rfl Tryd.func79 (by kernel_rfl) rfl #[.pointer (some ⟨g301, 0, none⟩), .int .i64 3] rfl (by (try simp only [List.map_toArray, List.map_cons, List.map_nil]); first | done | rfl|(simp only [List.length_drop, List.length_take]; rfl)) ?_; (with_reducible refine (spec_l1Cur_parts.calls k g301 l0 0 0 3 t302 t305 t306 w _ ?side1 ?side2 A2.out).mono ?_);(case side1 => exact (a1_ HI301.out));(case side2 => exact (a3_ HI301.out)); rintro e w4 ⟨v303, rfl, ho0, hi, hb, hk⟩; refine ⟨_, rfl, ?_⟩; have n0_ := Aside0.mk (Kd.R_lower ho0 (below_size ((a3_ HI301.out)))); have n1_ := Aside0.mk (hb); have n2_ := Aside0.mk (hi); clear HB; clear HI301; have HO304 := n0_; have HB := n1_; have HI301 := n2_; clear n0_ n1_ n2_; (try clear hb); (try clear hb2); (try clear hk); (try clear hi); (try clear ho0)))
 go_ret
 exact ⟨_, a5_, (a2_ HO304.out), (a3_ HI301.out)⟩

/-! ### spec_DrawUsedSources: function 35 -/
def spec_DrawUsedSources.f (k : Nat) (l0 : List Int) : Option ((List (S93))) := (spec_DrawLengthOfEdition.f k l0).bind fun t307 => (some t307)
theorem spec_DrawUsedSources.mono : ∀ a0 k, LeO (spec_DrawUsedSources.f k a0) (spec_DrawUsedSources.f (k + 1) a0) := by
 intro a0 k
 unfold spec_DrawUsedSources.f
 repeat' first
  |(with_reducible exact spec_DrawLengthOfEdition.mono _ _)
  |(with_reducible exact LeO.refl _)
  |(with_reducible exact LeO.none _)
  |(with_reducible refine LeO.ite ?_ ?_)
  |(with_reducible refine LeO.bind ?_ (fun _ => ?_))
  |exact spec_DrawLengthOfEdition.mono _ _
  |exact LeO.none _
   | refine LeO.ite ?_ ?_
   | refine LeO.bind ?_ (fun _ => ?_)
set_option maxHeartbeats 8000000 in
set_option maxRecDepth 100000 in
theorem spec_DrawUsedSources.calls (k : Nat) (A0 : Option Addr) (c0 : Nat) (l0 : List Int) (r : List (S93)) (w : World) (hr0 : Kd.C (Kd.int .u8) w A0 l0.length l0) (hc0 : l0.length ≤ c0) (h : spec_DrawUsedSources.f k l0 = some r) :
 Calls Tryd.prog 35 #[.slice A0 l0.length c0] w fun e w' => ∃ v0_ : Value, e = .returned (v0_) ∧ Kd.R k93 93 w' w.heap.size (fun _ => True) v0_ r ∧ Below w.heap.size w w' := by
 have HR0 := Aside0.mk hr0
 have HC0 := Aside0.mk hc0
 clear hr0 hc0
 have HB := Aside0.mk (Below.refl w.heap.size w)
 have H : ((spec_DrawLengthOfEdition.f k l0).bind fun t307 => (some t307)) = some r := h
 clear h
 replace H := Option.bind_eq_some_iff.mp H
 obtain ⟨t307, A20, H⟩ := H
 try dsimp only at H
 have A2 := Aside0.mk A20
 clear A20
 obtain rfl := Option.some.inj H
 go_enter Tryd.func35, Tryd.ntmps35
 go_wp2_with (first|((with_reducible refine gate_callee (f := 91) rfl ?_); refine goesL_ (some 4) rfl rfl Tryd.func91 (by kernel_rfl) rfl #[.slice A0 l0.length c0] rfl (by (try simp only [List.map_toArray, List.map_cons, List.map_nil]); first | done | rfl|(simp only [List.length_drop, List.length_take]; rfl)) ?_; (with_reducible refine (spec_DrawLengthOfEdition.calls k _ _ l0 t307 _ ?side1 ?side2 A2.out).mono ?_);(case side1 => exact (a10_ HR0.out));(case side2 => exact HC0.out); rintro e w3 ⟨v308, rfl, ho0, hb⟩; refine ⟨_, rfl, ?_⟩; have n0_ := Aside0.mk (Kd.R_lower ho0 (below_size (a0_))); have n1_ := Aside0.mk (below_step (a0_) hb); clear HB; have HO309 := n0_; have HB := n1_; clear n0_ n1_; (try clear hb); (try clear hb2); (try clear hk); (try clear hi); (try clear ho0)))
 go_ret
 exact ⟨_, a5_, (a2_ HO309.out), a0_⟩

/-! ### slices_Clone_int_int: function 113 (by hand: a copy of a slice) -/
def slices_Clone_int_int.f (l0 : List Int) : Option (List Int) := if l0.length < 1000000000 then some l0 else none
theorem slices_Clone_int_int.info : (Tryd.prog.info? 3).map (fun i => (i.zero, i.size, i.bytes)) = some (some (.int .i64 0), 1, 8) := by kernel_rfl
set_option maxHeartbeats 8000000 in
set_option maxRecDepth 100000 in
theorem slices_Clone_int_int.calls (A0 : Option Addr) (c0 : Nat) (l0 : List Int) (r : List Int) (w : World) (hr0 : Kd.C (Kd.int .i64) w A0 l0.length l0) (hc0 : l0.length ≤ c0) (h : slices_Clone_int_int.f l0 = some r) :
 Calls Tryd.prog 113 #[.slice A0 l0.length c0] w fun e w' => ∃ v0_ : Value, e = .returned (v0_) ∧ Kd.R (Kd.int .i64) 3 w' w.heap.size (fun _ => True) v0_ r ∧ Below w.heap.size w w' := by
 unfold slices_Clone_int_int.f at h
 by_cases hlen : l0.length < 1000000000
 ·rw [if_pos hlen] at h
  obtain rfl := Option.some.inj h
  clear h
  cases A0 with
  | none =>
   have hz : l0 = [] := by
    rcases Nat.eq_zero_or_pos l0.length with h0 | h0
    ·exact List.eq_nil_of_length_eq_zero h0
    ·obtain ⟨ad, e, _⟩ := hr0.2.2 h0
     cases e
   subst hz
   have hq : ∀ W : World, (binOp .eql 28 (.slice none 0 c0) (.slice none 0 0)).run Tryd.prog W = .ok (.bool true) W := fun W => Go.run_eql_slice_nil W 28 3 none 0 c0 Tryd.underlying28
   clear hr0 hc0 hlen
   go_enter Tryd.func113, Tryd.ntmps113
   go_wp2
   go_ret
   exact ⟨_, rfl, Kd.R_nil _ _ _ _ _, Below.refl _ _⟩
  | some ad =>
   have hq : ∀ W : World, (binOp .eql 28 (.slice (some ad) l0.length c0) (.slice none 0 0)).run Tryd.prog W = .ok (.bool false) W := fun W => Go.run_eql_slice_nil W 28 3 (some ad) l0.length c0 Tryd.underlying28
   have HR0 := Aside0.mk hr0
   have HC0 := Aside0.mk hc0
   have HL := Aside0.mk hlen
   clear hr0 hc0 hlen
   have HB := Aside0.mk (Below.refl w.heap.size w)
   go_enter Tryd.func113, Tryd.ntmps113
   go_wp2_with (first|((with_reducible refine gate_dst (N := 5) rfl ?_); refine Kd.R_lit (Kd.int .i64) _ 3 ?hg (N := 5) ?hd (xs := ([] : List Int)) (inner := []) (ok := fun _ => True) (okp := fun _ => True) ?hr ?hp (fun _ hk => hk) trivial (Below.refl _ _) (Nat.le_refl _) (by simp) ?_;(case hd => rfl);(case hg => rfl);(case hr => first|(go_simp;done)|(go_simp; rfl));(case hp => exact (Reps.none _ _)); intro v112 w3 ho4 hb hg_ hnew_; clear hg_ hnew_; have n0_ := Aside0.mk (Kd.R_lower ho4 (below_size (a0_))); have n1_ := Aside0.mk (below_step (a0_) hb); clear HB; have HO113 := n0_; have HB := n1_; clear n0_ n1_; clear hb ho4)|((with_reducible refine gate_builtin (b := .append) (xs := #[.tmp 5, .tmp 6]) rfl ?_); at_builtin; refine Kd.R_append_rows (Kd.int .i64) (w0 := w) w.heap.size rfl (.tmp 5) (.tmp 6) 28 3 (.int .i64 0) 8 rfl Tryd.underlying28 slices_Clone_int_int.info rfl (by decide) (by omega) v112 [] l0 _ _ _ (fun _ => True) (fun _ => False) rfl rfl ?aO ?aR (fun _ _ h => h) (fun _ h => h.elim) ?aF ?aB ?aS ?aL ?_;(case aR => exact (a11_ HR0.out));(case aB => exact (a0_));(case aF => exact (fun _ _ => trivial));(case aO => exact ((a2_ HO113.out)));(case aS => exact (below_size (a0_)));(case aL => have := HL.out; simp only [List.length_nil]; omega); intro v115 w5 ho hb hg hat; have n0_ := Aside0.mk (hb); have n1_ := Aside0.mk (ho); clear HB; clear HO113; have HB := n0_; have HO116 := n1_; clear n0_ n1_; clear ho hb hg hat))
   go_ret
   refine ⟨_, rfl, ?_, a0_⟩
   have HX := HO116.out
   rw [List.nil_append] at HX
   exact (by (with_reducible repeat (first|apply Kd.R_alloc|apply Kd.R_drewN|apply Kd.R_drew)); exact HX)
 ·rw [if_neg hlen] at h
  exact absurd h (by simp)


/-! ### cmp_isNaN_int: function 154 -/
def cmp_isNaN_int.f (a0 : Int) : Option (Bool) := some (a0 != a0)
set_option maxHeartbeats 8000000 in
set_option maxRecDepth 100000 in
theorem cmp_isNaN_int.calls (a0 : Int) (r : Bool) (w : World) (h : cmp_isNaN_int.f a0 = some r) :
 Calls Tryd.prog 154 #[.int .i64 a0] w fun e w' => e = .returned (.bool r) ∧ Drawn0 w w' := by
 have H : (some (a0 != a0)) = some r := h
 clear h
 obtain rfl := Option.some.inj H
 go_enter Tryd.func154, Tryd.ntmps154
 go_wp2
 go_ret
 exact ⟨by first | rfl|(simp;done)|(simp [*];done), a18_⟩

/-! ### cmp_Less_int: function 140 -/
def cmp_Less_int.f (a0 : Int) (a1 : Int) : Option (Bool) := (cmp_isNaN_int.f a0).bind fun t310 => (if t310 = true then ((cmp_isNaN_int.f a1).bind fun t311 => (if t311 = true then (some (decide (a0 < a1))) else (some true))) else (some (decide (a0 < a1))))
set_option maxHeartbeats 8000000 in
set_option maxRecDepth 100000 in
theorem cmp_Less_int.calls (a0 : Int) (a1 : Int) (r : Bool) (w : World) (h : cmp_Less_int.f a0 a1 = some r) :
 Calls Tryd.prog 140 #[.int .i64 a0, .int .i64 a1] w fun e w' => e = .returned (.bool r) ∧ Drawn0 w w' := by
 have H : ((cmp_isNaN_int.f a0).bind fun t310 => (if t310 = true then ((cmp_isNaN_int.f a1).bind fun t311 => (if t311 = true then (some (decide (a0 < a1))) else (some true))) else (some (decide (a0 < a1))))) = some r := h
 clear h
 replace H := Option.bind_eq_some_iff.mp H
 obtain ⟨t310, A30, H⟩ := H
 try dsimp only at H
 have A3 := Aside0.mk A30
 clear A30
 by_cases c4 : t310 = true
 ·subst c4
  have H1 : ((cmp_isNaN_int.f a1).bind fun t311 => (if t311 = true then (some (decide (a0 < a1))) else (some true))) = some r := by rw [if_pos rfl] at H; exact H
  clear H
  have H := H1
  clear H1
  replace H := Option.bind_eq_some_iff.mp H
  obtain ⟨t311, A50, H⟩ := H
  try dsimp only at H
  have A5 := Aside0.mk A50
  clear A50
  by_cases c6 : t311 = true
  ·subst c6
   have H1 : (some (decide (a0 < a1))) = some r := by rw [if_pos rfl] at H; exact H
   clear H
   have H := H1
   clear H1
   obtain rfl := Option.some.inj H
   go_enter Tryd.func140, Tryd.ntmps140
   go_wp2_with (first|((with_reducible refine gate_callee (f := 154) rfl ?_); refine goesL_ (some 6) rfl rfl Tryd.func154 (by kernel_rfl) rfl #[.int .i64 a0] rfl (by (try simp only [List.map_toArray, List.map_cons, List.map_nil]); first | done | rfl|(simp only [List.length_drop, List.length_take]; rfl)) ?_; (with_reducible refine (cmp_isNaN_int.calls a0 true _ A3.out).mono ?_); rintro e w' ⟨rfl, ⟨nd, rfl⟩⟩; refine ⟨_, rfl, ?_⟩)|(go_at_call 154; (with_reducible refine (cmp_isNaN_int.calls a1 true _ A5.out).mono ?_); rintro e w' ⟨rfl, ⟨nd, rfl⟩⟩))
   go_ret
   exact ⟨by first | rfl|(simp;done)|(simp [*];done), a18_⟩
  ·replace c6 := Bool.eq_false_iff.mpr c6
   subst c6
   have H1 : (some true) = some r := by rw [if_neg (show ¬ (false = true) by decide)] at H; exact H
   clear H
   have H := H1
   clear H1
   obtain rfl := Option.some.inj H
   go_enter Tryd.func140, Tryd.ntmps140
   go_wp2_with (first|((with_reducible refine gate_callee (f := 154) rfl ?_); refine goesL_ (some 6) rfl rfl Tryd.func154 (by kernel_rfl) rfl #[.int .i64 a0] rfl (by (try simp only [List.map_toArray, List.map_cons, List.map_nil]); first | done | rfl|(simp only [List.length_drop, List.length_take]; rfl)) ?_; (with_reducible refine (cmp_isNaN_int.calls a0 true _ A3.out).mono ?_); rintro e w' ⟨rfl, ⟨nd, rfl⟩⟩; refine ⟨_, rfl, ?_⟩)|(go_at_call 154; (with_reducible refine (cmp_isNaN_int.calls a1 false _ A5.out).mono ?_); rintro e w' ⟨rfl, ⟨nd, rfl⟩⟩))
   go_ret
   exact ⟨by first | rfl|(simp;done)|(simp [*];done), a18_⟩
 ·replace c4 := Bool.eq_false_iff.mpr c4
  subst c4
  have H1 : (some (decide (a0 < a1))) = some r := by rw [if_neg (show ¬ (false = true) by decide)] at H; exact H
  clear H
  have H := H1
  clear H1
  obtain rfl := Option.some.inj H
  go_enter Tryd.func140, Tryd.ntmps140
  go_wp2_with (first|((with_reducible refine gate_callee (f := 154) rfl ?_); refine goesL_ (some 6) rfl rfl Tryd.func154 (by kernel_rfl) rfl #[.int .i64 a0] rfl (by (try simp only [List.map_toArray, List.map_cons, List.map_nil]); first | done | rfl|(simp only [List.length_drop, List.length_take]; rfl)) ?_; (with_reducible refine (cmp_isNaN_int.calls a0 false _ A3.out).mono ?_); rintro e w' ⟨rfl, ⟨nd, rfl⟩⟩; refine ⟨_, rfl, ?_⟩))
  go_ret
  exact ⟨by first | rfl|(simp;done)|(simp [*];done), a18_⟩

end Go.Proofs.YtkkhcemkppmgdaaDoor.QFnParts
