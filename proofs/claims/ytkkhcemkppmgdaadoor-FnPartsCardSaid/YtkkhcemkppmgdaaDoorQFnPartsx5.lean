/- Written by a program of this session (the kit's printer, with leaf contracts proved by hand put in): what each Go function computes, and that the call computes it. No condition but those that each theorem names. -/
import Derived.Test.YtkkhcemkppmgdaaDoorQFnPartsx0
import Derived.Test.YtkkhcemkppmgdaaDoorQFnPartsx1
import Derived.Test.YtkkhcemkppmgdaaDoorQFnPartsx2
import Derived.Test.YtkkhcemkppmgdaaDoorQFnPartsx3
import Derived.Test.YtkkhcemkppmgdaaDoorQFnPartsx4
namespace Go.Proofs.YtkkhcemkppmgdaaDoor.QFnParts
open Go.RowKit Go.Proofs.YtkkhcemkppmgdaaDoorW.PrintWords Go.Proofs.YtkkhcemkppmgdaaDoorW.PrintLast Go.Proofs.YtkkhcemkppmgdaaDoorW.PrintMore
attribute [local go_sem] max2_int min2_int max_two min_two max_three min_three max_four min_four   -- for this text's walks alone
set_option linter.unusedVariables false
set_option linter.unusedSimpArgs false

attribute [local go_sem high] eqA93
/-! ### impl_cutParts: function 85 -/
def impl_cutParts.l0 : Nat → Int → Int → List (S93) → Int → List (S93) → Int → Int → Option ((List (S93)))
 | 0, _, _, _, _, _, _, _ => none
 | k + 1, x1, x2, x7, x8, x15, x16, x17 => if x17 < x16 then (if 0 ≤ x17 then (if x17 < (x15.length : Int) then (if (mx x8 x1) < (mn (wrap64 ((wrap64 (x8 + ((rd_T93 x15 x17).f2))) - ((rd_T93 x15 x17).f1))) x2) then (if x7.length < 5864062014805 then (impl_cutParts.l0 k x1 x2 (x7 ++ [(⟨(rd_T93 x15 x17).f0, wrap64 ((wrap64 (((rd_T93 x15 x17).f1) + (mx x8 x1))) - x8), wrap64 ((wrap64 (((rd_T93 x15 x17).f1) + (mn (wrap64 ((wrap64 (x8 + ((rd_T93 x15 x17).f2))) - ((rd_T93 x15 x17).f1))) x2))) - x8)⟩ : S93)]) (wrap64 ((wrap64 (x8 + ((rd_T93 x15 x17).f2))) - ((rd_T93 x15 x17).f1))) x15 x16 (wrap64 (x17 + 1))) else (none)) else (impl_cutParts.l0 k x1 x2 x7 (wrap64 ((wrap64 (x8 + ((rd_T93 x15 x17).f2))) - ((rd_T93 x15 x17).f1))) x15 x16 (wrap64 (x17 + 1)))) else (none)) else (none)) else (some x7)
def impl_cutParts.f (k : Nat) (l0 : List (S93)) (a1 : Int) (a2 : Int) : Option ((List (S93))) := impl_cutParts.l0 k a1 a2 (([] : List (S93))) 0 l0 (l0.length : Int) 0
theorem impl_cutParts.mono_l : ∀ k, (∀ y0 y1 y2 y3 y4 y5 y6, LeO (impl_cutParts.l0 k y0 y1 y2 y3 y4 y5 y6) (impl_cutParts.l0 (k + 1) y0 y1 y2 y3 y4 y5 y6))
 | 0 => fun _ _ _ _ _ _ _ r h => by simp [impl_cutParts.l0] at h
 | k + 1 => by
  have ih0 := impl_cutParts.mono_l k
  ·intro y0 y1 y2 y3 y4 y5 y6
   unfold impl_cutParts.l0
   repeat' first
   |(with_reducible exact ih0 _ _ _ _ _ _ _)
   |(with_reducible exact LeO.refl _)
   |(with_reducible exact LeO.none _)
   |(with_reducible refine LeO.ite ?_ ?_)
   |(with_reducible refine LeO.bind ?_ (fun _ => ?_))
   |exact ih0 _ _ _ _ _ _ _
   |exact LeO.none _
    | refine LeO.ite ?_ ?_
    | refine LeO.bind ?_ (fun _ => ?_)
theorem impl_cutParts.mono : ∀ a0 a1 a2 k, LeO (impl_cutParts.f k a0 a1 a2) (impl_cutParts.f (k + 1) a0 a1 a2) := by
 intro a0 a1 a2 k
 have ih0 := impl_cutParts.mono_l k
 unfold impl_cutParts.f
 repeat' first
  |(with_reducible exact ih0 _ _ _ _ _ _ _)
  |(with_reducible exact LeO.refl _)
  |(with_reducible exact LeO.none _)
  |(with_reducible refine LeO.ite ?_ ?_)
  |(with_reducible refine LeO.bind ?_ (fun _ => ?_))
  |exact ih0 _ _ _ _ _ _ _
  |exact LeO.none _
   | refine LeO.ite ?_ ?_
   | refine LeO.bind ?_ (fun _ => ?_)
set_option maxHeartbeats 8000000 in
set_option maxRecDepth 100000 in
theorem impl_cutParts.calls (k : Nat) (A0 : Option Addr) (c0 : Nat) (l0 : List (S93)) (a1 : Int) (a2 : Int) (r : List (S93)) (w : World) (hr0 : Kd.C k93 w A0 l0.length l0) (hc0 : l0.length ≤ c0) (h : impl_cutParts.f k l0 a1 a2 = some r) :
 Calls Tryd.prog 85 #[.slice A0 l0.length c0, .int .i64 a1, .int .i64 a2] w fun e w' => ∃ v0_ : Value, e = .returned (v0_) ∧ Kd.R k93 93 w' w.heap.size (fun _ => True) v0_ r ∧ Below w.heap.size w w' := by
 have hu93 := Tryd.underlying93
 have HR0 := Aside0.mk hr0
 have HC0 := Aside0.mk hc0
 clear hr0 hc0
 have HB := Aside0.mk (Below.refl w.heap.size w)
 have H : (impl_cutParts.l0 k a1 a2 (([] : List (S93))) 0 l0 (l0.length : Int) 0) = some r := h
 clear h
 obtain ⟨y256, hy256⟩ : ∃ y_ : List (S93), y_ = (([] : List (S93))) := ⟨_, rfl⟩
 replace H : (impl_cutParts.l0 k a1 a2 y256 0 l0 (l0.length : Int) 0) = some r := by first|(rw [hy256]; with_reducible exact H)|(have H2_ := (Option.bind_some _ _).symm.trans H; rw [hy256]; with_reducible exact H2_)|(have H2_ := (Option.bind_some _ _).symm.trans H; with_reducible exact H2_) | with_reducible exact H|(rw [hy256]; exact H)|exact H
 have Ny256 := Aside0.mk hy256
 clear hy256
 have H' := Aside0.mk H
 clear H
 go_enter Tryd.func85, Tryd.ntmps85
 go_wp2_with (first|((with_reducible refine gate_dst (N := 14) rfl ?_); refine Kd.R_lit k93 _ 93 ?hg (N := 14) ?hd (xs := ([] : List (S93))) (inner := []) (ok := fun _ => True) (okp := fun _ => True) ?hr ?hp (fun _ hk => hk) trivial (Below.refl _ _) (Nat.le_refl _) (by simp) ?_;(case hd => rfl);(case hg => rfl);(case hr => first|(go_simp;done)|(go_simp; rfl));(case hp => exact (Reps.none _ _)); intro v257 w4 ho5 hb hg_ hnew_; clear hg_ hnew_; (first|rw [← Ny256.out] at ho5|(simp only [Int.reduceToNat] at ho5; rw [← Ny256.out] at ho5)); have n0_ := Aside0.mk (Kd.R_lower ho5 (below_size (a0_))); have n1_ := Aside0.mk (below_step (a0_) hb); clear HB; have HO258 := n0_; have HB := n1_; clear n0_ n1_; clear hb ho5))
 (try simp only [Act.put, List.setIfInBounds_toArray, List.set_cons_zero, List.set_cons_succ])
 go_loopg [7, 8, 17] k (fun kq v7 v8 v17 w' => ∃ (x7_1 : List (S93)) (x8_1 : Int) (x17_1 : Int), v8 = .int .i64 x8_1 ∧ v17 = .int .i64 x17_1 ∧ Aside0 (impl_cutParts.l0 kq a1 a2 x7_1 x8_1 l0 (l0.length : Int) x17_1 = some r) ∧ Aside0 (kq ≤ k) ∧ Aside0 (Kd.R k93 93 w' w.heap.size (fun _ => True) v7 x7_1) ∧ Aside0 (Below w.heap.size w w'))
 case atStart => exact ⟨(y256), (0), (0), (by first | rfl|(simp;done)|(simp [*];done)), (by first | rfl|(simp;done)|(simp [*];done)), H', ⟨Nat.le_refl _⟩, ⟨(a2_ HO258.out)⟩, ⟨a0_⟩⟩
 case round =>
  clear H'
  try clear p2
  obtain ⟨x7_1, x8_1, x17_1, rfl, rfl, HA, HK1, HO_7, HB⟩ := hrel
  cases gk with
  | zero => exact absurd HA.out (by simp [impl_cutParts.l0])
  | succ k1 =>
   have H := HA.out
   clear HA
   simp only [impl_cutParts.l0] at H
   by_cases c6 : x17_1 < (l0.length : Int)
   ·rw [if_pos c6] at H
    have c6b0 : decide (x17_1 < (l0.length : Int)) = true := decide_eq_true c6
    clear c6
    by_cases c7 : 0 ≤ x17_1
    ·rw [if_pos c7] at H
     have c7b0 : decide (0 ≤ x17_1) = true := decide_eq_true c7
     clear c7
     by_cases c8 : x17_1 < (l0.length : Int)
     ·rw [if_pos c8] at H
      have c8b0 : decide (x17_1 < (l0.length : Int)) = true := decide_eq_true c8
      clear c8
      obtain ⟨ji9, hji9⟩ : ∃ j_ : Int, (mx x8_1 a1) = j_ := ⟨_, rfl⟩
      replace H : (if (ji9) < (mn (wrap64 ((wrap64 (x8_1 + ((rd_T93 l0 x17_1).f2))) - ((rd_T93 l0 x17_1).f1))) a2) then (if x7_1.length < 5864062014805 then (impl_cutParts.l0 k1 a1 a2 (x7_1 ++ [(⟨(rd_T93 l0 x17_1).f0, wrap64 ((wrap64 (((rd_T93 l0 x17_1).f1) + (ji9))) - x8_1), wrap64 ((wrap64 (((rd_T93 l0 x17_1).f1) + (mn (wrap64 ((wrap64 (x8_1 + ((rd_T93 l0 x17_1).f2))) - ((rd_T93 l0 x17_1).f1))) a2))) - x8_1)⟩ : S93)]) (wrap64 ((wrap64 (x8_1 + ((rd_T93 l0 x17_1).f2))) - ((rd_T93 l0 x17_1).f1))) l0 (l0.length : Int) (wrap64 (x17_1 + 1))) else (none)) else (impl_cutParts.l0 k1 a1 a2 x7_1 (wrap64 ((wrap64 (x8_1 + ((rd_T93 l0 x17_1).f2))) - ((rd_T93 l0 x17_1).f1))) l0 (l0.length : Int) (wrap64 (x17_1 + 1)))) = some r := by first|(rw [hji9] at H; exact H)|(simp only [hji9] at H ⊢; exact H)
      have hji9_ : (if x8_1 < a1 then a1 else x8_1) = ji9 := hji9
      obtain ⟨ji10, hji10⟩ : ∃ j_ : Int, (mn (wrap64 ((wrap64 (x8_1 + ((rd_T93 l0 x17_1).f2))) - ((rd_T93 l0 x17_1).f1))) a2) = j_ := ⟨_, rfl⟩
      replace H : (if (ji9) < (ji10) then (if x7_1.length < 5864062014805 then (impl_cutParts.l0 k1 a1 a2 (x7_1 ++ [(⟨(rd_T93 l0 x17_1).f0, wrap64 ((wrap64 (((rd_T93 l0 x17_1).f1) + (ji9))) - x8_1), wrap64 ((wrap64 (((rd_T93 l0 x17_1).f1) + (ji10))) - x8_1)⟩ : S93)]) (wrap64 ((wrap64 (x8_1 + ((rd_T93 l0 x17_1).f2))) - ((rd_T93 l0 x17_1).f1))) l0 (l0.length : Int) (wrap64 (x17_1 + 1))) else (none)) else (impl_cutParts.l0 k1 a1 a2 x7_1 (wrap64 ((wrap64 (x8_1 + ((rd_T93 l0 x17_1).f2))) - ((rd_T93 l0 x17_1).f1))) l0 (l0.length : Int) (wrap64 (x17_1 + 1)))) = some r := by first|(rw [hji10] at H; exact H)|(simp only [hji10] at H ⊢; exact H)
      have hji10_ : (if a2 < (wrap64 ((wrap64 (x8_1 + ((rd_T93 l0 x17_1).f2))) - ((rd_T93 l0 x17_1).f1))) then a2 else (wrap64 ((wrap64 (x8_1 + ((rd_T93 l0 x17_1).f2))) - ((rd_T93 l0 x17_1).f1)))) = ji10 := hji10
      by_cases c11 : (ji9) < (ji10)
      ·rw [if_pos c11] at H
       have c11b0 : decide ((ji9) < (ji10)) = true := decide_eq_true c11
       clear c11
       by_cases c12 : x7_1.length < 5864062014805
       ·rw [if_pos c12] at H
        have LMc12 := Aside0.mk c12
        clear c12
        obtain ⟨y261, hy261⟩ : ∃ y_ : List (S93), y_ = (x7_1 ++ [(⟨(rd_T93 l0 x17_1).f0, wrap64 ((wrap64 (((rd_T93 l0 x17_1).f1) + (ji9))) - x8_1), wrap64 ((wrap64 (((rd_T93 l0 x17_1).f1) + (ji10))) - x8_1)⟩ : S93)]) := ⟨_, rfl⟩
        replace H : (impl_cutParts.l0 k1 a1 a2 y261 (wrap64 ((wrap64 (x8_1 + ((rd_T93 l0 x17_1).f2))) - ((rd_T93 l0 x17_1).f1))) l0 (l0.length : Int) (wrap64 (x17_1 + 1))) = some r := by first|(rw [hy261]; with_reducible exact H)|(have H2_ := (Option.bind_some _ _).symm.trans H; rw [hy261]; with_reducible exact H2_)|(have H2_ := (Option.bind_some _ _).symm.trans H; with_reducible exact H2_) | with_reducible exact H|(rw [hy261]; exact H)|exact H
        have Ny261 := Aside0.mk hy261
        clear hy261
        have H' := Aside0.mk H
        clear H
        have p259 : 0 ≤ (x17_1 : Int) := of_decide_eq_true (a7_)
        have q259 : x17_1 < (l0.length : Int) := of_decide_eq_true (a7_)
        obtain ⟨ad259, e259, hx259_0, hx259_1, hx259_2⟩ := at_T93 HR0.out x17_1 p259 q259
        cases e259
        replace hx259_0 := (HB.out.cell (World.block_lt_of_cell? w _ hx259_0)).trans hx259_0
        replace hx259_1 := (HB.out.cell (World.block_lt_of_cell? w _ hx259_1)).trans hx259_1
        replace hx259_2 := (HB.out.cell (World.block_lt_of_cell? w _ hx259_2)).trans hx259_2
        replace p259 := eq_true p259
        replace q259 := eq_true q259
        go_wp2_with (first|((with_reducible refine gate_dst (N := 10) rfl ?_); refine box_event ?hg (N := 10) ?hd (cs := #[.int .i64 0, .int .i64 0, .int .i64 0]) (t := 93) ?hr ?_;(case hd => rfl);(case hg => rfl);(case hr => first|(go_simp;done)|(go_simp; rfl)); intro gb260 hg w13 hbox hb; have n0_ := Aside0.mk (Kd.R_below (Kd.R_elderB ((a2_ HO_7.out)) gb260 (Nat.le_of_eq hg.symm)) hb); have n1_ := Aside0.mk (below_step (a0_) hb); have n2_ := Aside0.mk (hbox); have n3_ := Aside0.mk ((by rw [hg]; exact (below_size (a0_)) : w.heap.size ≤ gb260)); have n4_ := Aside0.mk ((by rw [hg]; exact (below_size (a0_)) : w.heap.size ≤ gb260)); clear HO_7; clear HB; have HO_7 := n0_; have HB := n1_; have BK260 := n2_; have GW260 := n3_; have GE260 := n4_; clear n0_ n1_ n2_ n3_ n4_; clear hb hbox hg; have hcz14_0 : w13.cell? ⟨gb260, 0, none⟩ = some (.int .i64 0) := (blk_cell BK260.out 0).trans rfl; have hcz14_1 : w13.cell? ⟨gb260, 1, none⟩ = some (.int .i64 0) := (blk_cell BK260.out 1).trans rfl; have hcz14_2 : w13.cell? ⟨gb260, 2, none⟩ = some (.int .i64 0) := (blk_cell BK260.out 2).trans rfl; have hfz14_0 := blk_frozen BK260.out 0; have hfz14_1 := blk_frozen BK260.out 1; have hfz14_2 := blk_frozen BK260.out 2)|((with_reducible refine gate_builtin (b := .append) (xs := #[.tmp 37, .tmp 53]) rfl ?_); at_builtin; refine Kd.R_append k93 (w0 := w) w.heap.size rfl (.tmp 37) (.tmp 53) 46 93 (.agg #[(.int .i64 0), (.int .i64 0), (.int .i64 0)]) 24 rfl Tryd.underlying46 info93 rfl (by decide) (by omega) u7 x7_1 (⟨(rd_T93 l0 x17_1).f0, wrap64 ((wrap64 (((rd_T93 l0 x17_1).f1) + (ji9))) - x8_1), wrap64 ((wrap64 (((rd_T93 l0 x17_1).f1) + (ji10))) - x8_1)⟩ : S93) [.int .i64 ((rd_T93 l0 x17_1).f0), .int .i64 (wrap64 ((wrap64 (((rd_T93 l0 x17_1).f1) + (ji9))) - x8_1)), .int .i64 (wrap64 ((wrap64 (((rd_T93 l0 x17_1).f1) + (ji10))) - x8_1))] (fun k_ => k_ ≠ gb260) (fun _ => False) rfl (by first|(go_simp;done)|(go_simp; rfl)) ?aP (fun _ hk => hk.elim) ?aF ?aO ?aB ?aS ?aL ?_;(case aP => exact k93_mkM _ _ _ (⟨(rd_T93 l0 x17_1).f0, wrap64 ((wrap64 (((rd_T93 l0 x17_1).f1) + (ji9))) - x8_1), wrap64 ((wrap64 (((rd_T93 l0 x17_1).f1) + (ji10))) - x8_1)⟩ : S93));(case aB => exact ((a8_ GE260.out)));(case aF => exact (fun k_ hk => Kd.freshB (g := gb260) (o := .cells #[.int .i64 ((rd_T93 l0 x17_1).f0), .int .i64 ((rd_T93 l0 x17_1).f1), .int .i64 ((rd_T93 l0 x17_1).f2)] 93 (0, 0)) ((a23_ BK260.out)) k_ hk));(case aO => exact (by (with_reducible repeat (first|apply Kd.R_alloc|apply Kd.R_drewN|apply Kd.R_drew)); exact Kd.R_mono (Kd.R_far (p := ⟨gb260, 2, none⟩) (Kd.R_far (p := ⟨gb260, 1, none⟩) (Kd.R_far (p := ⟨gb260, 0, none⟩) (Kd.R_mono HO_7.out (fun k_ hk => (⟨hk, hk.2⟩ : _ ∧ k_ ≠ gb260))) (fun _ hk => hk.2) (.int .i64 ((rd_T93 l0 x17_1).f0))) (fun _ hk => hk.2) (.int .i64 ((rd_T93 l0 x17_1).f1))) (fun _ hk => hk.2) (.int .i64 ((rd_T93 l0 x17_1).f2))) (fun _ hk => hk.1.2)));(case aS => exact (below_size ((a8_ GE260.out))));(case aL => have := LMc12.out; omega); intro v262 w15 ho hb hg hat; rw [← Ny261.out] at ho; have n0_ := Aside0.mk (blk_grown (g := gb260) (o := .cells #[.int .i64 ((rd_T93 l0 x17_1).f0), .int .i64 ((rd_T93 l0 x17_1).f1), .int .i64 ((rd_T93 l0 x17_1).f2)] 93 (0, 0)) ((a23_ BK260.out)) hg (Kd.R_away HO_7.out (fun _ hk => hk.2))); have n1_ := Aside0.mk (hb); have n2_ := Aside0.mk (ho); clear BK260; clear HB; clear HO_7; have BK260 := n0_; have HB := n1_; have HO263 := n2_; clear n0_ n1_ n2_; clear ho hb hg hat))
        go_roundg k1
        case measure => have := HK1.out; omega
        case rel => exact ⟨(y261), (wrap64 ((wrap64 (x8_1 + ((rd_T93 l0 x17_1).f2))) - ((rd_T93 l0 x17_1).f1))), (wrap64 (x17_1 + 1)), (by first | rfl|(simp;done)|(simp [*];done)), (by first | rfl|(simp;done)|(simp [*];done)), H', ⟨by have := HK1.out; omega⟩, ⟨(a29_ HO263.out)⟩, ⟨(a8_ GE260.out)⟩⟩
       ·rw [if_neg c12] at H
        exact absurd H (by simp)
      ·rw [if_neg c11] at H
       have c11b0 : decide ((ji9) < (ji10)) = false := decide_eq_false c11
       clear c11
       have H' := Aside0.mk H
       clear H
       have p259 : 0 ≤ (x17_1 : Int) := of_decide_eq_true (a7_)
       have q259 : x17_1 < (l0.length : Int) := of_decide_eq_true (a7_)
       obtain ⟨ad259, e259, hx259_0, hx259_1, hx259_2⟩ := at_T93 HR0.out x17_1 p259 q259
       cases e259
       replace hx259_0 := (HB.out.cell (World.block_lt_of_cell? w _ hx259_0)).trans hx259_0
       replace hx259_1 := (HB.out.cell (World.block_lt_of_cell? w _ hx259_1)).trans hx259_1
       replace hx259_2 := (HB.out.cell (World.block_lt_of_cell? w _ hx259_2)).trans hx259_2
       replace p259 := eq_true p259
       replace q259 := eq_true q259
       go_wp2_with (first|((with_reducible refine gate_dst (N := 10) rfl ?_); refine box_event ?hg (N := 10) ?hd (cs := #[.int .i64 0, .int .i64 0, .int .i64 0]) (t := 93) ?hr ?_;(case hd => rfl);(case hg => rfl);(case hr => first|(go_simp;done)|(go_simp; rfl)); intro gb260 hg w16 hbox hb; have n0_ := Aside0.mk (Kd.R_below (Kd.R_elderB ((a2_ HO_7.out)) gb260 (Nat.le_of_eq hg.symm)) hb); have n1_ := Aside0.mk (below_step (a0_) hb); have n2_ := Aside0.mk (hbox); have n3_ := Aside0.mk ((by rw [hg]; exact (below_size (a0_)) : w.heap.size ≤ gb260)); have n4_ := Aside0.mk ((by rw [hg]; exact (below_size (a0_)) : w.heap.size ≤ gb260)); clear HO_7; clear HB; have HO_7 := n0_; have HB := n1_; have BK260 := n2_; have GW260 := n3_; have GE260 := n4_; clear n0_ n1_ n2_ n3_ n4_; clear hb hbox hg; have hcz17_0 : w16.cell? ⟨gb260, 0, none⟩ = some (.int .i64 0) := (blk_cell BK260.out 0).trans rfl; have hcz17_1 : w16.cell? ⟨gb260, 1, none⟩ = some (.int .i64 0) := (blk_cell BK260.out 1).trans rfl; have hcz17_2 : w16.cell? ⟨gb260, 2, none⟩ = some (.int .i64 0) := (blk_cell BK260.out 2).trans rfl; have hfz17_0 := blk_frozen BK260.out 0; have hfz17_1 := blk_frozen BK260.out 1; have hfz17_2 := blk_frozen BK260.out 2))
       go_roundg k1
       case measure => have := HK1.out; omega
       case rel => exact ⟨(x7_1), (wrap64 ((wrap64 (x8_1 + ((rd_T93 l0 x17_1).f2))) - ((rd_T93 l0 x17_1).f1))), (wrap64 (x17_1 + 1)), (by first | rfl|(simp;done)|(simp [*];done)), (by first | rfl|(simp;done)|(simp [*];done)), H', ⟨by have := HK1.out; omega⟩, ⟨by (with_reducible repeat (first|apply Kd.R_alloc|apply Kd.R_drewN|apply Kd.R_drew)); exact Kd.R_mono (Kd.R_far (p := ⟨gb260, 2, none⟩) (Kd.R_far (p := ⟨gb260, 1, none⟩) (Kd.R_far (p := ⟨gb260, 0, none⟩) (Kd.R_mono HO_7.out (fun k_ hk => (⟨hk, hk.2⟩ : _ ∧ k_ ≠ gb260))) (fun _ hk => hk.2) (.int .i64 ((rd_T93 l0 x17_1).f0))) (fun _ hk => hk.2) (.int .i64 ((rd_T93 l0 x17_1).f1))) (fun _ hk => hk.2) (.int .i64 ((rd_T93 l0 x17_1).f2))) (fun _ hk => trivial)⟩, ⟨(a8_ GE260.out)⟩⟩
     ·rw [if_neg c8] at H
      exact absurd H (by simp)
    ·rw [if_neg c7] at H
     exact absurd H (by simp)
   ·rw [if_neg c6] at H
    have c6b0 : decide (x17_1 < (l0.length : Int)) = false := decide_eq_false c6
    clear c6
    obtain rfl := Option.some.inj H
    go_wp2
    go_ret
    exact ⟨_, a5_, (a2_ HO_7.out), a0_⟩

/-! ### impl_CutEdition: function 29 -/
def impl_CutEdition.f (k : Nat) (l0 : List (S93)) (a1 : Int) (a2 : Int) : Option ((List (S93)) × Bool) := (impl_isEdition.f k l0).bind fun t264 => (if t264 = true then (if a1 < 0 then (some (([] : List (S93)), false)) else (if a1 ≥ a2 then (some (([] : List (S93)), false)) else ((impl_editionLength.f k l0).bind fun t265 => (if a2 > t265 then (some (([] : List (S93)), false)) else ((impl_cutParts.f k l0 a1 a2).bind fun t266 => (some (t266, true))))))) else (some (([] : List (S93)), false)))
theorem impl_CutEdition.mono : ∀ a0 a1 a2 k, LeO (impl_CutEdition.f k a0 a1 a2) (impl_CutEdition.f (k + 1) a0 a1 a2) := by
 intro a0 a1 a2 k
 unfold impl_CutEdition.f
 repeat' first
  |(with_reducible exact impl_cutParts.mono _ _ _ _)
  |(with_reducible exact impl_editionLength.mono _ _)
  |(with_reducible exact impl_isEdition.mono _ _)
  |(with_reducible exact LeO.refl _)
  |(with_reducible exact LeO.none _)
  |(with_reducible refine LeO.ite ?_ ?_)
  |(with_reducible refine LeO.bind ?_ (fun _ => ?_))
  |exact impl_cutParts.mono _ _ _ _
  |exact impl_editionLength.mono _ _
  |exact impl_isEdition.mono _ _
  |exact LeO.none _
   | refine LeO.ite ?_ ?_
   | refine LeO.bind ?_ (fun _ => ?_)
set_option maxHeartbeats 8000000 in
set_option maxRecDepth 100000 in
theorem impl_CutEdition.calls (k : Nat) (A0 : Option Addr) (c0 : Nat) (l0 : List (S93)) (a1 : Int) (a2 : Int) (r1 : List (S93)) (r2 : Bool) (w : World) (hr0 : Kd.C k93 w A0 l0.length l0) (hc0 : l0.length ≤ c0) (h : impl_CutEdition.f k l0 a1 a2 = some (r1, r2)) :
 Calls Tryd.prog 29 #[.slice A0 l0.length c0, .int .i64 a1, .int .i64 a2] w fun e w' => ∃ v0_ : Value, e = .returned (.tuple #[v0_, .bool r2]) ∧ Kd.R k93 93 w' w.heap.size (fun _ => True) v0_ r1 ∧ Below w.heap.size w w' := by
 have HR0 := Aside0.mk hr0
 have HC0 := Aside0.mk hc0
 clear hr0 hc0
 have HB := Aside0.mk (Below.refl w.heap.size w)
 have H : ((impl_isEdition.f k l0).bind fun t264 => (if t264 = true then (if a1 < 0 then (some (([] : List (S93)), false)) else (if a1 ≥ a2 then (some (([] : List (S93)), false)) else ((impl_editionLength.f k l0).bind fun t265 => (if a2 > t265 then (some (([] : List (S93)), false)) else ((impl_cutParts.f k l0 a1 a2).bind fun t266 => (some (t266, true))))))) else (some (([] : List (S93)), false)))) = some (r1, r2) := h
 clear h
 replace H := Option.bind_eq_some_iff.mp H
 obtain ⟨t264, A40, H⟩ := H
 try dsimp only at H
 have A4 := Aside0.mk A40
 clear A40
 by_cases c5 : t264 = true
 ·subst c5
  have H1 : (if a1 < 0 then (some (([] : List (S93)), false)) else (if a1 ≥ a2 then (some (([] : List (S93)), false)) else ((impl_editionLength.f k l0).bind fun t265 => (if a2 > t265 then (some (([] : List (S93)), false)) else ((impl_cutParts.f k l0 a1 a2).bind fun t266 => (some (t266, true))))))) = some (r1, r2) := by rw [if_pos rfl] at H; exact H
  clear H
  have H := H1
  clear H1
  by_cases c6 : a1 < 0
  ·rw [if_pos c6] at H
   have c6b0 : decide (a1 < 0) = true := decide_eq_true c6
   clear c6
   simp only [Option.some.injEq, Prod.mk.injEq] at H
   obtain ⟨rfl, rfl⟩ := H
   go_enter Tryd.func29, Tryd.ntmps29
   go_wp2_with (first|((with_reducible refine gate_callee (f := 83) rfl ?_); refine goesL_ (some 9) rfl rfl Tryd.func83 (by kernel_rfl) rfl #[.slice A0 l0.length c0] rfl (by (try simp only [List.map_toArray, List.map_cons, List.map_nil]); first | done | rfl|(simp only [List.length_drop, List.length_take]; rfl)) ?_; (with_reducible refine (impl_isEdition.calls k _ _ l0 true _ ?side1 ?side2 A4.out).mono ?_);(case side1 => exact (a10_ HR0.out));(case side2 => exact HC0.out); rintro e w7 ⟨rfl, hb⟩; refine ⟨_, rfl, ?_⟩; have n0_ := Aside0.mk (below_step (a0_) hb); clear HB; have HB := n0_; clear n0_; (try clear hb); (try clear hb2); (try clear hk); (try clear hi)))
   go_ret2
   exact ⟨_, a5_, a19_, a0_⟩
  ·rw [if_neg c6] at H
   have c6b0 : decide (a1 < 0) = false := decide_eq_false c6
   clear c6
   by_cases c8 : a1 ≥ a2
   ·rw [if_pos c8] at H
    have c8b0 : decide (a2 ≤ a1) = true := decide_eq_true c8
    clear c8
    simp only [Option.some.injEq, Prod.mk.injEq] at H
    obtain ⟨rfl, rfl⟩ := H
    go_enter Tryd.func29, Tryd.ntmps29
    go_wp2_with (first|((with_reducible refine gate_callee (f := 83) rfl ?_); refine goesL_ (some 9) rfl rfl Tryd.func83 (by kernel_rfl) rfl #[.slice A0 l0.length c0] rfl (by (try simp only [List.map_toArray, List.map_cons, List.map_nil]); first | done | rfl|(simp only [List.length_drop, List.length_take]; rfl)) ?_; (with_reducible refine (impl_isEdition.calls k _ _ l0 true _ ?side1 ?side2 A4.out).mono ?_);(case side1 => exact (a10_ HR0.out));(case side2 => exact HC0.out); rintro e w9 ⟨rfl, hb⟩; refine ⟨_, rfl, ?_⟩; have n0_ := Aside0.mk (below_step (a0_) hb); clear HB; have HB := n0_; clear n0_; (try clear hb); (try clear hb2); (try clear hk); (try clear hi)))
    go_ret2
    exact ⟨_, a5_, a19_, a0_⟩
   ·rw [if_neg c8] at H
    have c8b0 : decide (a2 ≤ a1) = false := decide_eq_false c8
    clear c8
    replace H := Option.bind_eq_some_iff.mp H
    obtain ⟨t265, A100, H⟩ := H
    try dsimp only at H
    have A10 := Aside0.mk A100
    clear A100
    by_cases c11 : a2 > t265
    ·rw [if_pos c11] at H
     have c11b0 : decide (t265 < a2) = true := decide_eq_true c11
     clear c11
     simp only [Option.some.injEq, Prod.mk.injEq] at H
     obtain ⟨rfl, rfl⟩ := H
     go_enter Tryd.func29, Tryd.ntmps29
     go_wp2_with (first|((with_reducible refine gate_callee (f := 83) rfl ?_); refine goesL_ (some 9) rfl rfl Tryd.func83 (by kernel_rfl) rfl #[.slice A0 l0.length c0] rfl (by (try simp only [List.map_toArray, List.map_cons, List.map_nil]); first | done | rfl|(simp only [List.length_drop, List.length_take]; rfl)) ?_; (with_reducible refine (impl_isEdition.calls k _ _ l0 true _ ?side1 ?side2 A4.out).mono ?_);(case side1 => exact (a10_ HR0.out));(case side2 => exact HC0.out); rintro e w12 ⟨rfl, hb⟩; refine ⟨_, rfl, ?_⟩; have n0_ := Aside0.mk (below_step (a0_) hb); clear HB; have HB := n0_; clear n0_; (try clear hb); (try clear hb2); (try clear hk); (try clear hi))|(go_at_call 84; (with_reducible refine (impl_editionLength.calls k _ _ l0 t265 _ ?side1 ?side2 A10.out).mono ?_);(case side1 => exact (a11_ HR0.out));(case side2 => exact HC0.out); rintro e w13 ⟨rfl, hb⟩; have n0_ := Aside0.mk (below_step (a0_) hb); clear HB; have HB := n0_; clear n0_; (try clear hb); (try clear hb2); (try clear hk); (try clear hi)))
     go_ret2
     exact ⟨_, a5_, a19_, a0_⟩
    ·rw [if_neg c11] at H
     have c11b0 : decide (t265 < a2) = false := decide_eq_false c11
     clear c11
     replace H := Option.bind_eq_some_iff.mp H
     obtain ⟨t266, A140, H⟩ := H
     try dsimp only at H
     have A14 := Aside0.mk A140
     clear A140
     simp only [Option.some.injEq, Prod.mk.injEq] at H
     obtain ⟨rfl, rfl⟩ := H
     go_enter Tryd.func29, Tryd.ntmps29
     go_wp2_with (first|((with_reducible refine gate_callee (f := 83) rfl ?_); refine goesL_ (some 9) rfl rfl Tryd.func83 (by kernel_rfl) rfl #[.slice A0 l0.length c0] rfl (by (try simp only [List.map_toArray, List.map_cons, List.map_nil]); first | done | rfl|(simp only [List.length_drop, List.length_take]; rfl)) ?_; (with_reducible refine (impl_isEdition.calls k _ _ l0 true _ ?side1 ?side2 A4.out).mono ?_);(case side1 => exact (a10_ HR0.out));(case side2 => exact HC0.out); rintro e w15 ⟨rfl, hb⟩; refine ⟨_, rfl, ?_⟩; have n0_ := Aside0.mk (below_step (a0_) hb); clear HB; have HB := n0_; clear n0_; (try clear hb); (try clear hb2); (try clear hk); (try clear hi))|(go_at_call 84; (with_reducible refine (impl_editionLength.calls k _ _ l0 t265 _ ?side1 ?side2 A10.out).mono ?_);(case side1 => exact (a11_ HR0.out));(case side2 => exact HC0.out); rintro e w16 ⟨rfl, hb⟩; have n0_ := Aside0.mk (below_step (a0_) hb); clear HB; have HB := n0_; clear n0_; (try clear hb); (try clear hb2); (try clear hk); (try clear hi))|((with_reducible refine gate_callee (f := 85) rfl ?_); refine goesL_ (some 29) rfl rfl Tryd.func85 (by kernel_rfl) rfl #[.slice A0 l0.length c0, .int .i64 a1, .int .i64 a2] rfl (by (try simp only [List.map_toArray, List.map_cons, List.map_nil]); first | done | rfl|(simp only [List.length_drop, List.length_take]; rfl)) ?_; (with_reducible refine (impl_cutParts.calls k _ _ l0 a1 a2 t266 _ ?side1 ?side2 A14.out).mono ?_);(case side1 => exact (a11_ HR0.out));(case side2 => exact HC0.out); rintro e w17 ⟨v267, rfl, ho0, hb⟩; refine ⟨_, rfl, ?_⟩; have n0_ := Aside0.mk (Kd.R_lower ho0 (below_size (a0_))); have n1_ := Aside0.mk (below_step (a0_) hb); clear HB; have HO268 := n0_; have HB := n1_; clear n0_ n1_; (try clear hb); (try clear hb2); (try clear hk); (try clear hi); (try clear ho0)))
     go_ret2
     exact ⟨_, a5_, (a2_ HO268.out), a0_⟩
 ·replace c5 := Bool.eq_false_iff.mpr c5
  subst c5
  have H1 : (some (([] : List (S93)), false)) = some (r1, r2) := by rw [if_neg (show ¬ (false = true) by decide)] at H; exact H
  clear H
  have H := H1
  clear H1
  simp only [Option.some.injEq, Prod.mk.injEq] at H
  obtain ⟨rfl, rfl⟩ := H
  go_enter Tryd.func29, Tryd.ntmps29
  go_wp2_with (first|((with_reducible refine gate_callee (f := 83) rfl ?_); refine goesL_ (some 9) rfl rfl Tryd.func83 (by kernel_rfl) rfl #[.slice A0 l0.length c0] rfl (by (try simp only [List.map_toArray, List.map_cons, List.map_nil]); first | done | rfl|(simp only [List.length_drop, List.length_take]; rfl)) ?_; (with_reducible refine (impl_isEdition.calls k _ _ l0 false _ ?side1 ?side2 A4.out).mono ?_);(case side1 => exact (a10_ HR0.out));(case side2 => exact HC0.out); rintro e w18 ⟨rfl, hb⟩; refine ⟨_, rfl, ?_⟩; have n0_ := Aside0.mk (below_step (a0_) hb); clear HB; have HB := n0_; clear n0_; (try clear hb); (try clear hb2); (try clear hk); (try clear hi)))
  go_ret2
  exact ⟨_, a5_, a19_, a0_⟩

/-! ### spec_edHas: function 86 -/
def spec_edHas.f (k : Nat) (l0 : List (S93)) (a1 : Int) : Option (Bool) := (spec_edGood.f k l0).bind fun t269 => (if t269 = true then ((spec_edLength.f k l0).bind fun t270 => ((spec_l1In.f a1 0 (wrap64 (t270 - 1))).bind fun t271 => (some t271))) else (some false))
theorem spec_edHas.mono : ∀ a0 a1 k, LeO (spec_edHas.f k a0 a1) (spec_edHas.f (k + 1) a0 a1) := by
 intro a0 a1 k
 unfold spec_edHas.f
 repeat' first
  |(with_reducible exact spec_edGood.mono _ _)
  |(with_reducible exact spec_edLength.mono _ _)
  |(with_reducible exact LeO.refl _)
  |(with_reducible exact LeO.none _)
  |(with_reducible refine LeO.ite ?_ ?_)
  |(with_reducible refine LeO.bind ?_ (fun _ => ?_))
  |exact spec_edGood.mono _ _
  |exact spec_edLength.mono _ _
  |exact LeO.none _
   | refine LeO.ite ?_ ?_
   | refine LeO.bind ?_ (fun _ => ?_)
set_option maxHeartbeats 8000000 in
set_option maxRecDepth 100000 in
theorem spec_edHas.calls (k : Nat) (A0 : Option Addr) (c0 : Nat) (l0 : List (S93)) (a1 : Int) (r : Bool) (w : World) (hr0 : Kd.C k93 w A0 l0.length l0) (hc0 : l0.length ≤ c0) (h : spec_edHas.f k l0 a1 = some r) :
 Calls Tryd.prog 86 #[.slice A0 l0.length c0, .int .i64 a1] w fun e w' => e = .returned (.bool r) ∧ Below w.heap.size w w' := by
 have HR0 := Aside0.mk hr0
 have HC0 := Aside0.mk hc0
 clear hr0 hc0
 have HB := Aside0.mk (Below.refl w.heap.size w)
 have H : ((spec_edGood.f k l0).bind fun t269 => (if t269 = true then ((spec_edLength.f k l0).bind fun t270 => ((spec_l1In.f a1 0 (wrap64 (t270 - 1))).bind fun t271 => (some t271))) else (some false))) = some r := h
 clear h
 replace H := Option.bind_eq_some_iff.mp H
 obtain ⟨t269, A30, H⟩ := H
 try dsimp only at H
 have A3 := Aside0.mk A30
 clear A30
 by_cases c4 : t269 = true
 ·subst c4
  have H1 : ((spec_edLength.f k l0).bind fun t270 => ((spec_l1In.f a1 0 (wrap64 (t270 - 1))).bind fun t271 => (some t271))) = some r := by rw [if_pos rfl] at H; exact H
  clear H
  have H := H1
  clear H1
  replace H := Option.bind_eq_some_iff.mp H
  obtain ⟨t270, A50, H⟩ := H
  try dsimp only at H
  have A5 := Aside0.mk A50
  clear A50
  replace H := Option.bind_eq_some_iff.mp H
  obtain ⟨t271, A60, H⟩ := H
  try dsimp only at H
  have A6 := Aside0.mk A60
  clear A60
  obtain rfl := Option.some.inj H
  go_enter Tryd.func86, Tryd.ntmps86
  go_wp2_with (first|((with_reducible refine gate_callee (f := 93) rfl ?_); refine goesL_ (some 6) rfl rfl Tryd.func93 (by kernel_rfl) rfl #[.slice A0 l0.length c0] rfl (by (try simp only [List.map_toArray, List.map_cons, List.map_nil]); first | done | rfl|(simp only [List.length_drop, List.length_take]; rfl)) ?_; (with_reducible refine (spec_edGood.calls k _ _ l0 true _ ?side1 ?side2 A3.out).mono ?_);(case side1 => exact (a10_ HR0.out));(case side2 => exact HC0.out); rintro e w7 ⟨rfl, hb⟩; refine ⟨_, rfl, ?_⟩; have n0_ := Aside0.mk (below_step (a0_) hb); clear HB; have HB := n0_; clear n0_; (try clear hb); (try clear hb2); (try clear hk); (try clear hi))|(go_at_call 88; (with_reducible refine (spec_edLength.calls k _ _ l0 t270 _ ?side1 ?side2 A5.out).mono ?_);(case side1 => exact (a11_ HR0.out));(case side2 => exact HC0.out); rintro e w8 ⟨rfl, hb⟩; have n0_ := Aside0.mk (below_step (a0_) hb); clear HB; have HB := n0_; clear n0_; (try clear hb); (try clear hb2); (try clear hk); (try clear hi))|(go_at_call 87; (with_reducible refine (spec_l1In.calls a1 0 (wrap64 (t270 - 1)) t271 _ A6.out).mono ?_); rintro e w' ⟨rfl, ⟨nd, rfl⟩⟩))
  go_ret
  exact ⟨a5_, a0_⟩
 ·replace c4 := Bool.eq_false_iff.mpr c4
  subst c4
  have H1 : (some false) = some r := by rw [if_neg (show ¬ (false = true) by decide)] at H; exact H
  clear H
  have H := H1
  clear H1
  obtain rfl := Option.some.inj H
  go_enter Tryd.func86, Tryd.ntmps86
  go_wp2_with (first|((with_reducible refine gate_callee (f := 93) rfl ?_); refine goesL_ (some 6) rfl rfl Tryd.func93 (by kernel_rfl) rfl #[.slice A0 l0.length c0] rfl (by (try simp only [List.map_toArray, List.map_cons, List.map_nil]); first | done | rfl|(simp only [List.length_drop, List.length_take]; rfl)) ?_; (with_reducible refine (spec_edGood.calls k _ _ l0 false _ ?side1 ?side2 A3.out).mono ?_);(case side1 => exact (a10_ HR0.out));(case side2 => exact HC0.out); rintro e w9 ⟨rfl, hb⟩; refine ⟨_, rfl, ?_⟩; have n0_ := Aside0.mk (below_step (a0_) hb); clear HB; have HB := n0_; clear n0_; (try clear hb); (try clear hb2); (try clear hk); (try clear hi)))
  go_ret
  exact ⟨a5_, a0_⟩

/-! ### spec_edCut: function 89 -/
def spec_edCut.l0 : Nat → Int → Int → List (S93) → Int → List (S93) → Int → Int → Option ((List (S93)))
 | 0, _, _, _, _, _, _, _ => none
 | k + 1, x1, x2, x7, x8, x13, x14, x15 => if x15 < x14 then (if 0 ≤ x15 then (if x15 < (x13.length : Int) then ((spec_l1Most.f x8 x1).bind fun t274 => ((spec_l1Least.f (wrap64 ((wrap64 (x8 + ((rd_T93 x13 x15).f2))) - ((rd_T93 x13 x15).f1))) x2).bind fun t275 => (if t274 < t275 then (if x7.length < 5864062014805 then (spec_edCut.l0 k x1 x2 (x7 ++ [(⟨(rd_T93 x13 x15).f0, wrap64 ((wrap64 (((rd_T93 x13 x15).f1) + t274)) - x8), wrap64 ((wrap64 (((rd_T93 x13 x15).f1) + t275)) - x8)⟩ : S93)]) (wrap64 (x8 + (wrap64 (((rd_T93 x13 x15).f2) - ((rd_T93 x13 x15).f1))))) x13 x14 (wrap64 (x15 + 1))) else (none)) else (spec_edCut.l0 k x1 x2 x7 (wrap64 (x8 + (wrap64 (((rd_T93 x13 x15).f2) - ((rd_T93 x13 x15).f1))))) x13 x14 (wrap64 (x15 + 1)))))) else (none)) else (none)) else (some x7)
def spec_edCut.f (k : Nat) (l0 : List (S93)) (a1 : Int) (a2 : Int) : Option ((List (S93))) := spec_edCut.l0 k a1 a2 ([] : List (S93)) 0 l0 (l0.length : Int) 0
theorem spec_edCut.mono_l : ∀ k, (∀ y0 y1 y2 y3 y4 y5 y6, LeO (spec_edCut.l0 k y0 y1 y2 y3 y4 y5 y6) (spec_edCut.l0 (k + 1) y0 y1 y2 y3 y4 y5 y6))
 | 0 => fun _ _ _ _ _ _ _ r h => by simp [spec_edCut.l0] at h
 | k + 1 => by
  have ih0 := spec_edCut.mono_l k
  ·intro y0 y1 y2 y3 y4 y5 y6
   unfold spec_edCut.l0
   repeat' first
   |(with_reducible exact ih0 _ _ _ _ _ _ _)
   |(with_reducible exact LeO.refl _)
   |(with_reducible exact LeO.none _)
   |(with_reducible refine LeO.ite ?_ ?_)
   |(with_reducible refine LeO.bind ?_ (fun _ => ?_))
   |exact ih0 _ _ _ _ _ _ _
   |exact LeO.none _
    | refine LeO.ite ?_ ?_
    | refine LeO.bind ?_ (fun _ => ?_)
theorem spec_edCut.mono : ∀ a0 a1 a2 k, LeO (spec_edCut.f k a0 a1 a2) (spec_edCut.f (k + 1) a0 a1 a2) := by
 intro a0 a1 a2 k
 have ih0 := spec_edCut.mono_l k
 unfold spec_edCut.f
 repeat' first
  |(with_reducible exact ih0 _ _ _ _ _ _ _)
  |(with_reducible exact LeO.refl _)
  |(with_reducible exact LeO.none _)
  |(with_reducible refine LeO.ite ?_ ?_)
  |(with_reducible refine LeO.bind ?_ (fun _ => ?_))
  |exact ih0 _ _ _ _ _ _ _
  |exact LeO.none _
   | refine LeO.ite ?_ ?_
   | refine LeO.bind ?_ (fun _ => ?_)
set_option maxHeartbeats 8000000 in
set_option maxRecDepth 100000 in
theorem spec_edCut.calls (k : Nat) (A0 : Option Addr) (c0 : Nat) (l0 : List (S93)) (a1 : Int) (a2 : Int) (r : List (S93)) (w : World) (hr0 : Kd.C k93 w A0 l0.length l0) (hc0 : l0.length ≤ c0) (h : spec_edCut.f k l0 a1 a2 = some r) :
 Calls Tryd.prog 89 #[.slice A0 l0.length c0, .int .i64 a1, .int .i64 a2] w fun e w' => ∃ v0_ : Value, e = .returned (v0_) ∧ Kd.R k93 93 w' w.heap.size (fun _ => True) v0_ r ∧ Below w.heap.size w w' := by
 have hu93 := Tryd.underlying93
 have HR0 := Aside0.mk hr0
 have HC0 := Aside0.mk hc0
 clear hr0 hc0
 have HB := Aside0.mk (Below.refl w.heap.size w)
 have H : (spec_edCut.l0 k a1 a2 ([] : List (S93)) 0 l0 (l0.length : Int) 0) = some r := h
 clear h
 have H' := Aside0.mk H
 clear H
 go_enter Tryd.func89, Tryd.ntmps89
 go_wp2
 repeat (go_quiet (fail); try go_wp2)
 (try simp only [Act.put, List.setIfInBounds_toArray, List.set_cons_zero, List.set_cons_succ])
 go_loopg [7, 8, 15] k (fun kq v7 v8 v15 w' => ∃ (x7_1 : List (S93)) (x8_1 : Int) (x15_1 : Int), v8 = .int .i64 x8_1 ∧ v15 = .int .i64 x15_1 ∧ Aside0 (spec_edCut.l0 kq a1 a2 x7_1 x8_1 l0 (l0.length : Int) x15_1 = some r) ∧ Aside0 (kq ≤ k) ∧ Aside0 (Kd.R k93 93 w' w.heap.size (fun _ => True) v7 x7_1) ∧ Aside0 (Below w.heap.size w w'))
 case atStart => exact ⟨(([] : List (S93))), (0), (0), (by first | rfl|(simp;done)|(simp [*];done)), (by first | rfl|(simp;done)|(simp [*];done)), H', ⟨Nat.le_refl _⟩, ⟨a19_⟩, ⟨a0_⟩⟩
 case round =>
  clear H'
  try clear p2
  obtain ⟨x7_1, x8_1, x15_1, rfl, rfl, HA, HK1, HO_7, HB⟩ := hrel
  cases gk with
  | zero => exact absurd HA.out (by simp [spec_edCut.l0])
  | succ k1 =>
   have H := HA.out
   clear HA
   simp only [spec_edCut.l0] at H
   by_cases c4 : x15_1 < (l0.length : Int)
   ·rw [if_pos c4] at H
    have c4b0 : decide (x15_1 < (l0.length : Int)) = true := decide_eq_true c4
    clear c4
    by_cases c5 : 0 ≤ x15_1
    ·rw [if_pos c5] at H
     have c5b0 : decide (0 ≤ x15_1) = true := decide_eq_true c5
     clear c5
     by_cases c6 : x15_1 < (l0.length : Int)
     ·rw [if_pos c6] at H
      have c6b0 : decide (x15_1 < (l0.length : Int)) = true := decide_eq_true c6
      clear c6
      replace H := Option.bind_eq_some_iff.mp H
      obtain ⟨t274, A70, H⟩ := H
      try dsimp only at H
      have A7 := Aside0.mk A70
      clear A70
      replace H := Option.bind_eq_some_iff.mp H
      obtain ⟨t275, A80, H⟩ := H
      try dsimp only at H
      have A8 := Aside0.mk A80
      clear A80
      by_cases c9 : t274 < t275
      ·rw [if_pos c9] at H
       have c9b0 : decide (t274 < t275) = true := decide_eq_true c9
       clear c9
       by_cases c10 : x7_1.length < 5864062014805
       ·rw [if_pos c10] at H
        have LMc10 := Aside0.mk c10
        clear c10
        obtain ⟨y276, hy276⟩ : ∃ y_ : List (S93), y_ = (x7_1 ++ [(⟨(rd_T93 l0 x15_1).f0, wrap64 ((wrap64 (((rd_T93 l0 x15_1).f1) + t274)) - x8_1), wrap64 ((wrap64 (((rd_T93 l0 x15_1).f1) + t275)) - x8_1)⟩ : S93)]) := ⟨_, rfl⟩
        replace H : (spec_edCut.l0 k1 a1 a2 y276 (wrap64 (x8_1 + (wrap64 (((rd_T93 l0 x15_1).f2) - ((rd_T93 l0 x15_1).f1))))) l0 (l0.length : Int) (wrap64 (x15_1 + 1))) = some r := by first|(rw [hy276]; with_reducible exact H)|(have H2_ := (Option.bind_some _ _).symm.trans H; rw [hy276]; with_reducible exact H2_)|(have H2_ := (Option.bind_some _ _).symm.trans H; with_reducible exact H2_) | with_reducible exact H|(rw [hy276]; exact H)|exact H
        have Ny276 := Aside0.mk hy276
        clear hy276
        have H' := Aside0.mk H
        clear H
        have p272 : 0 ≤ (x15_1 : Int) := of_decide_eq_true (a7_)
        have q272 : x15_1 < (l0.length : Int) := of_decide_eq_true (a7_)
        obtain ⟨ad272, e272, hx272_0, hx272_1, hx272_2⟩ := at_T93 HR0.out x15_1 p272 q272
        cases e272
        replace hx272_0 := (HB.out.cell (World.block_lt_of_cell? w _ hx272_0)).trans hx272_0
        replace hx272_1 := (HB.out.cell (World.block_lt_of_cell? w _ hx272_1)).trans hx272_1
        replace hx272_2 := (HB.out.cell (World.block_lt_of_cell? w _ hx272_2)).trans hx272_2
        replace p272 := eq_true p272
        replace q272 := eq_true q272
        iterate 6 (go_wp2_with (first|((with_reducible refine gate_dst (N := 10) rfl ?_); refine box_event ?hg (N := 10) ?hd (cs := #[.int .i64 0, .int .i64 0, .int .i64 0]) (t := 93) ?hr ?_;(case hd => rfl);(case hg => rfl);(case hr => first|(go_simp;done)|(go_simp; rfl)); intro gb273 hg w11 hbox hb; have n0_ := Aside0.mk (Kd.R_below (Kd.R_elderB ((a2_ HO_7.out)) gb273 (Nat.le_of_eq hg.symm)) hb); have n1_ := Aside0.mk (below_step (a0_) hb); have n2_ := Aside0.mk (hbox); have n3_ := Aside0.mk ((by rw [hg]; exact (below_size (a0_)) : w.heap.size ≤ gb273)); have n4_ := Aside0.mk ((by rw [hg]; exact (below_size (a0_)) : w.heap.size ≤ gb273)); clear HO_7; clear HB; have HO_7 := n0_; have HB := n1_; have BK273 := n2_; have GW273 := n3_; have GE273 := n4_; clear n0_ n1_ n2_ n3_ n4_; clear hb hbox hg; have hcz12_0 : w11.cell? ⟨gb273, 0, none⟩ = some (.int .i64 0) := (blk_cell BK273.out 0).trans rfl; have hcz12_1 : w11.cell? ⟨gb273, 1, none⟩ = some (.int .i64 0) := (blk_cell BK273.out 1).trans rfl; have hcz12_2 : w11.cell? ⟨gb273, 2, none⟩ = some (.int .i64 0) := (blk_cell BK273.out 2).trans rfl; have hfz12_0 := blk_frozen BK273.out 0; have hfz12_1 := blk_frozen BK273.out 1; have hfz12_2 := blk_frozen BK273.out 2)|(go_at_call 82; (with_reducible refine (spec_l1Most.calls x8_1 a1 t274 _ A7.out).mono ?_); rintro e w' ⟨rfl, ⟨nd, rfl⟩⟩; (try first|exact ⟨rfl, _, World.drewN_drewN _ _ _⟩|exact ⟨rfl, _, Eq.trans (World.drewN_drewN _ _ _) (congrArg (World.drewN _) (Nat.add_assoc _ _ _))⟩))|(go_at_call 81; (with_reducible refine (spec_l1Least.calls (wrap64 ((wrap64 (x8_1 + ((rd_T93 l0 x15_1).f2))) - ((rd_T93 l0 x15_1).f1))) a2 t275 _ A8.out).mono ?_); rintro e w' ⟨rfl, ⟨nd, rfl⟩⟩; (try first|exact ⟨rfl, _, World.drewN_drewN _ _ _⟩|exact ⟨rfl, _, Eq.trans (World.drewN_drewN _ _ _) (congrArg (World.drewN _) (Nat.add_assoc _ _ _))⟩))|((with_reducible refine gate_builtin (b := .append) (xs := #[.tmp 34, .tmp 50]) rfl ?_); at_builtin; refine Kd.R_append k93 (w0 := w) w.heap.size rfl (.tmp 34) (.tmp 50) 46 93 (.agg #[(.int .i64 0), (.int .i64 0), (.int .i64 0)]) 24 rfl Tryd.underlying46 info93 rfl (by decide) (by omega) u7 x7_1 (⟨(rd_T93 l0 x15_1).f0, wrap64 ((wrap64 (((rd_T93 l0 x15_1).f1) + t274)) - x8_1), wrap64 ((wrap64 (((rd_T93 l0 x15_1).f1) + t275)) - x8_1)⟩ : S93) [.int .i64 ((rd_T93 l0 x15_1).f0), .int .i64 (wrap64 ((wrap64 (((rd_T93 l0 x15_1).f1) + t274)) - x8_1)), .int .i64 (wrap64 ((wrap64 (((rd_T93 l0 x15_1).f1) + t275)) - x8_1))] (fun k_ => k_ ≠ gb273) (fun _ => False) rfl (by first|(go_simp;done)|(go_simp; rfl)) ?aP (fun _ hk => hk.elim) ?aF ?aO ?aB ?aS ?aL ?_;(case aP => exact k93_mkM _ _ _ (⟨(rd_T93 l0 x15_1).f0, wrap64 ((wrap64 (((rd_T93 l0 x15_1).f1) + t274)) - x8_1), wrap64 ((wrap64 (((rd_T93 l0 x15_1).f1) + t275)) - x8_1)⟩ : S93));(case aB => exact ((a8_ GE273.out)));(case aF => exact (fun k_ hk => Kd.freshB (g := gb273) (o := .cells #[.int .i64 ((rd_T93 l0 x15_1).f0), .int .i64 ((rd_T93 l0 x15_1).f1), .int .i64 ((rd_T93 l0 x15_1).f2)] 93 (0, 0)) ((a24_ BK273.out)) k_ hk));(case aO => exact (by (with_reducible repeat (first|apply Kd.R_alloc|apply Kd.R_drewN|apply Kd.R_drew)); exact Kd.R_mono (Kd.R_far (p := ⟨gb273, 2, none⟩) (Kd.R_far (p := ⟨gb273, 1, none⟩) (Kd.R_far (p := ⟨gb273, 0, none⟩) (Kd.R_mono HO_7.out (fun k_ hk => (⟨hk, hk.2⟩ : _ ∧ k_ ≠ gb273))) (fun _ hk => hk.2) (.int .i64 ((rd_T93 l0 x15_1).f0))) (fun _ hk => hk.2) (.int .i64 ((rd_T93 l0 x15_1).f1))) (fun _ hk => hk.2) (.int .i64 ((rd_T93 l0 x15_1).f2))) (fun _ hk => hk.1.2)));(case aS => exact (below_size ((a8_ GE273.out))));(case aL => have := LMc10.out; omega); intro v277 w13 ho hb hg hat; rw [← Ny276.out] at ho; have n0_ := Aside0.mk (blk_grown (g := gb273) (o := .cells #[.int .i64 ((rd_T93 l0 x15_1).f0), .int .i64 ((rd_T93 l0 x15_1).f1), .int .i64 ((rd_T93 l0 x15_1).f2)] 93 (0, 0)) ((a24_ BK273.out)) hg (Kd.R_away HO_7.out (fun _ hk => hk.2))); have n1_ := Aside0.mk (hb); have n2_ := Aside0.mk (ho); clear BK273; clear HB; clear HO_7; have BK273 := n0_; have HB := n1_; have HO278 := n2_; clear n0_ n1_ n2_; clear ho hb hg hat; have hcz14_0 : w13.cell? ⟨gb273, 0, none⟩ = some (.int .i64 ((rd_T93 l0 x15_1).f0)) := (blk_cell BK273.out 0).trans rfl; have hcz14_1 : w13.cell? ⟨gb273, 1, none⟩ = some (.int .i64 ((rd_T93 l0 x15_1).f1)) := (blk_cell BK273.out 1).trans rfl; have hcz14_2 : w13.cell? ⟨gb273, 2, none⟩ = some (.int .i64 ((rd_T93 l0 x15_1).f2)) := (blk_cell BK273.out 2).trans rfl; have hfz14_0 := blk_frozen BK273.out 0; have hfz14_1 := blk_frozen BK273.out 1; have hfz14_2 := blk_frozen BK273.out 2)); try go_quiet (first|(go_at_call 82; (with_reducible refine (spec_l1Most.calls x8_1 a1 t274 _ A7.out).mono ?_); rintro e w' ⟨rfl, ⟨nd, rfl⟩⟩; (try first|exact ⟨rfl, _, World.drewN_drewN _ _ _⟩|exact ⟨rfl, _, Eq.trans (World.drewN_drewN _ _ _) (congrArg (World.drewN _) (Nat.add_assoc _ _ _))⟩))|(go_at_call 81; (with_reducible refine (spec_l1Least.calls (wrap64 ((wrap64 (x8_1 + ((rd_T93 l0 x15_1).f2))) - ((rd_T93 l0 x15_1).f1))) a2 t275 _ A8.out).mono ?_); rintro e w' ⟨rfl, ⟨nd, rfl⟩⟩; (try first|exact ⟨rfl, _, World.drewN_drewN _ _ _⟩|exact ⟨rfl, _, Eq.trans (World.drewN_drewN _ _ _) (congrArg (World.drewN _) (Nat.add_assoc _ _ _))⟩))))
        go_roundg k1
        case measure => have := HK1.out; omega
        case rel => exact ⟨(y276), (wrap64 (x8_1 + (wrap64 (((rd_T93 l0 x15_1).f2) - ((rd_T93 l0 x15_1).f1))))), (wrap64 (x15_1 + 1)), (by first | rfl|(simp;done)|(simp [*];done)), (by first | rfl|(simp;done)|(simp [*];done)), H', ⟨by have := HK1.out; omega⟩, ⟨(a29_ HO278.out)⟩, ⟨(a8_ GE273.out)⟩⟩
       ·rw [if_neg c10] at H
        exact absurd H (by simp)
      ·rw [if_neg c9] at H
       have c9b0 : decide (t274 < t275) = false := decide_eq_false c9
       clear c9
       have H' := Aside0.mk H
       clear H
       have p272 : 0 ≤ (x15_1 : Int) := of_decide_eq_true (a7_)
       have q272 : x15_1 < (l0.length : Int) := of_decide_eq_true (a7_)
       obtain ⟨ad272, e272, hx272_0, hx272_1, hx272_2⟩ := at_T93 HR0.out x15_1 p272 q272
       cases e272
       replace hx272_0 := (HB.out.cell (World.block_lt_of_cell? w _ hx272_0)).trans hx272_0
       replace hx272_1 := (HB.out.cell (World.block_lt_of_cell? w _ hx272_1)).trans hx272_1
       replace hx272_2 := (HB.out.cell (World.block_lt_of_cell? w _ hx272_2)).trans hx272_2
       replace p272 := eq_true p272
       replace q272 := eq_true q272
       iterate 6 (go_wp2_with (first|((with_reducible refine gate_dst (N := 10) rfl ?_); refine box_event ?hg (N := 10) ?hd (cs := #[.int .i64 0, .int .i64 0, .int .i64 0]) (t := 93) ?hr ?_;(case hd => rfl);(case hg => rfl);(case hr => first|(go_simp;done)|(go_simp; rfl)); intro gb273 hg w15 hbox hb; have n0_ := Aside0.mk (Kd.R_below (Kd.R_elderB ((a2_ HO_7.out)) gb273 (Nat.le_of_eq hg.symm)) hb); have n1_ := Aside0.mk (below_step (a0_) hb); have n2_ := Aside0.mk (hbox); have n3_ := Aside0.mk ((by rw [hg]; exact (below_size (a0_)) : w.heap.size ≤ gb273)); have n4_ := Aside0.mk ((by rw [hg]; exact (below_size (a0_)) : w.heap.size ≤ gb273)); clear HO_7; clear HB; have HO_7 := n0_; have HB := n1_; have BK273 := n2_; have GW273 := n3_; have GE273 := n4_; clear n0_ n1_ n2_ n3_ n4_; clear hb hbox hg; have hcz16_0 : w15.cell? ⟨gb273, 0, none⟩ = some (.int .i64 0) := (blk_cell BK273.out 0).trans rfl; have hcz16_1 : w15.cell? ⟨gb273, 1, none⟩ = some (.int .i64 0) := (blk_cell BK273.out 1).trans rfl; have hcz16_2 : w15.cell? ⟨gb273, 2, none⟩ = some (.int .i64 0) := (blk_cell BK273.out 2).trans rfl; have hfz16_0 := blk_frozen BK273.out 0; have hfz16_1 := blk_frozen BK273.out 1; have hfz16_2 := blk_frozen BK273.out 2)|(go_at_call 82; (with_reducible refine (spec_l1Most.calls x8_1 a1 t274 _ A7.out).mono ?_); rintro e w' ⟨rfl, ⟨nd, rfl⟩⟩; (try first|exact ⟨rfl, _, World.drewN_drewN _ _ _⟩|exact ⟨rfl, _, Eq.trans (World.drewN_drewN _ _ _) (congrArg (World.drewN _) (Nat.add_assoc _ _ _))⟩))|(go_at_call 81; (with_reducible refine (spec_l1Least.calls (wrap64 ((wrap64 (x8_1 + ((rd_T93 l0 x15_1).f2))) - ((rd_T93 l0 x15_1).f1))) a2 t275 _ A8.out).mono ?_); rintro e w' ⟨rfl, ⟨nd, rfl⟩⟩; (try first|exact ⟨rfl, _, World.drewN_drewN _ _ _⟩|exact ⟨rfl, _, Eq.trans (World.drewN_drewN _ _ _) (congrArg (World.drewN _) (Nat.add_assoc _ _ _))⟩))); try go_quiet (first|(go_at_call 82; (with_reducible refine (spec_l1Most.calls x8_1 a1 t274 _ A7.out).mono ?_); rintro e w' ⟨rfl, ⟨nd, rfl⟩⟩; (try first|exact ⟨rfl, _, World.drewN_drewN _ _ _⟩|exact ⟨rfl, _, Eq.trans (World.drewN_drewN _ _ _) (congrArg (World.drewN _) (Nat.add_assoc _ _ _))⟩))|(go_at_call 81; (with_reducible refine (spec_l1Least.calls (wrap64 ((wrap64 (x8_1 + ((rd_T93 l0 x15_1).f2))) - ((rd_T93 l0 x15_1).f1))) a2 t275 _ A8.out).mono ?_); rintro e w' ⟨rfl, ⟨nd, rfl⟩⟩; (try first|exact ⟨rfl, _, World.drewN_drewN _ _ _⟩|exact ⟨rfl, _, Eq.trans (World.drewN_drewN _ _ _) (congrArg (World.drewN _) (Nat.add_assoc _ _ _))⟩))))
       go_roundg k1
       case measure => have := HK1.out; omega
       case rel => exact ⟨(x7_1), (wrap64 (x8_1 + (wrap64 (((rd_T93 l0 x15_1).f2) - ((rd_T93 l0 x15_1).f1))))), (wrap64 (x15_1 + 1)), (by first | rfl|(simp;done)|(simp [*];done)), (by first | rfl|(simp;done)|(simp [*];done)), H', ⟨by have := HK1.out; omega⟩, ⟨by (with_reducible repeat (first|apply Kd.R_alloc|apply Kd.R_drewN|apply Kd.R_drew)); exact Kd.R_mono (Kd.R_far (p := ⟨gb273, 2, none⟩) (Kd.R_far (p := ⟨gb273, 1, none⟩) (Kd.R_far (p := ⟨gb273, 0, none⟩) (Kd.R_mono HO_7.out (fun k_ hk => (⟨hk, hk.2⟩ : _ ∧ k_ ≠ gb273))) (fun _ hk => hk.2) (.int .i64 ((rd_T93 l0 x15_1).f0))) (fun _ hk => hk.2) (.int .i64 ((rd_T93 l0 x15_1).f1))) (fun _ hk => hk.2) (.int .i64 ((rd_T93 l0 x15_1).f2))) (fun _ hk => trivial)⟩, ⟨(a8_ GE273.out)⟩⟩
     ·rw [if_neg c6] at H
      exact absurd H (by simp)
    ·rw [if_neg c5] at H
     exact absurd H (by simp)
   ·rw [if_neg c4] at H
    have c4b0 : decide (x15_1 < (l0.length : Int)) = false := decide_eq_false c4
    clear c4
    obtain rfl := Option.some.inj H
    go_wp2
    repeat (go_quiet (fail); try go_wp2)
    go_ret
    exact ⟨_, a5_, (a2_ HO_7.out), a0_⟩

/-! ### spec_CutEdition: function 30 -/
def spec_CutEdition.f (k : Nat) (l0 : List (S93)) (a1 : Int) (a2 : Int) : Option ((List (S93)) × Bool) := (spec_edHas.f k l0 a1).bind fun t279 => (if t279 = true then ((spec_edLength.f k l0).bind fun t280 => ((spec_l1In.f a2 (wrap64 (a1 + 1)) t280).bind fun t281 => (if t281 = true then ((spec_edCut.f k l0 a1 a2).bind fun t282 => (some (t282, true))) else (some (([] : List (S93)), false))))) else (some (([] : List (S93)), false)))
theorem spec_CutEdition.mono : ∀ a0 a1 a2 k, LeO (spec_CutEdition.f k a0 a1 a2) (spec_CutEdition.f (k + 1) a0 a1 a2) := by
 intro a0 a1 a2 k
 unfold spec_CutEdition.f
 repeat' first
  |(with_reducible exact spec_edCut.mono _ _ _ _)
  |(with_reducible exact spec_edHas.mono _ _ _)
  |(with_reducible exact spec_edLength.mono _ _)
  |(with_reducible exact LeO.refl _)
  |(with_reducible exact LeO.none _)
  |(with_reducible refine LeO.ite ?_ ?_)
  |(with_reducible refine LeO.bind ?_ (fun _ => ?_))
  |exact spec_edCut.mono _ _ _ _
  |exact spec_edHas.mono _ _ _
  |exact spec_edLength.mono _ _
  |exact LeO.none _
   | refine LeO.ite ?_ ?_
   | refine LeO.bind ?_ (fun _ => ?_)
set_option maxHeartbeats 8000000 in
set_option maxRecDepth 100000 in
theorem spec_CutEdition.calls (k : Nat) (A0 : Option Addr) (c0 : Nat) (l0 : List (S93)) (a1 : Int) (a2 : Int) (r1 : List (S93)) (r2 : Bool) (w : World) (hr0 : Kd.C k93 w A0 l0.length l0) (hc0 : l0.length ≤ c0) (h : spec_CutEdition.f k l0 a1 a2 = some (r1, r2)) :
 Calls Tryd.prog 30 #[.slice A0 l0.length c0, .int .i64 a1, .int .i64 a2] w fun e w' => ∃ v0_ : Value, e = .returned (.tuple #[v0_, .bool r2]) ∧ Kd.R k93 93 w' w.heap.size (fun _ => True) v0_ r1 ∧ Below w.heap.size w w' := by
 have HR0 := Aside0.mk hr0
 have HC0 := Aside0.mk hc0
 clear hr0 hc0
 have HB := Aside0.mk (Below.refl w.heap.size w)
 have H : ((spec_edHas.f k l0 a1).bind fun t279 => (if t279 = true then ((spec_edLength.f k l0).bind fun t280 => ((spec_l1In.f a2 (wrap64 (a1 + 1)) t280).bind fun t281 => (if t281 = true then ((spec_edCut.f k l0 a1 a2).bind fun t282 => (some (t282, true))) else (some (([] : List (S93)), false))))) else (some (([] : List (S93)), false)))) = some (r1, r2) := h
 clear h
 replace H := Option.bind_eq_some_iff.mp H
 obtain ⟨t279, A40, H⟩ := H
 try dsimp only at H
 have A4 := Aside0.mk A40
 clear A40
 by_cases c5 : t279 = true
 ·subst c5
  have H1 : ((spec_edLength.f k l0).bind fun t280 => ((spec_l1In.f a2 (wrap64 (a1 + 1)) t280).bind fun t281 => (if t281 = true then ((spec_edCut.f k l0 a1 a2).bind fun t282 => (some (t282, true))) else (some (([] : List (S93)), false))))) = some (r1, r2) := by rw [if_pos rfl] at H; exact H
  clear H
  have H := H1
  clear H1
  replace H := Option.bind_eq_some_iff.mp H
  obtain ⟨t280, A60, H⟩ := H
  try dsimp only at H
  have A6 := Aside0.mk A60
  clear A60
  replace H := Option.bind_eq_some_iff.mp H
  obtain ⟨t281, A70, H⟩ := H
  try dsimp only at H
  have A7 := Aside0.mk A70
  clear A70
  by_cases c8 : t281 = true
  ·subst c8
   have H1 : ((spec_edCut.f k l0 a1 a2).bind fun t282 => (some (t282, true))) = some (r1, r2) := by rw [if_pos rfl] at H; exact H
   clear H
   have H := H1
   clear H1
   replace H := Option.bind_eq_some_iff.mp H
   obtain ⟨t282, A90, H⟩ := H
   try dsimp only at H
   have A9 := Aside0.mk A90
   clear A90
   simp only [Option.some.injEq, Prod.mk.injEq] at H
   obtain ⟨rfl, rfl⟩ := H
   go_enter Tryd.func30, Tryd.ntmps30
   go_wp2_with (first|((with_reducible refine gate_callee (f := 86) rfl ?_); refine goesL_ (some 10) rfl rfl Tryd.func86 (by kernel_rfl) rfl #[.slice A0 l0.length c0, .int .i64 a1] rfl (by (try simp only [List.map_toArray, List.map_cons, List.map_nil]); first | done | rfl|(simp only [List.length_drop, List.length_take]; rfl)) ?_; (with_reducible refine (spec_edHas.calls k _ _ l0 a1 true _ ?side1 ?side2 A4.out).mono ?_);(case side1 => exact (a10_ HR0.out));(case side2 => exact HC0.out); rintro e w10 ⟨rfl, hb⟩; refine ⟨_, rfl, ?_⟩; have n0_ := Aside0.mk (below_step (a0_) hb); clear HB; have HB := n0_; clear n0_; (try clear hb); (try clear hb2); (try clear hk); (try clear hi))|(go_at_call 88; (with_reducible refine (spec_edLength.calls k _ _ l0 t280 _ ?side1 ?side2 A6.out).mono ?_);(case side1 => exact (a11_ HR0.out));(case side2 => exact HC0.out); rintro e w11 ⟨rfl, hb⟩; have n0_ := Aside0.mk (below_step (a0_) hb); clear HB; have HB := n0_; clear n0_; (try clear hb); (try clear hb2); (try clear hk); (try clear hi))|(go_at_call 87; (with_reducible refine (spec_l1In.calls a2 (wrap64 (a1 + 1)) t280 true _ A7.out).mono ?_); rintro e w' ⟨rfl, ⟨nd, rfl⟩⟩)|((with_reducible refine gate_callee (f := 89) rfl ?_); refine goesL_ (some 24) rfl rfl Tryd.func89 (by kernel_rfl) rfl #[.slice A0 l0.length c0, .int .i64 a1, .int .i64 a2] rfl (by (try simp only [List.map_toArray, List.map_cons, List.map_nil]); first | done | rfl|(simp only [List.length_drop, List.length_take]; rfl)) ?_; (with_reducible refine (spec_edCut.calls k _ _ l0 a1 a2 t282 _ ?side1 ?side2 A9.out).mono ?_);(case side1 => repeat (first|exact (Kd.C_below HR0.out (a0_))|(with_reducible refine Kd.C_alloc ?_ _)|(with_reducible refine Kd.C_drewN ?_ _)|(with_reducible refine Kd.C_drew ?_)));(case side2 => exact HC0.out); rintro e w12 ⟨v283, rfl, ho0, hb⟩; refine ⟨_, rfl, ?_⟩; have n0_ := Aside0.mk (Kd.R_lower ho0 (below_size (a0_))); have n1_ := Aside0.mk (below_step (a0_) hb); clear HB; have HO284 := n0_; have HB := n1_; clear n0_ n1_; (try clear hb); (try clear hb2); (try clear hk); (try clear hi); (try clear ho0)))
   go_ret2
   exact ⟨_, a5_, (a2_ HO284.out), a0_⟩
  ·replace c8 := Bool.eq_false_iff.mpr c8
   subst c8
   have H1 : (some (([] : List (S93)), false)) = some (r1, r2) := by rw [if_neg (show ¬ (false = true) by decide)] at H; exact H
   clear H
   have H := H1
   clear H1
   simp only [Option.some.injEq, Prod.mk.injEq] at H
   obtain ⟨rfl, rfl⟩ := H
   go_enter Tryd.func30, Tryd.ntmps30
   go_wp2_with (first|((with_reducible refine gate_callee (f := 86) rfl ?_); refine goesL_ (some 10) rfl rfl Tryd.func86 (by kernel_rfl) rfl #[.slice A0 l0.length c0, .int .i64 a1] rfl (by (try simp only [List.map_toArray, List.map_cons, List.map_nil]); first | done | rfl|(simp only [List.length_drop, List.length_take]; rfl)) ?_; (with_reducible refine (spec_edHas.calls k _ _ l0 a1 true _ ?side1 ?side2 A4.out).mono ?_);(case side1 => exact (a10_ HR0.out));(case side2 => exact HC0.out); rintro e w13 ⟨rfl, hb⟩; refine ⟨_, rfl, ?_⟩; have n0_ := Aside0.mk (below_step (a0_) hb); clear HB; have HB := n0_; clear n0_; (try clear hb); (try clear hb2); (try clear hk); (try clear hi))|(go_at_call 88; (with_reducible refine (spec_edLength.calls k _ _ l0 t280 _ ?side1 ?side2 A6.out).mono ?_);(case side1 => exact (a11_ HR0.out));(case side2 => exact HC0.out); rintro e w14 ⟨rfl, hb⟩; have n0_ := Aside0.mk (below_step (a0_) hb); clear HB; have HB := n0_; clear n0_; (try clear hb); (try clear hb2); (try clear hk); (try clear hi))|(go_at_call 87; (with_reducible refine (spec_l1In.calls a2 (wrap64 (a1 + 1)) t280 false _ A7.out).mono ?_); rintro e w' ⟨rfl, ⟨nd, rfl⟩⟩))
   go_ret2
   exact ⟨_, a5_, a19_, a0_⟩
 ·replace c5 := Bool.eq_false_iff.mpr c5
  subst c5
  have H1 : (some (([] : List (S93)), false)) = some (r1, r2) := by rw [if_neg (show ¬ (false = true) by decide)] at H; exact H
  clear H
  have H := H1
  clear H1
  simp only [Option.some.injEq, Prod.mk.injEq] at H
  obtain ⟨rfl, rfl⟩ := H
  go_enter Tryd.func30, Tryd.ntmps30
  go_wp2_with (first|((with_reducible refine gate_callee (f := 86) rfl ?_); refine goesL_ (some 10) rfl rfl Tryd.func86 (by kernel_rfl) rfl #[.slice A0 l0.length c0, .int .i64 a1] rfl (by (try simp only [List.map_toArray, List.map_cons, List.map_nil]); first | done | rfl|(simp only [List.length_drop, List.length_take]; rfl)) ?_; (with_reducible refine (spec_edHas.calls k _ _ l0 a1 false _ ?side1 ?side2 A4.out).mono ?_);(case side1 => exact (a10_ HR0.out));(case side2 => exact HC0.out); rintro e w15 ⟨rfl, hb⟩; refine ⟨_, rfl, ?_⟩; have n0_ := Aside0.mk (below_step (a0_) hb); clear HB; have HB := n0_; clear n0_; (try clear hb); (try clear hb2); (try clear hk); (try clear hi)))
  go_ret2
  exact ⟨_, a5_, a19_, a0_⟩

/-! ### laws_pSameParts: function 31 -/
def laws_pSameParts.l0 : Nat → List (S93) → List (S93) → Int → Int → Option (Bool)
 | 0, _, _, _, _ => none
 | k + 1, x0, x1, x12, x13 => if x13 < x12 then (if 0 ≤ x13 then (if x13 < (x0.length : Int) then (if x13 < (x1.length : Int) then (if (!(((rd_T93 x0 x13).f0) == ((rd_T93 x1 x13).f0)) || (!(((rd_T93 x0 x13).f1) == ((rd_T93 x1 x13).f1)) || (!(((rd_T93 x0 x13).f2) == ((rd_T93 x1 x13).f2))))) = true then (some false) else (laws_pSameParts.l0 k x0 x1 x12 (wrap64 (x13 + 1)))) else (none)) else (none)) else (none)) else (some true)
def laws_pSameParts.f (k : Nat) (l0 : List (S93)) (l1 : List (S93)) : Option (Bool) := if (l0.length : Int) = (l1.length : Int) then (laws_pSameParts.l0 k l0 l1 (l0.length : Int) 0) else (some false)
theorem laws_pSameParts.mono_l : ∀ k, (∀ y0 y1 y2 y3, LeO (laws_pSameParts.l0 k y0 y1 y2 y3) (laws_pSameParts.l0 (k + 1) y0 y1 y2 y3))
 | 0 => fun _ _ _ _ r h => by simp [laws_pSameParts.l0] at h
 | k + 1 => by
  have ih0 := laws_pSameParts.mono_l k
  ·intro y0 y1 y2 y3
   unfold laws_pSameParts.l0
   repeat' first
   |(with_reducible exact ih0 _ _ _ _)
   |(with_reducible exact LeO.refl _)
   |(with_reducible exact LeO.none _)
   |(with_reducible refine LeO.ite ?_ ?_)
   |(with_reducible refine LeO.bind ?_ (fun _ => ?_))
   |exact ih0 _ _ _ _
   |exact LeO.none _
    | refine LeO.ite ?_ ?_
    | refine LeO.bind ?_ (fun _ => ?_)
theorem laws_pSameParts.mono : ∀ a0 a1 k, LeO (laws_pSameParts.f k a0 a1) (laws_pSameParts.f (k + 1) a0 a1) := by
 intro a0 a1 k
 have ih0 := laws_pSameParts.mono_l k
 unfold laws_pSameParts.f
 repeat' first
  |(with_reducible exact ih0 _ _ _ _)
  |(with_reducible exact LeO.refl _)
  |(with_reducible exact LeO.none _)
  |(with_reducible refine LeO.ite ?_ ?_)
  |(with_reducible refine LeO.bind ?_ (fun _ => ?_))
  |exact ih0 _ _ _ _
  |exact LeO.none _
   | refine LeO.ite ?_ ?_
   | refine LeO.bind ?_ (fun _ => ?_)
set_option maxHeartbeats 8000000 in
set_option maxRecDepth 100000 in
theorem laws_pSameParts.calls (k : Nat) (A0 : Option Addr) (c0 : Nat) (l0 : List (S93)) (A1 : Option Addr) (c1 : Nat) (l1 : List (S93)) (r : Bool) (w : World) (hr0 : Kd.C k93 w A0 l0.length l0) (hc0 : l0.length ≤ c0) (hr1 : Kd.C k93 w A1 l1.length l1) (hc1 : l1.length ≤ c1) (h : laws_pSameParts.f k l0 l1 = some r) :
 Calls Tryd.prog 31 #[.slice A0 l0.length c0, .slice A1 l1.length c1] w fun e w' => e = .returned (.bool r) ∧ Drawn0 w w' := by
 have hu93 := Tryd.underlying93
 have HR0 := Aside0.mk hr0
 have HC0 := Aside0.mk hc0
 clear hr0 hc0
 have HR1 := Aside0.mk hr1
 have HC1 := Aside0.mk hc1
 clear hr1 hc1
 have H : (if (l0.length : Int) = (l1.length : Int) then (laws_pSameParts.l0 k l0 l1 (l0.length : Int) 0) else (some false)) = some r := h
 clear h
 by_cases c3 : (l0.length : Int) = (l1.length : Int)
 ·rw [if_pos c3] at H
  have c3b0 : ((l0.length : Int) == (l1.length : Int)) = true := beq_iff_eq.mpr c3
  have c3b1 : ((l0.length : Int) != (l1.length : Int)) = false := bne_eq_false_iff_eq.mpr c3
  have c3b2 : (l0.length == l1.length) = true := by first | simpa using c3|(simp at c3 ⊢; omega)
  clear c3
  have H' := Aside0.mk H
  clear H
  go_enter Tryd.func31, Tryd.ntmps31
  go_wp2
  repeat (go_quiet (fail); try go_wp2)
  (try simp only [Act.put, List.setIfInBounds_toArray, List.set_cons_zero, List.set_cons_succ])
  go_loopg [13] k (fun kq v13 w' => ∃ (x13_1 : Int), v13 = .int .i64 x13_1 ∧ Aside0 (laws_pSameParts.l0 kq l0 l1 (l0.length : Int) x13_1 = some r) ∧ Aside0 (kq ≤ k) ∧ Drawn0 w w')
  case atStart => exact ⟨(0), (by first | rfl|(simp;done)|(simp [*];done)), H', ⟨Nat.le_refl _⟩, a18_⟩
  case round =>
   clear H'
   try clear c1
   try clear p2
   try clear c3
   try clear c3b0
   try clear c3b1
   try clear c3b2
   obtain ⟨x13_1, rfl, HA, HK1, ⟨m1, rfl⟩⟩ := hrel
   cases gk with
   | zero => exact absurd HA.out (by simp [laws_pSameParts.l0])
   | succ k1 =>
    have H := HA.out
    clear HA
    simp only [laws_pSameParts.l0] at H
    by_cases c4 : x13_1 < (l0.length : Int)
    ·rw [if_pos c4] at H
     have c4b0 : decide (x13_1 < (l0.length : Int)) = true := decide_eq_true c4
     clear c4
     by_cases c5 : 0 ≤ x13_1
     ·rw [if_pos c5] at H
      have c5b0 : decide (0 ≤ x13_1) = true := decide_eq_true c5
      clear c5
      by_cases c6 : x13_1 < (l0.length : Int)
      ·rw [if_pos c6] at H
       have c6b0 : decide (x13_1 < (l0.length : Int)) = true := decide_eq_true c6
       clear c6
       by_cases c7 : x13_1 < (l1.length : Int)
       ·rw [if_pos c7] at H
        have c7b0 : decide (x13_1 < (l1.length : Int)) = true := decide_eq_true c7
        clear c7
        by_cases c8 : (!(((rd_T93 l0 x13_1).f0) == ((rd_T93 l1 x13_1).f0)) || (!(((rd_T93 l0 x13_1).f1) == ((rd_T93 l1 x13_1).f1)) || (!(((rd_T93 l0 x13_1).f2) == ((rd_T93 l1 x13_1).f2))))) = true
        ·rw [if_pos c8] at H
         have c8b0 : (!(((rd_T93 l0 x13_1).f0) == ((rd_T93 l1 x13_1).f0)) || (!(((rd_T93 l0 x13_1).f1) == ((rd_T93 l1 x13_1).f1)) || (!(((rd_T93 l0 x13_1).f2) == ((rd_T93 l1 x13_1).f2))))) = true := c8
         clear c8
         obtain rfl := Option.some.inj H
         have p285 : 0 ≤ (x13_1 : Int) := of_decide_eq_true (a7_)
         have q285 : x13_1 < (l0.length : Int) := of_decide_eq_true (a7_)
         obtain ⟨ad285, e285, hx285_0, hx285_1, hx285_2⟩ := at_T93 HR0.out x13_1 p285 q285
         cases e285
         replace p285 := eq_true p285
         replace q285 := eq_true q285
         have p286 : 0 ≤ (x13_1 : Int) := of_decide_eq_true (a7_)
         have q286 : x13_1 < (l1.length : Int) := of_decide_eq_true (a7_)
         obtain ⟨ad286, e286, hx286_0, hx286_1, hx286_2⟩ := at_T93 HR1.out x13_1 p286 q286
         cases e286
         replace p286 := eq_true p286
         replace q286 := eq_true q286
         go_wp2
         repeat (go_quiet (fail); try go_wp2)
         go_ret
         exact ⟨by first | rfl|(simp;done)|(simp [*];done), a18_⟩
        ·rw [if_neg c8] at H
         have c8b0 : (!(((rd_T93 l0 x13_1).f0) == ((rd_T93 l1 x13_1).f0)) || (!(((rd_T93 l0 x13_1).f1) == ((rd_T93 l1 x13_1).f1)) || (!(((rd_T93 l0 x13_1).f2) == ((rd_T93 l1 x13_1).f2))))) = false := by simpa using c8
         clear c8
         have H' := Aside0.mk H
         clear H
         have p285 : 0 ≤ (x13_1 : Int) := of_decide_eq_true (a7_)
         have q285 : x13_1 < (l0.length : Int) := of_decide_eq_true (a7_)
         obtain ⟨ad285, e285, hx285_0, hx285_1, hx285_2⟩ := at_T93 HR0.out x13_1 p285 q285
         cases e285
         replace p285 := eq_true p285
         replace q285 := eq_true q285
         have p286 : 0 ≤ (x13_1 : Int) := of_decide_eq_true (a7_)
         have q286 : x13_1 < (l1.length : Int) := of_decide_eq_true (a7_)
         obtain ⟨ad286, e286, hx286_0, hx286_1, hx286_2⟩ := at_T93 HR1.out x13_1 p286 q286
         cases e286
         replace p286 := eq_true p286
         replace q286 := eq_true q286
         go_wp2
         repeat (go_quiet (fail); try go_wp2)
         go_roundg k1
         case measure => have := HK1.out; omega
         case rel => exact ⟨(wrap64 (x13_1 + 1)), (by first | rfl|(simp;done)|(simp [*];done)), H', ⟨by have := HK1.out; omega⟩, a18_⟩
       ·rw [if_neg c7] at H
        exact absurd H (by simp)
      ·rw [if_neg c6] at H
       exact absurd H (by simp)
     ·rw [if_neg c5] at H
      exact absurd H (by simp)
    ·rw [if_neg c4] at H
     have c4b0 : decide (x13_1 < (l0.length : Int)) = false := decide_eq_false c4
     clear c4
     obtain rfl := Option.some.inj H
     go_wp2
     repeat (go_quiet (fail); try go_wp2)
     go_ret
     exact ⟨by first | rfl|(simp;done)|(simp [*];done), a18_⟩
 ·rw [if_neg c3] at H
  have c3b0 : ((l0.length : Int) == (l1.length : Int)) = false := beq_eq_false_iff_ne.mpr c3
  have c3b1 : ((l0.length : Int) != (l1.length : Int)) = true := bne_iff_ne.mpr c3
  have c3b2 : (l0.length == l1.length) = false := by first | simpa using c3|(simp at c3 ⊢; omega)
  obtain rfl := Option.some.inj H
  go_enter Tryd.func31, Tryd.ntmps31
  go_wp2
  repeat (go_quiet (fail); try go_wp2)
  go_ret
  exact ⟨by first | rfl|(simp;done)|(simp [*];done), a18_⟩

/-! ### impl_LengthOfEdition: function 32 -/
def impl_LengthOfEdition.f (k : Nat) (l0 : List (S93)) : Option (Int × Bool) := (impl_isEdition.f k l0).bind fun t287 => (if t287 = true then ((impl_editionLength.f k l0).bind fun t288 => (some (t288, true))) else (some (0, false)))
theorem impl_LengthOfEdition.mono : ∀ a0 k, LeO (impl_LengthOfEdition.f k a0) (impl_LengthOfEdition.f (k + 1) a0) := by
 intro a0 k
 unfold impl_LengthOfEdition.f
 repeat' first
  |(with_reducible exact impl_editionLength.mono _ _)
  |(with_reducible exact impl_isEdition.mono _ _)
  |(with_reducible exact LeO.refl _)
  |(with_reducible exact LeO.none _)
  |(with_reducible refine LeO.ite ?_ ?_)
  |(with_reducible refine LeO.bind ?_ (fun _ => ?_))
  |exact impl_editionLength.mono _ _
  |exact impl_isEdition.mono _ _
  |exact LeO.none _
   | refine LeO.ite ?_ ?_
   | refine LeO.bind ?_ (fun _ => ?_)
set_option maxHeartbeats 8000000 in
set_option maxRecDepth 100000 in
theorem impl_LengthOfEdition.calls (k : Nat) (A0 : Option Addr) (c0 : Nat) (l0 : List (S93)) (r1 : Int) (r2 : Bool) (w : World) (hr0 : Kd.C k93 w A0 l0.length l0) (hc0 : l0.length ≤ c0) (h : impl_LengthOfEdition.f k l0 = some (r1, r2)) :
 Calls Tryd.prog 32 #[.slice A0 l0.length c0] w fun e w' => e = .returned (.tuple #[.int .i64 r1, .bool r2]) ∧ Below w.heap.size w w' := by
 have HR0 := Aside0.mk hr0
 have HC0 := Aside0.mk hc0
 clear hr0 hc0
 have HB := Aside0.mk (Below.refl w.heap.size w)
 have H : ((impl_isEdition.f k l0).bind fun t287 => (if t287 = true then ((impl_editionLength.f k l0).bind fun t288 => (some (t288, true))) else (some (0, false)))) = some (r1, r2) := h
 clear h
 replace H := Option.bind_eq_some_iff.mp H
 obtain ⟨t287, A20, H⟩ := H
 try dsimp only at H
 have A2 := Aside0.mk A20
 clear A20
 by_cases c3 : t287 = true
 ·subst c3
  have H1 : ((impl_editionLength.f k l0).bind fun t288 => (some (t288, true))) = some (r1, r2) := by rw [if_pos rfl] at H; exact H
  clear H
  have H := H1
  clear H1
  replace H := Option.bind_eq_some_iff.mp H
  obtain ⟨t288, A40, H⟩ := H
  try dsimp only at H
  have A4 := Aside0.mk A40
  clear A40
  simp only [Option.some.injEq, Prod.mk.injEq] at H
  obtain ⟨rfl, rfl⟩ := H
  go_enter Tryd.func32, Tryd.ntmps32
  go_wp2_with (first|((with_reducible refine gate_callee (f := 83) rfl ?_); refine goesL_ (some 5) rfl rfl Tryd.func83 (by kernel_rfl) rfl #[.slice A0 l0.length c0] rfl (by (try simp only [List.map_toArray, List.map_cons, List.map_nil]); first | done | rfl|(simp only [List.length_drop, List.length_take]; rfl)) ?_; (with_reducible refine (impl_isEdition.calls k _ _ l0 true _ ?side1 ?side2 A2.out).mono ?_);(case side1 => exact (a10_ HR0.out));(case side2 => exact HC0.out); rintro e w5 ⟨rfl, hb⟩; refine ⟨_, rfl, ?_⟩; have n0_ := Aside0.mk (below_step (a0_) hb); clear HB; have HB := n0_; clear n0_; (try clear hb); (try clear hb2); (try clear hk); (try clear hi))|((with_reducible refine gate_callee (f := 84) rfl ?_); refine goesL_ (some 8) rfl rfl Tryd.func84 (by kernel_rfl) rfl #[.slice A0 l0.length c0] rfl (by (try simp only [List.map_toArray, List.map_cons, List.map_nil]); first | done | rfl|(simp only [List.length_drop, List.length_take]; rfl)) ?_; (with_reducible refine (impl_editionLength.calls k _ _ l0 t288 _ ?side1 ?side2 A4.out).mono ?_);(case side1 => exact (a11_ HR0.out));(case side2 => exact HC0.out); rintro e w6 ⟨rfl, hb⟩; refine ⟨_, rfl, ?_⟩; have n0_ := Aside0.mk (below_step (a0_) hb); clear HB; have HB := n0_; clear n0_; (try clear hb); (try clear hb2); (try clear hk); (try clear hi)))
  go_ret2
  exact ⟨a5_, a0_⟩
 ·replace c3 := Bool.eq_false_iff.mpr c3
  subst c3
  have H1 : (some (0, false)) = some (r1, r2) := by rw [if_neg (show ¬ (false = true) by decide)] at H; exact H
  clear H
  have H := H1
  clear H1
  simp only [Option.some.injEq, Prod.mk.injEq] at H
  obtain ⟨rfl, rfl⟩ := H
  go_enter Tryd.func32, Tryd.ntmps32
  go_wp2_with (first|((with_reducible refine gate_callee (f := 83) rfl ?_); refine goesL_ (some 5) rfl rfl Tryd.func83 (by kernel_rfl) rfl #[.slice A0 l0.length c0] rfl (by (try simp only [List.map_toArray, List.map_cons, List.map_nil]); first | done | rfl|(simp only [List.length_drop, List.length_take]; rfl)) ?_; (with_reducible refine (impl_isEdition.calls k _ _ l0 false _ ?side1 ?side2 A2.out).mono ?_);(case side1 => exact (a10_ HR0.out));(case side2 => exact HC0.out); rintro e w7 ⟨rfl, hb⟩; refine ⟨_, rfl, ?_⟩; have n0_ := Aside0.mk (below_step (a0_) hb); clear HB; have HB := n0_; clear n0_; (try clear hb); (try clear hb2); (try clear hk); (try clear hi)))
  go_ret2
  exact ⟨a5_, a0_⟩

end Go.Proofs.YtkkhcemkppmgdaaDoor.QFnParts
