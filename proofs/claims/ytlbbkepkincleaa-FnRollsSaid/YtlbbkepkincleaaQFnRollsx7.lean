/- Written by a program of this session (the kit's printer, with leaf contracts proved by hand put in): what each Go function computes, and that the call computes it. No condition but those that each theorem names. -/
import Derived.Test.YtlbbkepkincleaaQFnRollsx0
import Derived.Test.YtlbbkepkincleaaQFnRollsx2
import Derived.Test.YtlbbkepkincleaaQFnRollsx3
import Derived.Test.YtlbbkepkincleaaQFnRollsx6
namespace Go.Proofs.Ytlbbkepkincleaa.QFnRolls
open Go.RowKit Go.Proofs.YtlbbkepkincleaaW.PrintWords Go.Proofs.YtlbbkepkincleaaW.PrintLast Go.Proofs.YtlbbkepkincleaaW.PrintMore
attribute [local go_sem] max2_int min2_int max_two min_two max_three min_three max_four min_four   -- for this text's walks alone
set_option linter.unusedVariables false
set_option linter.unusedSimpArgs false

/-! ### spec_caGood: function 74 -/
mutual
def spec_caGood.l0 : Nat → List (S29) → List (S29) → Int → Int → Option (Bool)
 | 0, _, _, _, _ => none
 | k + 1, x0, x5, x6, x7 => if x7 < x6 then (if 0 ≤ x7 then (if x7 < (x5.length : Int) then ((spec_caWord.f k ((rd_T29 x5 x7).f0)).bind fun t252 => (if t252 = true then ((spec_caWord.f k ((rd_T29 x5 x7).f1)).bind fun t253 => (if t253 = true then ((spec_caFind.f k x0 ((rd_T29 x5 x7).f0)).bind fun t254 => (if t254 = x7 then ((spec_l1In.f ((rd_T29 x5 x7).f2) 1800 2100).bind fun t255 => (if t255 = true then ((spec_l1In.f ((rd_T29 x5 x7).f3) (-1) (wrap64 (x7 - 1))).bind fun t256 => (spec_caGood.j1 k x0 x5 x6 x7 (!t256) ((rd_T29 x5 x7).f0) ((rd_T29 x5 x7).f1) ((rd_T29 x5 x7).f2) ((rd_T29 x5 x7).f3))) else (spec_caGood.j1 k x0 x5 x6 x7 true ((rd_T29 x5 x7).f0) ((rd_T29 x5 x7).f1) ((rd_T29 x5 x7).f2) ((rd_T29 x5 x7).f3)))) else (spec_caGood.j1 k x0 x5 x6 x7 true ((rd_T29 x5 x7).f0) ((rd_T29 x5 x7).f1) ((rd_T29 x5 x7).f2) ((rd_T29 x5 x7).f3)))) else (spec_caGood.j1 k x0 x5 x6 x7 true ((rd_T29 x5 x7).f0) ((rd_T29 x5 x7).f1) ((rd_T29 x5 x7).f2) ((rd_T29 x5 x7).f3)))) else (spec_caGood.j1 k x0 x5 x6 x7 true ((rd_T29 x5 x7).f0) ((rd_T29 x5 x7).f1) ((rd_T29 x5 x7).f2) ((rd_T29 x5 x7).f3)))) else (none)) else (none)) else (some (decide ((x0.length : Int) ≤ 30)))
def spec_caGood.j1 : Nat → List (S29) → List (S29) → Int → Int → Bool → ByteArray → ByteArray → Int → Int → Option (Bool)
 | 0, _, _, _, _, _, _, _, _, _ => none
 | k + 1, x0, x5, x6, x7, x43, x252000, x252001, x252002, x252003 => if x43 = true then (some false) else (if x252003 ≥ 0 then (if 0 ≤ x252003 then (if x252003 < (x0.length : Int) then (if ((rd_T29 x0 x252003).f2) > x252002 then (some false) else (spec_caGood.l0 k x0 x5 x6 (wrap64 (x7 + 1)))) else (none)) else (none)) else (spec_caGood.l0 k x0 x5 x6 (wrap64 (x7 + 1))))
end
def spec_caGood.f (k : Nat) (l0 : List (S29)) : Option (Bool) := spec_caGood.l0 k l0 l0 (l0.length : Int) 0
theorem spec_caGood.mono_l : ∀ k, (∀ y0 y1 y2 y3, LeO (spec_caGood.l0 k y0 y1 y2 y3) (spec_caGood.l0 (k + 1) y0 y1 y2 y3)) ∧ (∀ y0 y1 y2 y3 y4 y5 y6 y7 y8, LeO (spec_caGood.j1 k y0 y1 y2 y3 y4 y5 y6 y7 y8) (spec_caGood.j1 (k + 1) y0 y1 y2 y3 y4 y5 y6 y7 y8))
 | 0 => ⟨fun _ _ _ _ r h => by simp [spec_caGood.l0] at h, fun _ _ _ _ _ _ _ _ _ r h => by simp [spec_caGood.j1] at h⟩
 | k + 1 => by
  obtain ⟨ih0, ih1⟩ := spec_caGood.mono_l k
  refine ⟨?_, ?_⟩
  ·intro y0 y1 y2 y3
   unfold spec_caGood.l0
   repeat' first
   |(with_reducible exact ih0 _ _ _ _)
   |(with_reducible exact ih1 _ _ _ _ _ _ _ _ _)
   |(with_reducible exact spec_caFind.mono _ _ _)
   |(with_reducible exact spec_caWord.mono _ _)
   |(with_reducible exact LeO.refl _)
   |(with_reducible exact LeO.none _)
   |(with_reducible refine LeO.ite ?_ ?_)
   |(with_reducible refine LeO.bind ?_ (fun _ => ?_))
   |exact ih0 _ _ _ _
   |exact ih1 _ _ _ _ _ _ _ _ _
   |exact spec_caFind.mono _ _ _
   |exact spec_caWord.mono _ _
   |exact LeO.none _
    | refine LeO.ite ?_ ?_
    | refine LeO.bind ?_ (fun _ => ?_)
  ·intro y0 y1 y2 y3 y4 y5 y6 y7 y8
   unfold spec_caGood.j1
   repeat' first
   |(with_reducible exact ih0 _ _ _ _)
   |(with_reducible exact ih1 _ _ _ _ _ _ _ _ _)
   |(with_reducible exact spec_caFind.mono _ _ _)
   |(with_reducible exact spec_caWord.mono _ _)
   |(with_reducible exact LeO.refl _)
   |(with_reducible exact LeO.none _)
   |(with_reducible refine LeO.ite ?_ ?_)
   |(with_reducible refine LeO.bind ?_ (fun _ => ?_))
   |exact ih0 _ _ _ _
   |exact ih1 _ _ _ _ _ _ _ _ _
   |exact spec_caFind.mono _ _ _
   |exact spec_caWord.mono _ _
   |exact LeO.none _
    | refine LeO.ite ?_ ?_
    | refine LeO.bind ?_ (fun _ => ?_)
theorem spec_caGood.mono : ∀ a0 k, LeO (spec_caGood.f k a0) (spec_caGood.f (k + 1) a0) := by
 intro a0 k
 obtain ⟨ih0, ih1⟩ := spec_caGood.mono_l k
 unfold spec_caGood.f
 repeat' first
  |(with_reducible exact ih0 _ _ _ _)
  |(with_reducible exact ih1 _ _ _ _ _ _ _ _ _)
  |(with_reducible exact spec_caFind.mono _ _ _)
  |(with_reducible exact spec_caWord.mono _ _)
  |(with_reducible exact LeO.refl _)
  |(with_reducible exact LeO.none _)
  |(with_reducible refine LeO.ite ?_ ?_)
  |(with_reducible refine LeO.bind ?_ (fun _ => ?_))
  |exact ih0 _ _ _ _
  |exact ih1 _ _ _ _ _ _ _ _ _
  |exact spec_caFind.mono _ _ _
  |exact spec_caWord.mono _ _
  |exact LeO.none _
   | refine LeO.ite ?_ ?_
   | refine LeO.bind ?_ (fun _ => ?_)
set_option maxHeartbeats 8000000 in
set_option maxRecDepth 100000 in
theorem spec_caGood.calls (k : Nat) (A0 : Option Addr) (c0 : Nat) (l0 : List (S29)) (r : Bool) (w : World) (hr0 : Kd.C k29 w A0 l0.length l0) (hc0 : l0.length ≤ c0) (h : spec_caGood.f k l0 = some r) :
 Calls Try.prog 74 #[.slice A0 l0.length c0] w fun e w' => e = .returned (.bool r) ∧ Below w.heap.size w w' := by
 have hu29 := Try.underlying29
 have HR0 := Aside0.mk hr0
 have HC0 := Aside0.mk hc0
 clear hr0 hc0
 have HB := Aside0.mk (Below.refl w.heap.size w)
 have H : (spec_caGood.l0 k l0 l0 (l0.length : Int) 0) = some r := h
 clear h
 have H' := Aside0.mk H
 clear H
 go_enter Try.func74, Try.ntmps74
 go_wp2
 repeat (go_quiet (fail); try go_wp2)
 go_loopg [7] k (fun kq v7 w' => ∃ (x7_1 : Int), v7 = .int .i64 x7_1 ∧ Aside0 (spec_caGood.l0 kq l0 l0 (l0.length : Int) x7_1 = some r) ∧ Aside0 (kq ≤ k) ∧ Aside0 (Below w.heap.size w w'))
 case atStart => exact ⟨(0), (by first | rfl|(simp;done)|(simp [*];done)), H', ⟨Nat.le_refl _⟩, ⟨by repeat (first|(with_reducible first|exact HB.out|apply below_alloc|apply pw_below_drewN|apply below_drew1)|exact HB.out)⟩⟩
 case round =>
  clear H'
  obtain ⟨x7_1, rfl, HA, HK1, HB⟩ := hrel
  cases gk with
  | zero => exact absurd HA.out (by simp [spec_caGood.l0])
  | succ k1 =>
   have H := HA.out
   clear HA
   simp only [spec_caGood.l0] at H
   by_cases c2 : x7_1 < (l0.length : Int)
   ·rw [if_pos c2] at H
    have c2b0 : decide (x7_1 < (l0.length : Int)) = true := decide_eq_true c2
    clear c2
    by_cases c3 : 0 ≤ x7_1
    ·rw [if_pos c3] at H
     have c3b0 : decide (0 ≤ x7_1) = true := decide_eq_true c3
     clear c3
     by_cases c4 : x7_1 < (l0.length : Int)
     ·rw [if_pos c4] at H
      have c4b0 : decide (x7_1 < (l0.length : Int)) = true := decide_eq_true c4
      clear c4
      have HC5 := Aside0.mk H
      clear H
      have p250 : 0 ≤ (x7_1 : Int) := of_decide_eq_true (by first|(with_reducible assumption) | assumption)
      have q250 : x7_1 < (l0.length : Int) := of_decide_eq_true (by first|(with_reducible assumption) | assumption)
      obtain ⟨ad250, e250, hx250_0, hx250_1, hx250_2, hx250_3⟩ := at_T29 HR0.out x7_1 p250 q250
      cases e250
      replace hx250_0 := (HB.out.cell (World.block_lt_of_cell? w _ hx250_0)).trans hx250_0
      replace hx250_1 := (HB.out.cell (World.block_lt_of_cell? w _ hx250_1)).trans hx250_1
      replace hx250_2 := (HB.out.cell (World.block_lt_of_cell? w _ hx250_2)).trans hx250_2
      replace hx250_3 := (HB.out.cell (World.block_lt_of_cell? w _ hx250_3)).trans hx250_3
      replace p250 := eq_true p250
      replace q250 := eq_true q250
      iterate 6 (go_upto_region 4 with (first|((with_reducible refine gate_dst (N := 4) rfl ?_); refine box_event ?hg (N := 4) ?hd (cs := #[.string (⟨#[]⟩ : ByteArray), .string (⟨#[]⟩ : ByteArray), .int .i64 0, .int .i64 0]) (t := 29) ?hr ?_;(case hd => rfl);(case hg => rfl);(case hr => first|(go_simp;done)|(go_simp; rfl)); intro gb251 hg w6 hbox hb; have n0_ := Aside0.mk (below_step (by repeat (first|(with_reducible first|exact HB.out|apply below_alloc|apply pw_below_drewN|apply below_drew1)|exact HB.out)) hb); have n1_ := Aside0.mk (hbox); have n2_ := Aside0.mk ((by rw [hg]; exact (below_size (by repeat (first|(with_reducible first|exact HB.out|apply below_alloc|apply pw_below_drewN|apply below_drew1)|exact HB.out))) : w.heap.size ≤ gb251)); have n3_ := Aside0.mk ((by rw [hg]; exact (below_size (by repeat (first|(with_reducible first|exact HB.out|apply below_alloc|apply pw_below_drewN|apply below_drew1)|exact HB.out))) : w.heap.size ≤ gb251)); clear HB; have HB := n0_; have BK251 := n1_; have GW251 := n2_; have GE251 := n3_; clear n0_ n1_ n2_ n3_; clear hb hbox hg; have hcz7_0 : w6.cell? ⟨gb251, 0, none⟩ = some (.string (⟨#[]⟩ : ByteArray)) := (blk_cell BK251.out 0).trans rfl; have hcz7_1 : w6.cell? ⟨gb251, 1, none⟩ = some (.string (⟨#[]⟩ : ByteArray)) := (blk_cell BK251.out 1).trans rfl; have hcz7_2 : w6.cell? ⟨gb251, 2, none⟩ = some (.int .i64 0) := (blk_cell BK251.out 2).trans rfl; have hcz7_3 : w6.cell? ⟨gb251, 3, none⟩ = some (.int .i64 0) := (blk_cell BK251.out 3).trans rfl; have hfz7_0 := blk_frozen BK251.out 0; have hfz7_1 := blk_frozen BK251.out 1; have hfz7_2 := blk_frozen BK251.out 2; have hfz7_3 := blk_frozen BK251.out 3)); try go_quiet (fail))
      (try simp only [Act.put, List.setIfInBounds_toArray, List.set_cons_zero, List.set_cons_succ])
      go_cut [43] (fun v43 wc => ∃ (kq : Nat) (x43_4 : Bool), v43 = .bool x43_4 ∧ Aside0 (spec_caGood.j1 kq l0 l0 (l0.length : Int) x7_1 x43_4 ((rd_T29 l0 x7_1).f0) ((rd_T29 l0 x7_1).f1) ((rd_T29 l0 x7_1).f2) ((rd_T29 l0 x7_1).f3) = some r) ∧ Aside0 (kq ≤ k1) ∧ Aside0 (wc.heap[gb251]? = some (.cells #[.string ((rd_T29 l0 x7_1).f0), .string ((rd_T29 l0 x7_1).f1), .int .i64 ((rd_T29 l0 x7_1).f2), .int .i64 ((rd_T29 l0 x7_1).f3)] 29 (0, 0))) ∧ Aside0 (Below w.heap.size w wc))
      case first =>
       have H := HC5.out
       clear HC5
       replace H := Option.bind_eq_some_iff.mp H
       obtain ⟨t252, A80, H⟩ := H
       try dsimp only at H
       have A8 := Aside0.mk A80
       clear A80
       by_cases c9 : t252 = true
       ·subst c9
        have H1 : ((spec_caWord.f k1 ((rd_T29 l0 x7_1).f1)).bind fun t253 => (if t253 = true then ((spec_caFind.f k1 l0 ((rd_T29 l0 x7_1).f0)).bind fun t254 => (if t254 = x7_1 then ((spec_l1In.f ((rd_T29 l0 x7_1).f2) 1800 2100).bind fun t255 => (if t255 = true then ((spec_l1In.f ((rd_T29 l0 x7_1).f3) (-1) (wrap64 (x7_1 - 1))).bind fun t256 => (spec_caGood.j1 k1 l0 l0 (l0.length : Int) x7_1 (!t256) ((rd_T29 l0 x7_1).f0) ((rd_T29 l0 x7_1).f1) ((rd_T29 l0 x7_1).f2) ((rd_T29 l0 x7_1).f3))) else (spec_caGood.j1 k1 l0 l0 (l0.length : Int) x7_1 true ((rd_T29 l0 x7_1).f0) ((rd_T29 l0 x7_1).f1) ((rd_T29 l0 x7_1).f2) ((rd_T29 l0 x7_1).f3)))) else (spec_caGood.j1 k1 l0 l0 (l0.length : Int) x7_1 true ((rd_T29 l0 x7_1).f0) ((rd_T29 l0 x7_1).f1) ((rd_T29 l0 x7_1).f2) ((rd_T29 l0 x7_1).f3)))) else (spec_caGood.j1 k1 l0 l0 (l0.length : Int) x7_1 true ((rd_T29 l0 x7_1).f0) ((rd_T29 l0 x7_1).f1) ((rd_T29 l0 x7_1).f2) ((rd_T29 l0 x7_1).f3)))) = some r := by rw [if_pos rfl] at H; exact H
        clear H
        have H := H1
        clear H1
        replace H := Option.bind_eq_some_iff.mp H
        obtain ⟨t253, A100, H⟩ := H
        try dsimp only at H
        have A10 := Aside0.mk A100
        clear A100
        by_cases c11 : t253 = true
        ·subst c11
         have H1 : ((spec_caFind.f k1 l0 ((rd_T29 l0 x7_1).f0)).bind fun t254 => (if t254 = x7_1 then ((spec_l1In.f ((rd_T29 l0 x7_1).f2) 1800 2100).bind fun t255 => (if t255 = true then ((spec_l1In.f ((rd_T29 l0 x7_1).f3) (-1) (wrap64 (x7_1 - 1))).bind fun t256 => (spec_caGood.j1 k1 l0 l0 (l0.length : Int) x7_1 (!t256) ((rd_T29 l0 x7_1).f0) ((rd_T29 l0 x7_1).f1) ((rd_T29 l0 x7_1).f2) ((rd_T29 l0 x7_1).f3))) else (spec_caGood.j1 k1 l0 l0 (l0.length : Int) x7_1 true ((rd_T29 l0 x7_1).f0) ((rd_T29 l0 x7_1).f1) ((rd_T29 l0 x7_1).f2) ((rd_T29 l0 x7_1).f3)))) else (spec_caGood.j1 k1 l0 l0 (l0.length : Int) x7_1 true ((rd_T29 l0 x7_1).f0) ((rd_T29 l0 x7_1).f1) ((rd_T29 l0 x7_1).f2) ((rd_T29 l0 x7_1).f3)))) = some r := by rw [if_pos rfl] at H; exact H
         clear H
         have H := H1
         clear H1
         replace H := Option.bind_eq_some_iff.mp H
         obtain ⟨t254, A120, H⟩ := H
         try dsimp only at H
         have A12 := Aside0.mk A120
         clear A120
         by_cases c13 : t254 = x7_1
         ·rw [if_pos c13] at H
          have c13b0 : (t254 == x7_1) = true := beq_iff_eq.mpr c13
          have c13b1 : (t254 != x7_1) = false := bne_eq_false_iff_eq.mpr c13
          clear c13
          (first|rw [c13b0]|(simp only [i64_w, i32_w]; rw [c13b0]) | skip)
          replace H := Option.bind_eq_some_iff.mp H
          obtain ⟨t255, A140, H⟩ := H
          try dsimp only at H
          have A14 := Aside0.mk A140
          clear A140
          by_cases c15 : t255 = true
          ·subst c15
           have H1 : ((spec_l1In.f ((rd_T29 l0 x7_1).f3) (-1) (wrap64 (x7_1 - 1))).bind fun t256 => (spec_caGood.j1 k1 l0 l0 (l0.length : Int) x7_1 (!t256) ((rd_T29 l0 x7_1).f0) ((rd_T29 l0 x7_1).f1) ((rd_T29 l0 x7_1).f2) ((rd_T29 l0 x7_1).f3))) = some r := by rw [if_pos rfl] at H; exact H
           clear H
           have H := H1
           clear H1
           replace H := Option.bind_eq_some_iff.mp H
           obtain ⟨t256, A160, H⟩ := H
           try dsimp only at H
           have A16 := Aside0.mk A160
           clear A160
           have H' := Aside0.mk H
           clear H
           have hcz17_0 : w6.cell? ⟨gb251, 0, none⟩ = some (.string (⟨#[]⟩ : ByteArray)) := (blk_cell BK251.out 0).trans rfl
           have hcz17_1 : w6.cell? ⟨gb251, 1, none⟩ = some (.string (⟨#[]⟩ : ByteArray)) := (blk_cell BK251.out 1).trans rfl
           have hcz17_2 : w6.cell? ⟨gb251, 2, none⟩ = some (.int .i64 0) := (blk_cell BK251.out 2).trans rfl
           have hcz17_3 : w6.cell? ⟨gb251, 3, none⟩ = some (.int .i64 0) := (blk_cell BK251.out 3).trans rfl
           have hfz17_0 := blk_frozen BK251.out 0
           have hfz17_1 := blk_frozen BK251.out 1
           have hfz17_2 := blk_frozen BK251.out 2
           have hfz17_3 := blk_frozen BK251.out 3
           iterate 6 (go_wp2_with (first|(go_at_call 78; (with_reducible refine (spec_caWord.calls k1 ((rd_T29 l0 x7_1).f0) true _ A8.out).mono ?_); rintro e w' ⟨rfl, ⟨nd, rfl⟩⟩; (try first|exact ⟨rfl, _, World.drewN_drewN _ _ _⟩|exact ⟨rfl, _, Eq.trans (World.drewN_drewN _ _ _) (congrArg (World.drewN _) (Nat.add_assoc _ _ _))⟩))|(go_at_call 78; (with_reducible refine (spec_caWord.calls k1 ((rd_T29 l0 x7_1).f1) true _ A10.out).mono ?_); rintro e w' ⟨rfl, ⟨nd, rfl⟩⟩; (try first|exact ⟨rfl, _, World.drewN_drewN _ _ _⟩|exact ⟨rfl, _, Eq.trans (World.drewN_drewN _ _ _) (congrArg (World.drewN _) (Nat.add_assoc _ _ _))⟩))|(go_at_call 79; (with_reducible refine (spec_caFind.calls k1 _ _ l0 ((rd_T29 l0 x7_1).f0) t254 _ ?side1 ?side2 A12.out).mono ?_);(case side1 => exact Kd.C_below HR0.out (by repeat (first|(with_reducible first|exact HB.out|apply below_alloc|apply pw_below_drewN|apply below_drew1 | refine below_set ?_ GE251.out)|exact HB.out)));(case side2 => exact HC0.out); rintro e w18 ⟨rfl, hb⟩; have n0_ := Aside0.mk (blk_below (g := gb251) (o := .cells #[.string ((rd_T29 l0 x7_1).f0), .string ((rd_T29 l0 x7_1).f1), .int .i64 ((rd_T29 l0 x7_1).f2), .int .i64 ((rd_T29 l0 x7_1).f3)] 29 (0, 0)) (by (with_reducible repeat (first|refine blk_drewN ?_ _ | refine blk_drew ?_ | refine blk_alloc ?_ _)); refine blk_put (cs := #[.string ((rd_T29 l0 x7_1).f0), .string ((rd_T29 l0 x7_1).f1), .int .i64 ((rd_T29 l0 x7_1).f2), .int .i64 0]) ?_ 3 _ rfl; (with_reducible repeat (first|refine blk_drewN ?_ _ | refine blk_drew ?_ | refine blk_alloc ?_ _)); refine blk_put (cs := #[.string ((rd_T29 l0 x7_1).f0), .string ((rd_T29 l0 x7_1).f1), .int .i64 0, .int .i64 0]) ?_ 2 _ rfl; (with_reducible repeat (first|refine blk_drewN ?_ _ | refine blk_drew ?_ | refine blk_alloc ?_ _)); refine blk_put (cs := #[.string ((rd_T29 l0 x7_1).f0), .string (⟨#[]⟩ : ByteArray), .int .i64 0, .int .i64 0]) ?_ 1 _ rfl; (with_reducible repeat (first|refine blk_drewN ?_ _ | refine blk_drew ?_ | refine blk_alloc ?_ _)); refine blk_put (cs := #[.string (⟨#[]⟩ : ByteArray), .string (⟨#[]⟩ : ByteArray), .int .i64 0, .int .i64 0]) ?_ 0 _ rfl; (with_reducible repeat (first|refine blk_drewN ?_ _ | refine blk_drew ?_ | refine blk_alloc ?_ _)); exact BK251.out) hb); have n1_ := Aside0.mk (below_step (by repeat (first|(with_reducible first|exact HB.out|apply below_alloc|apply pw_below_drewN|apply below_drew1 | refine below_set ?_ GE251.out)|exact HB.out)) hb); clear BK251; clear HB; have BK251 := n0_; have HB := n1_; clear n0_ n1_; (try clear hb); (try clear hb2); (try clear hk); (try clear hi); have hcz19_0 : w18.cell? ⟨gb251, 0, none⟩ = some (.string ((rd_T29 l0 x7_1).f0)) := (blk_cell BK251.out 0).trans rfl; have hcz19_1 : w18.cell? ⟨gb251, 1, none⟩ = some (.string ((rd_T29 l0 x7_1).f1)) := (blk_cell BK251.out 1).trans rfl; have hcz19_2 : w18.cell? ⟨gb251, 2, none⟩ = some (.int .i64 ((rd_T29 l0 x7_1).f2)) := (blk_cell BK251.out 2).trans rfl; have hcz19_3 : w18.cell? ⟨gb251, 3, none⟩ = some (.int .i64 ((rd_T29 l0 x7_1).f3)) := (blk_cell BK251.out 3).trans rfl; have hfz19_0 := blk_frozen BK251.out 0; have hfz19_1 := blk_frozen BK251.out 1; have hfz19_2 := blk_frozen BK251.out 2; have hfz19_3 := blk_frozen BK251.out 3)|(go_at_call 97; (with_reducible refine (spec_l1In.calls ((rd_T29 l0 x7_1).f2) 1800 2100 true _ A14.out).mono ?_); rintro e w' ⟨rfl, ⟨nd, rfl⟩⟩; (try first|exact ⟨rfl, _, World.drewN_drewN _ _ _⟩|exact ⟨rfl, _, Eq.trans (World.drewN_drewN _ _ _) (congrArg (World.drewN _) (Nat.add_assoc _ _ _))⟩))|(go_at_call 97; (with_reducible refine (spec_l1In.calls ((rd_T29 l0 x7_1).f3) (-1) (wrap64 (x7_1 - 1)) t256 _ A16.out).mono ?_); rintro e w' ⟨rfl, ⟨nd, rfl⟩⟩; (try first|exact ⟨rfl, _, World.drewN_drewN _ _ _⟩|exact ⟨rfl, _, Eq.trans (World.drewN_drewN _ _ _) (congrArg (World.drewN _) (Nat.add_assoc _ _ _))⟩))); try go_quiet (first|(go_at_call 78; (with_reducible refine (spec_caWord.calls k1 ((rd_T29 l0 x7_1).f0) true _ A8.out).mono ?_); rintro e w' ⟨rfl, ⟨nd, rfl⟩⟩; (try first|exact ⟨rfl, _, World.drewN_drewN _ _ _⟩|exact ⟨rfl, _, Eq.trans (World.drewN_drewN _ _ _) (congrArg (World.drewN _) (Nat.add_assoc _ _ _))⟩))|(go_at_call 78; (with_reducible refine (spec_caWord.calls k1 ((rd_T29 l0 x7_1).f1) true _ A10.out).mono ?_); rintro e w' ⟨rfl, ⟨nd, rfl⟩⟩; (try first|exact ⟨rfl, _, World.drewN_drewN _ _ _⟩|exact ⟨rfl, _, Eq.trans (World.drewN_drewN _ _ _) (congrArg (World.drewN _) (Nat.add_assoc _ _ _))⟩))|(go_at_call 97; (with_reducible refine (spec_l1In.calls ((rd_T29 l0 x7_1).f2) 1800 2100 true _ A14.out).mono ?_); rintro e w' ⟨rfl, ⟨nd, rfl⟩⟩; (try first|exact ⟨rfl, _, World.drewN_drewN _ _ _⟩|exact ⟨rfl, _, Eq.trans (World.drewN_drewN _ _ _) (congrArg (World.drewN _) (Nat.add_assoc _ _ _))⟩))|(go_at_call 97; (with_reducible refine (spec_l1In.calls ((rd_T29 l0 x7_1).f3) (-1) (wrap64 (x7_1 - 1)) t256 _ A16.out).mono ?_); rintro e w' ⟨rfl, ⟨nd, rfl⟩⟩; (try first|exact ⟨rfl, _, World.drewN_drewN _ _ _⟩|exact ⟨rfl, _, Eq.trans (World.drewN_drewN _ _ _) (congrArg (World.drewN _) (Nat.add_assoc _ _ _))⟩))))
           go_meet
           case rel => exact ⟨_, (!t256), (by first | rfl|(simp;done)|(simp [*];done)), H', ⟨by have := HK1.out; first | omega|exact Nat.le_refl _⟩, ⟨by (with_reducible repeat (first|refine blk_drewN ?_ _ | refine blk_drew ?_ | refine blk_alloc ?_ _)); exact BK251.out⟩, ⟨by repeat (first|(with_reducible first|exact HB.out|apply below_alloc|apply pw_below_drewN|apply below_drew1 | refine below_set ?_ GE251.out)|exact HB.out)⟩⟩
          ·replace c15 := Bool.eq_false_iff.mpr c15
           subst c15
           have H1 : (spec_caGood.j1 k1 l0 l0 (l0.length : Int) x7_1 true ((rd_T29 l0 x7_1).f0) ((rd_T29 l0 x7_1).f1) ((rd_T29 l0 x7_1).f2) ((rd_T29 l0 x7_1).f3)) = some r := by rw [if_neg (show ¬ (false = true) by decide)] at H; exact H
           clear H
           have H := H1
           clear H1
           have H' := Aside0.mk H
           clear H
           have hcz20_0 : w6.cell? ⟨gb251, 0, none⟩ = some (.string (⟨#[]⟩ : ByteArray)) := (blk_cell BK251.out 0).trans rfl
           have hcz20_1 : w6.cell? ⟨gb251, 1, none⟩ = some (.string (⟨#[]⟩ : ByteArray)) := (blk_cell BK251.out 1).trans rfl
           have hcz20_2 : w6.cell? ⟨gb251, 2, none⟩ = some (.int .i64 0) := (blk_cell BK251.out 2).trans rfl
           have hcz20_3 : w6.cell? ⟨gb251, 3, none⟩ = some (.int .i64 0) := (blk_cell BK251.out 3).trans rfl
           have hfz20_0 := blk_frozen BK251.out 0
           have hfz20_1 := blk_frozen BK251.out 1
           have hfz20_2 := blk_frozen BK251.out 2
           have hfz20_3 := blk_frozen BK251.out 3
           iterate 6 (go_wp2_with (first|(go_at_call 78; (with_reducible refine (spec_caWord.calls k1 ((rd_T29 l0 x7_1).f0) true _ A8.out).mono ?_); rintro e w' ⟨rfl, ⟨nd, rfl⟩⟩; (try first|exact ⟨rfl, _, World.drewN_drewN _ _ _⟩|exact ⟨rfl, _, Eq.trans (World.drewN_drewN _ _ _) (congrArg (World.drewN _) (Nat.add_assoc _ _ _))⟩))|(go_at_call 78; (with_reducible refine (spec_caWord.calls k1 ((rd_T29 l0 x7_1).f1) true _ A10.out).mono ?_); rintro e w' ⟨rfl, ⟨nd, rfl⟩⟩; (try first|exact ⟨rfl, _, World.drewN_drewN _ _ _⟩|exact ⟨rfl, _, Eq.trans (World.drewN_drewN _ _ _) (congrArg (World.drewN _) (Nat.add_assoc _ _ _))⟩))|(go_at_call 79; (with_reducible refine (spec_caFind.calls k1 _ _ l0 ((rd_T29 l0 x7_1).f0) t254 _ ?side1 ?side2 A12.out).mono ?_);(case side1 => exact Kd.C_below HR0.out (by repeat (first|(with_reducible first|exact HB.out|apply below_alloc|apply pw_below_drewN|apply below_drew1 | refine below_set ?_ GE251.out)|exact HB.out)));(case side2 => exact HC0.out); rintro e w21 ⟨rfl, hb⟩; have n0_ := Aside0.mk (blk_below (g := gb251) (o := .cells #[.string ((rd_T29 l0 x7_1).f0), .string ((rd_T29 l0 x7_1).f1), .int .i64 ((rd_T29 l0 x7_1).f2), .int .i64 ((rd_T29 l0 x7_1).f3)] 29 (0, 0)) (by (with_reducible repeat (first|refine blk_drewN ?_ _ | refine blk_drew ?_ | refine blk_alloc ?_ _)); refine blk_put (cs := #[.string ((rd_T29 l0 x7_1).f0), .string ((rd_T29 l0 x7_1).f1), .int .i64 ((rd_T29 l0 x7_1).f2), .int .i64 0]) ?_ 3 _ rfl; (with_reducible repeat (first|refine blk_drewN ?_ _ | refine blk_drew ?_ | refine blk_alloc ?_ _)); refine blk_put (cs := #[.string ((rd_T29 l0 x7_1).f0), .string ((rd_T29 l0 x7_1).f1), .int .i64 0, .int .i64 0]) ?_ 2 _ rfl; (with_reducible repeat (first|refine blk_drewN ?_ _ | refine blk_drew ?_ | refine blk_alloc ?_ _)); refine blk_put (cs := #[.string ((rd_T29 l0 x7_1).f0), .string (⟨#[]⟩ : ByteArray), .int .i64 0, .int .i64 0]) ?_ 1 _ rfl; (with_reducible repeat (first|refine blk_drewN ?_ _ | refine blk_drew ?_ | refine blk_alloc ?_ _)); refine blk_put (cs := #[.string (⟨#[]⟩ : ByteArray), .string (⟨#[]⟩ : ByteArray), .int .i64 0, .int .i64 0]) ?_ 0 _ rfl; (with_reducible repeat (first|refine blk_drewN ?_ _ | refine blk_drew ?_ | refine blk_alloc ?_ _)); exact BK251.out) hb); have n1_ := Aside0.mk (below_step (by repeat (first|(with_reducible first|exact HB.out|apply below_alloc|apply pw_below_drewN|apply below_drew1 | refine below_set ?_ GE251.out)|exact HB.out)) hb); clear BK251; clear HB; have BK251 := n0_; have HB := n1_; clear n0_ n1_; (try clear hb); (try clear hb2); (try clear hk); (try clear hi); have hcz22_0 : w21.cell? ⟨gb251, 0, none⟩ = some (.string ((rd_T29 l0 x7_1).f0)) := (blk_cell BK251.out 0).trans rfl; have hcz22_1 : w21.cell? ⟨gb251, 1, none⟩ = some (.string ((rd_T29 l0 x7_1).f1)) := (blk_cell BK251.out 1).trans rfl; have hcz22_2 : w21.cell? ⟨gb251, 2, none⟩ = some (.int .i64 ((rd_T29 l0 x7_1).f2)) := (blk_cell BK251.out 2).trans rfl; have hcz22_3 : w21.cell? ⟨gb251, 3, none⟩ = some (.int .i64 ((rd_T29 l0 x7_1).f3)) := (blk_cell BK251.out 3).trans rfl; have hfz22_0 := blk_frozen BK251.out 0; have hfz22_1 := blk_frozen BK251.out 1; have hfz22_2 := blk_frozen BK251.out 2; have hfz22_3 := blk_frozen BK251.out 3)|(go_at_call 97; (with_reducible refine (spec_l1In.calls ((rd_T29 l0 x7_1).f2) 1800 2100 false _ A14.out).mono ?_); rintro e w' ⟨rfl, ⟨nd, rfl⟩⟩; (try first|exact ⟨rfl, _, World.drewN_drewN _ _ _⟩|exact ⟨rfl, _, Eq.trans (World.drewN_drewN _ _ _) (congrArg (World.drewN _) (Nat.add_assoc _ _ _))⟩))); try go_quiet (first|(go_at_call 78; (with_reducible refine (spec_caWord.calls k1 ((rd_T29 l0 x7_1).f0) true _ A8.out).mono ?_); rintro e w' ⟨rfl, ⟨nd, rfl⟩⟩; (try first|exact ⟨rfl, _, World.drewN_drewN _ _ _⟩|exact ⟨rfl, _, Eq.trans (World.drewN_drewN _ _ _) (congrArg (World.drewN _) (Nat.add_assoc _ _ _))⟩))|(go_at_call 78; (with_reducible refine (spec_caWord.calls k1 ((rd_T29 l0 x7_1).f1) true _ A10.out).mono ?_); rintro e w' ⟨rfl, ⟨nd, rfl⟩⟩; (try first|exact ⟨rfl, _, World.drewN_drewN _ _ _⟩|exact ⟨rfl, _, Eq.trans (World.drewN_drewN _ _ _) (congrArg (World.drewN _) (Nat.add_assoc _ _ _))⟩))|(go_at_call 97; (with_reducible refine (spec_l1In.calls ((rd_T29 l0 x7_1).f2) 1800 2100 false _ A14.out).mono ?_); rintro e w' ⟨rfl, ⟨nd, rfl⟩⟩; (try first|exact ⟨rfl, _, World.drewN_drewN _ _ _⟩|exact ⟨rfl, _, Eq.trans (World.drewN_drewN _ _ _) (congrArg (World.drewN _) (Nat.add_assoc _ _ _))⟩))))
           go_meet
           case rel => exact ⟨_, (true), (by first | rfl|(simp;done)|(simp [*];done)), H', ⟨by have := HK1.out; first | omega|exact Nat.le_refl _⟩, ⟨by (with_reducible repeat (first|refine blk_drewN ?_ _ | refine blk_drew ?_ | refine blk_alloc ?_ _)); exact BK251.out⟩, ⟨by repeat (first|(with_reducible first|exact HB.out|apply below_alloc|apply pw_below_drewN|apply below_drew1 | refine below_set ?_ GE251.out)|exact HB.out)⟩⟩
         ·rw [if_neg c13] at H
          have c13b0 : (t254 == x7_1) = false := beq_eq_false_iff_ne.mpr c13
          have c13b1 : (t254 != x7_1) = true := bne_iff_ne.mpr c13
          (first|rw [c13b0]|(simp only [i64_w, i32_w]; rw [c13b0]) | skip)
          have H' := Aside0.mk H
          clear H
          have hcz23_0 : w6.cell? ⟨gb251, 0, none⟩ = some (.string (⟨#[]⟩ : ByteArray)) := (blk_cell BK251.out 0).trans rfl
          have hcz23_1 : w6.cell? ⟨gb251, 1, none⟩ = some (.string (⟨#[]⟩ : ByteArray)) := (blk_cell BK251.out 1).trans rfl
          have hcz23_2 : w6.cell? ⟨gb251, 2, none⟩ = some (.int .i64 0) := (blk_cell BK251.out 2).trans rfl
          have hcz23_3 : w6.cell? ⟨gb251, 3, none⟩ = some (.int .i64 0) := (blk_cell BK251.out 3).trans rfl
          have hfz23_0 := blk_frozen BK251.out 0
          have hfz23_1 := blk_frozen BK251.out 1
          have hfz23_2 := blk_frozen BK251.out 2
          have hfz23_3 := blk_frozen BK251.out 3
          iterate 6 (go_wp2_with (first|(go_at_call 78; (with_reducible refine (spec_caWord.calls k1 ((rd_T29 l0 x7_1).f0) true _ A8.out).mono ?_); rintro e w' ⟨rfl, ⟨nd, rfl⟩⟩; (try first|exact ⟨rfl, _, World.drewN_drewN _ _ _⟩|exact ⟨rfl, _, Eq.trans (World.drewN_drewN _ _ _) (congrArg (World.drewN _) (Nat.add_assoc _ _ _))⟩))|(go_at_call 78; (with_reducible refine (spec_caWord.calls k1 ((rd_T29 l0 x7_1).f1) true _ A10.out).mono ?_); rintro e w' ⟨rfl, ⟨nd, rfl⟩⟩; (try first|exact ⟨rfl, _, World.drewN_drewN _ _ _⟩|exact ⟨rfl, _, Eq.trans (World.drewN_drewN _ _ _) (congrArg (World.drewN _) (Nat.add_assoc _ _ _))⟩))|(go_at_call 79; (with_reducible refine (spec_caFind.calls k1 _ _ l0 ((rd_T29 l0 x7_1).f0) t254 _ ?side1 ?side2 A12.out).mono ?_);(case side1 => exact Kd.C_below HR0.out (by repeat (first|(with_reducible first|exact HB.out|apply below_alloc|apply pw_below_drewN|apply below_drew1 | refine below_set ?_ GE251.out)|exact HB.out)));(case side2 => exact HC0.out); rintro e w24 ⟨rfl, hb⟩; have n0_ := Aside0.mk (blk_below (g := gb251) (o := .cells #[.string ((rd_T29 l0 x7_1).f0), .string ((rd_T29 l0 x7_1).f1), .int .i64 ((rd_T29 l0 x7_1).f2), .int .i64 ((rd_T29 l0 x7_1).f3)] 29 (0, 0)) (by (with_reducible repeat (first|refine blk_drewN ?_ _ | refine blk_drew ?_ | refine blk_alloc ?_ _)); refine blk_put (cs := #[.string ((rd_T29 l0 x7_1).f0), .string ((rd_T29 l0 x7_1).f1), .int .i64 ((rd_T29 l0 x7_1).f2), .int .i64 0]) ?_ 3 _ rfl; (with_reducible repeat (first|refine blk_drewN ?_ _ | refine blk_drew ?_ | refine blk_alloc ?_ _)); refine blk_put (cs := #[.string ((rd_T29 l0 x7_1).f0), .string ((rd_T29 l0 x7_1).f1), .int .i64 0, .int .i64 0]) ?_ 2 _ rfl; (with_reducible repeat (first|refine blk_drewN ?_ _ | refine blk_drew ?_ | refine blk_alloc ?_ _)); refine blk_put (cs := #[.string ((rd_T29 l0 x7_1).f0), .string (⟨#[]⟩ : ByteArray), .int .i64 0, .int .i64 0]) ?_ 1 _ rfl; (with_reducible repeat (first|refine blk_drewN ?_ _ | refine blk_drew ?_ | refine blk_alloc ?_ _)); refine blk_put (cs := #[.string (⟨#[]⟩ : ByteArray), .string (⟨#[]⟩ : ByteArray), .int .i64 0, .int .i64 0]) ?_ 0 _ rfl; (with_reducible repeat (first|refine blk_drewN ?_ _ | refine blk_drew ?_ | refine blk_alloc ?_ _)); exact BK251.out) hb); have n1_ := Aside0.mk (below_step (by repeat (first|(with_reducible first|exact HB.out|apply below_alloc|apply pw_below_drewN|apply below_drew1 | refine below_set ?_ GE251.out)|exact HB.out)) hb); clear BK251; clear HB; have BK251 := n0_; have HB := n1_; clear n0_ n1_; (try clear hb); (try clear hb2); (try clear hk); (try clear hi))); try go_quiet (first|(go_at_call 78; (with_reducible refine (spec_caWord.calls k1 ((rd_T29 l0 x7_1).f0) true _ A8.out).mono ?_); rintro e w' ⟨rfl, ⟨nd, rfl⟩⟩; (try first|exact ⟨rfl, _, World.drewN_drewN _ _ _⟩|exact ⟨rfl, _, Eq.trans (World.drewN_drewN _ _ _) (congrArg (World.drewN _) (Nat.add_assoc _ _ _))⟩))|(go_at_call 78; (with_reducible refine (spec_caWord.calls k1 ((rd_T29 l0 x7_1).f1) true _ A10.out).mono ?_); rintro e w' ⟨rfl, ⟨nd, rfl⟩⟩; (try first|exact ⟨rfl, _, World.drewN_drewN _ _ _⟩|exact ⟨rfl, _, Eq.trans (World.drewN_drewN _ _ _) (congrArg (World.drewN _) (Nat.add_assoc _ _ _))⟩))))
          go_meet
          case rel => exact ⟨_, (true), (by first | rfl|(simp;done)|(simp [*];done)), H', ⟨by have := HK1.out; first | omega|exact Nat.le_refl _⟩, ⟨by (with_reducible repeat (first|refine blk_drewN ?_ _ | refine blk_drew ?_ | refine blk_alloc ?_ _)); exact BK251.out⟩, ⟨by repeat (first|(with_reducible first|exact HB.out|apply below_alloc|apply pw_below_drewN|apply below_drew1 | refine below_set ?_ GE251.out)|exact HB.out)⟩⟩
        ·replace c11 := Bool.eq_false_iff.mpr c11
         subst c11
         have H1 : (spec_caGood.j1 k1 l0 l0 (l0.length : Int) x7_1 true ((rd_T29 l0 x7_1).f0) ((rd_T29 l0 x7_1).f1) ((rd_T29 l0 x7_1).f2) ((rd_T29 l0 x7_1).f3)) = some r := by rw [if_neg (show ¬ (false = true) by decide)] at H; exact H
         clear H
         have H := H1
         clear H1
         have H' := Aside0.mk H
         clear H
         have hcz25_0 : w6.cell? ⟨gb251, 0, none⟩ = some (.string (⟨#[]⟩ : ByteArray)) := (blk_cell BK251.out 0).trans rfl
         have hcz25_1 : w6.cell? ⟨gb251, 1, none⟩ = some (.string (⟨#[]⟩ : ByteArray)) := (blk_cell BK251.out 1).trans rfl
         have hcz25_2 : w6.cell? ⟨gb251, 2, none⟩ = some (.int .i64 0) := (blk_cell BK251.out 2).trans rfl
         have hcz25_3 : w6.cell? ⟨gb251, 3, none⟩ = some (.int .i64 0) := (blk_cell BK251.out 3).trans rfl
         have hfz25_0 := blk_frozen BK251.out 0
         have hfz25_1 := blk_frozen BK251.out 1
         have hfz25_2 := blk_frozen BK251.out 2
         have hfz25_3 := blk_frozen BK251.out 3
         iterate 6 (go_wp2_with (first|(go_at_call 78; (with_reducible refine (spec_caWord.calls k1 ((rd_T29 l0 x7_1).f0) true _ A8.out).mono ?_); rintro e w' ⟨rfl, ⟨nd, rfl⟩⟩; (try first|exact ⟨rfl, _, World.drewN_drewN _ _ _⟩|exact ⟨rfl, _, Eq.trans (World.drewN_drewN _ _ _) (congrArg (World.drewN _) (Nat.add_assoc _ _ _))⟩))|(go_at_call 78; (with_reducible refine (spec_caWord.calls k1 ((rd_T29 l0 x7_1).f1) false _ A10.out).mono ?_); rintro e w' ⟨rfl, ⟨nd, rfl⟩⟩; (try first|exact ⟨rfl, _, World.drewN_drewN _ _ _⟩|exact ⟨rfl, _, Eq.trans (World.drewN_drewN _ _ _) (congrArg (World.drewN _) (Nat.add_assoc _ _ _))⟩))); try go_quiet (first|(go_at_call 78; (with_reducible refine (spec_caWord.calls k1 ((rd_T29 l0 x7_1).f0) true _ A8.out).mono ?_); rintro e w' ⟨rfl, ⟨nd, rfl⟩⟩; (try first|exact ⟨rfl, _, World.drewN_drewN _ _ _⟩|exact ⟨rfl, _, Eq.trans (World.drewN_drewN _ _ _) (congrArg (World.drewN _) (Nat.add_assoc _ _ _))⟩))|(go_at_call 78; (with_reducible refine (spec_caWord.calls k1 ((rd_T29 l0 x7_1).f1) false _ A10.out).mono ?_); rintro e w' ⟨rfl, ⟨nd, rfl⟩⟩; (try first|exact ⟨rfl, _, World.drewN_drewN _ _ _⟩|exact ⟨rfl, _, Eq.trans (World.drewN_drewN _ _ _) (congrArg (World.drewN _) (Nat.add_assoc _ _ _))⟩))))
         go_meet
         case rel => exact ⟨_, (true), (by first | rfl|(simp;done)|(simp [*];done)), H', ⟨by have := HK1.out; first | omega|exact Nat.le_refl _⟩, ⟨by (with_reducible repeat (first|refine blk_drewN ?_ _ | refine blk_drew ?_ | refine blk_alloc ?_ _)); refine blk_put (cs := #[.string ((rd_T29 l0 x7_1).f0), .string ((rd_T29 l0 x7_1).f1), .int .i64 ((rd_T29 l0 x7_1).f2), .int .i64 0]) ?_ 3 _ rfl; (with_reducible repeat (first|refine blk_drewN ?_ _ | refine blk_drew ?_ | refine blk_alloc ?_ _)); refine blk_put (cs := #[.string ((rd_T29 l0 x7_1).f0), .string ((rd_T29 l0 x7_1).f1), .int .i64 0, .int .i64 0]) ?_ 2 _ rfl; (with_reducible repeat (first|refine blk_drewN ?_ _ | refine blk_drew ?_ | refine blk_alloc ?_ _)); refine blk_put (cs := #[.string ((rd_T29 l0 x7_1).f0), .string (⟨#[]⟩ : ByteArray), .int .i64 0, .int .i64 0]) ?_ 1 _ rfl; (with_reducible repeat (first|refine blk_drewN ?_ _ | refine blk_drew ?_ | refine blk_alloc ?_ _)); refine blk_put (cs := #[.string (⟨#[]⟩ : ByteArray), .string (⟨#[]⟩ : ByteArray), .int .i64 0, .int .i64 0]) ?_ 0 _ rfl; (with_reducible repeat (first|refine blk_drewN ?_ _ | refine blk_drew ?_ | refine blk_alloc ?_ _)); exact BK251.out⟩, ⟨by repeat (first|(with_reducible first|exact HB.out|apply below_alloc|apply pw_below_drewN|apply below_drew1 | refine below_set ?_ GE251.out)|exact HB.out)⟩⟩
       ·replace c9 := Bool.eq_false_iff.mpr c9
        subst c9
        have H1 : (spec_caGood.j1 k1 l0 l0 (l0.length : Int) x7_1 true ((rd_T29 l0 x7_1).f0) ((rd_T29 l0 x7_1).f1) ((rd_T29 l0 x7_1).f2) ((rd_T29 l0 x7_1).f3)) = some r := by rw [if_neg (show ¬ (false = true) by decide)] at H; exact H
        clear H
        have H := H1
        clear H1
        have H' := Aside0.mk H
        clear H
        have hcz26_0 : w6.cell? ⟨gb251, 0, none⟩ = some (.string (⟨#[]⟩ : ByteArray)) := (blk_cell BK251.out 0).trans rfl
        have hcz26_1 : w6.cell? ⟨gb251, 1, none⟩ = some (.string (⟨#[]⟩ : ByteArray)) := (blk_cell BK251.out 1).trans rfl
        have hcz26_2 : w6.cell? ⟨gb251, 2, none⟩ = some (.int .i64 0) := (blk_cell BK251.out 2).trans rfl
        have hcz26_3 : w6.cell? ⟨gb251, 3, none⟩ = some (.int .i64 0) := (blk_cell BK251.out 3).trans rfl
        have hfz26_0 := blk_frozen BK251.out 0
        have hfz26_1 := blk_frozen BK251.out 1
        have hfz26_2 := blk_frozen BK251.out 2
        have hfz26_3 := blk_frozen BK251.out 3
        iterate 6 (go_wp2_with (first|(go_at_call 78; (with_reducible refine (spec_caWord.calls k1 ((rd_T29 l0 x7_1).f0) false _ A8.out).mono ?_); rintro e w' ⟨rfl, ⟨nd, rfl⟩⟩; (try first|exact ⟨rfl, _, World.drewN_drewN _ _ _⟩|exact ⟨rfl, _, Eq.trans (World.drewN_drewN _ _ _) (congrArg (World.drewN _) (Nat.add_assoc _ _ _))⟩))); try go_quiet (first|(go_at_call 78; (with_reducible refine (spec_caWord.calls k1 ((rd_T29 l0 x7_1).f0) false _ A8.out).mono ?_); rintro e w' ⟨rfl, ⟨nd, rfl⟩⟩; (try first|exact ⟨rfl, _, World.drewN_drewN _ _ _⟩|exact ⟨rfl, _, Eq.trans (World.drewN_drewN _ _ _) (congrArg (World.drewN _) (Nat.add_assoc _ _ _))⟩))))
        go_meet
        case rel => exact ⟨_, (true), (by first | rfl|(simp;done)|(simp [*];done)), H', ⟨by have := HK1.out; first | omega|exact Nat.le_refl _⟩, ⟨by (with_reducible repeat (first|refine blk_drewN ?_ _ | refine blk_drew ?_ | refine blk_alloc ?_ _)); refine blk_put (cs := #[.string ((rd_T29 l0 x7_1).f0), .string ((rd_T29 l0 x7_1).f1), .int .i64 ((rd_T29 l0 x7_1).f2), .int .i64 0]) ?_ 3 _ rfl; (with_reducible repeat (first|refine blk_drewN ?_ _ | refine blk_drew ?_ | refine blk_alloc ?_ _)); refine blk_put (cs := #[.string ((rd_T29 l0 x7_1).f0), .string ((rd_T29 l0 x7_1).f1), .int .i64 0, .int .i64 0]) ?_ 2 _ rfl; (with_reducible repeat (first|refine blk_drewN ?_ _ | refine blk_drew ?_ | refine blk_alloc ?_ _)); refine blk_put (cs := #[.string ((rd_T29 l0 x7_1).f0), .string (⟨#[]⟩ : ByteArray), .int .i64 0, .int .i64 0]) ?_ 1 _ rfl; (with_reducible repeat (first|refine blk_drewN ?_ _ | refine blk_drew ?_ | refine blk_alloc ?_ _)); refine blk_put (cs := #[.string (⟨#[]⟩ : ByteArray), .string (⟨#[]⟩ : ByteArray), .int .i64 0, .int .i64 0]) ?_ 0 _ rfl; (with_reducible repeat (first|refine blk_drewN ?_ _ | refine blk_drew ?_ | refine blk_alloc ?_ _)); exact BK251.out⟩, ⟨by repeat (first|(with_reducible first|exact HB.out|apply below_alloc|apply pw_below_drewN|apply below_drew1 | refine below_set ?_ GE251.out)|exact HB.out)⟩⟩
      case rest =>
       clear HC5
       try clear c1
       try clear c2
       try clear c2b0
       try clear p2
       try clear q2
       try clear hx2
       try clear c3
       try clear c3b0
       try clear c4
       try clear c4b0
       try clear p6
       try clear c7
       try clear c9
       try clear c11
       try clear c13
       try clear c13b0
       try clear c13b1
       try clear c15
       try clear p25
       try clear q25
       try clear hx25
       try clear hcz17_0
       try clear hcz17_1
       try clear hcz17_2
       try clear hcz17_3
       try clear hcz19_0
       try clear hcz19_1
       try clear hcz19_2
       try clear hcz19_3
       try clear hcz20_0
       try clear hcz20_1
       try clear hcz20_2
       try clear hcz20_3
       try clear hcz22_0
       try clear hcz22_1
       try clear hcz22_2
       try clear hcz22_3
       try clear hcz23_0
       try clear hcz23_1
       try clear hcz23_2
       try clear hcz23_3
       try clear hcz25_0
       try clear hcz25_1
       try clear hcz25_2
       try clear hcz25_3
       try clear hcz26_0
       try clear hcz26_1
       try clear hcz26_2
       try clear hcz26_3
       try clear hcz7_0
       try clear hcz7_1
       try clear hcz7_2
       try clear hcz7_3
       try clear hfz17_0
       try clear hfz17_1
       try clear hfz17_2
       try clear hfz17_3
       try clear hfz19_0
       try clear hfz19_1
       try clear hfz19_2
       try clear hfz19_3
       try clear hfz20_0
       try clear hfz20_1
       try clear hfz20_2
       try clear hfz20_3
       try clear hfz22_0
       try clear hfz22_1
       try clear hfz22_2
       try clear hfz22_3
       try clear hfz23_0
       try clear hfz23_1
       try clear hfz23_2
       try clear hfz23_3
       try clear hfz25_0
       try clear hfz25_1
       try clear hfz25_2
       try clear hfz25_3
       try clear hfz26_0
       try clear hfz26_1
       try clear hfz26_2
       try clear hfz26_3
       try clear hfz7_0
       try clear hfz7_1
       try clear hfz7_2
       try clear hfz7_3
       try clear hx250_0
       try clear hx250_1
       try clear hx250_2
       try clear hx250_3
       try clear p250
       try clear q250
       obtain ⟨kq, x43_4, rfl, HA, HJ4, BK251, HB⟩ := hcut
       cases kq with
       | zero => exact absurd HA.out (by simp [spec_caGood.j1])
       | succ kj4 =>
        have H := HA.out
        clear HA
        simp only [spec_caGood.j1] at H
        by_cases c27 : x43_4 = true
        ·subst c27
         have H1 : (some false) = some r := by rw [if_pos rfl] at H; exact H
         clear H
         have H := H1
         clear H1
         obtain rfl := Option.some.inj H
         go_wp2
         repeat (go_quiet (fail); try go_wp2)
         go_ret
         exact ⟨by first | rfl|(simp [errW_none, errW_some] <;> rfl)|(simp [*, errW_none, errW_some] <;> rfl), by repeat (first|(with_reducible first|exact HB.out|apply below_alloc|apply pw_below_drewN|apply below_drew1 | refine below_set ?_ GE251.out)|exact HB.out)⟩
        ·replace c27 := Bool.eq_false_iff.mpr c27
         subst c27
         have H1 : (if ((rd_T29 l0 x7_1).f3) ≥ 0 then (if 0 ≤ ((rd_T29 l0 x7_1).f3) then (if ((rd_T29 l0 x7_1).f3) < (l0.length : Int) then (if ((rd_T29 l0 ((rd_T29 l0 x7_1).f3)).f2) > ((rd_T29 l0 x7_1).f2) then (some false) else (spec_caGood.l0 kj4 l0 l0 (l0.length : Int) (wrap64 (x7_1 + 1)))) else (none)) else (none)) else (spec_caGood.l0 kj4 l0 l0 (l0.length : Int) (wrap64 (x7_1 + 1)))) = some r := by rw [if_neg (show ¬ (false = true) by decide)] at H; exact H
         clear H
         have H := H1
         clear H1
         by_cases c28 : ((rd_T29 l0 x7_1).f3) ≥ 0
         ·rw [if_pos c28] at H
          have c28b0 : decide (0 ≤ ((rd_T29 l0 x7_1).f3)) = true := decide_eq_true c28
          clear c28
          by_cases c29 : 0 ≤ ((rd_T29 l0 x7_1).f3)
          ·rw [if_pos c29] at H
           have c29b0 : decide (0 ≤ ((rd_T29 l0 x7_1).f3)) = true := decide_eq_true c29
           clear c29
           by_cases c30 : ((rd_T29 l0 x7_1).f3) < (l0.length : Int)
           ·rw [if_pos c30] at H
            have c30b0 : decide (((rd_T29 l0 x7_1).f3) < (l0.length : Int)) = true := decide_eq_true c30
            clear c30
            by_cases c31 : ((rd_T29 l0 ((rd_T29 l0 x7_1).f3)).f2) > ((rd_T29 l0 x7_1).f2)
            ·rw [if_pos c31] at H
             have c31b0 : decide (((rd_T29 l0 x7_1).f2) < ((rd_T29 l0 ((rd_T29 l0 x7_1).f3)).f2)) = true := decide_eq_true c31
             clear c31
             obtain rfl := Option.some.inj H
             have hcz32_0 : wc.cell? ⟨gb251, 0, none⟩ = some (.string ((rd_T29 l0 x7_1).f0)) := (blk_cell BK251.out 0).trans rfl
             have hcz32_1 : wc.cell? ⟨gb251, 1, none⟩ = some (.string ((rd_T29 l0 x7_1).f1)) := (blk_cell BK251.out 1).trans rfl
             have hcz32_2 : wc.cell? ⟨gb251, 2, none⟩ = some (.int .i64 ((rd_T29 l0 x7_1).f2)) := (blk_cell BK251.out 2).trans rfl
             have hcz32_3 : wc.cell? ⟨gb251, 3, none⟩ = some (.int .i64 ((rd_T29 l0 x7_1).f3)) := (blk_cell BK251.out 3).trans rfl
             have hfz32_0 := blk_frozen BK251.out 0
             have hfz32_1 := blk_frozen BK251.out 1
             have hfz32_2 := blk_frozen BK251.out 2
             have hfz32_3 := blk_frozen BK251.out 3
             have p257 : 0 ≤ (((rd_T29 l0 x7_1).f3) : Int) := of_decide_eq_true (by first|(with_reducible assumption) | assumption)
             have q257 : ((rd_T29 l0 x7_1).f3) < (l0.length : Int) := of_decide_eq_true (by first|(with_reducible assumption) | assumption)
             obtain ⟨ad257, e257, hx257_0, hx257_1, hx257_2, hx257_3⟩ := at_T29 HR0.out ((rd_T29 l0 x7_1).f3) p257 q257
             obtain rfl : ad250 = ad257 := (by injection e257)
             replace hx257_0 := (HB.out.cell (World.block_lt_of_cell? w _ hx257_0)).trans hx257_0
             replace hx257_1 := (HB.out.cell (World.block_lt_of_cell? w _ hx257_1)).trans hx257_1
             replace hx257_2 := (HB.out.cell (World.block_lt_of_cell? w _ hx257_2)).trans hx257_2
             replace hx257_3 := (HB.out.cell (World.block_lt_of_cell? w _ hx257_3)).trans hx257_3
             replace p257 := eq_true p257
             replace q257 := eq_true q257
             go_wp2
             repeat (go_quiet (fail); try go_wp2)
             go_ret
             exact ⟨by first | rfl|(simp [errW_none, errW_some] <;> rfl)|(simp [*, errW_none, errW_some] <;> rfl), by repeat (first|(with_reducible first|exact HB.out|apply below_alloc|apply pw_below_drewN|apply below_drew1 | refine below_set ?_ GE251.out)|exact HB.out)⟩
            ·rw [if_neg c31] at H
             have c31b0 : decide (((rd_T29 l0 x7_1).f2) < ((rd_T29 l0 ((rd_T29 l0 x7_1).f3)).f2)) = false := decide_eq_false c31
             clear c31
             have H' := Aside0.mk H
             clear H
             have hcz33_0 : wc.cell? ⟨gb251, 0, none⟩ = some (.string ((rd_T29 l0 x7_1).f0)) := (blk_cell BK251.out 0).trans rfl
             have hcz33_1 : wc.cell? ⟨gb251, 1, none⟩ = some (.string ((rd_T29 l0 x7_1).f1)) := (blk_cell BK251.out 1).trans rfl
             have hcz33_2 : wc.cell? ⟨gb251, 2, none⟩ = some (.int .i64 ((rd_T29 l0 x7_1).f2)) := (blk_cell BK251.out 2).trans rfl
             have hcz33_3 : wc.cell? ⟨gb251, 3, none⟩ = some (.int .i64 ((rd_T29 l0 x7_1).f3)) := (blk_cell BK251.out 3).trans rfl
             have hfz33_0 := blk_frozen BK251.out 0
             have hfz33_1 := blk_frozen BK251.out 1
             have hfz33_2 := blk_frozen BK251.out 2
             have hfz33_3 := blk_frozen BK251.out 3
             have p257 : 0 ≤ (((rd_T29 l0 x7_1).f3) : Int) := of_decide_eq_true (by first|(with_reducible assumption) | assumption)
             have q257 : ((rd_T29 l0 x7_1).f3) < (l0.length : Int) := of_decide_eq_true (by first|(with_reducible assumption) | assumption)
             obtain ⟨ad257, e257, hx257_0, hx257_1, hx257_2, hx257_3⟩ := at_T29 HR0.out ((rd_T29 l0 x7_1).f3) p257 q257
             obtain rfl : ad250 = ad257 := (by injection e257)
             replace hx257_0 := (HB.out.cell (World.block_lt_of_cell? w _ hx257_0)).trans hx257_0
             replace hx257_1 := (HB.out.cell (World.block_lt_of_cell? w _ hx257_1)).trans hx257_1
             replace hx257_2 := (HB.out.cell (World.block_lt_of_cell? w _ hx257_2)).trans hx257_2
             replace hx257_3 := (HB.out.cell (World.block_lt_of_cell? w _ hx257_3)).trans hx257_3
             replace p257 := eq_true p257
             replace q257 := eq_true q257
             go_wp2
             repeat (go_quiet (fail); try go_wp2)
             go_roundg kj4
             case measure => have := HK1.out; have := HJ4.out; omega
             case rel => exact ⟨(wrap64 (x7_1 + 1)), (by first | rfl|(simp;done)|(simp [*];done)), H', ⟨by have := HK1.out; have := HJ4.out; omega⟩, ⟨by repeat (first|(with_reducible first|exact HB.out|apply below_alloc|apply pw_below_drewN|apply below_drew1 | refine below_set ?_ GE251.out)|exact HB.out)⟩⟩
           ·rw [if_neg c30] at H
            exact absurd H (by simp)
          ·rw [if_neg c29] at H
           exact absurd H (by simp)
         ·rw [if_neg c28] at H
          have c28b0 : decide (0 ≤ ((rd_T29 l0 x7_1).f3)) = false := decide_eq_false c28
          clear c28
          have H' := Aside0.mk H
          clear H
          have hcz34_0 : wc.cell? ⟨gb251, 0, none⟩ = some (.string ((rd_T29 l0 x7_1).f0)) := (blk_cell BK251.out 0).trans rfl
          have hcz34_1 : wc.cell? ⟨gb251, 1, none⟩ = some (.string ((rd_T29 l0 x7_1).f1)) := (blk_cell BK251.out 1).trans rfl
          have hcz34_2 : wc.cell? ⟨gb251, 2, none⟩ = some (.int .i64 ((rd_T29 l0 x7_1).f2)) := (blk_cell BK251.out 2).trans rfl
          have hcz34_3 : wc.cell? ⟨gb251, 3, none⟩ = some (.int .i64 ((rd_T29 l0 x7_1).f3)) := (blk_cell BK251.out 3).trans rfl
          have hfz34_0 := blk_frozen BK251.out 0
          have hfz34_1 := blk_frozen BK251.out 1
          have hfz34_2 := blk_frozen BK251.out 2
          have hfz34_3 := blk_frozen BK251.out 3
          go_wp2
          repeat (go_quiet (fail); try go_wp2)
          go_roundg kj4
          case measure => have := HK1.out; have := HJ4.out; omega
          case rel => exact ⟨(wrap64 (x7_1 + 1)), (by first | rfl|(simp;done)|(simp [*];done)), H', ⟨by have := HK1.out; have := HJ4.out; omega⟩, ⟨by repeat (first|(with_reducible first|exact HB.out|apply below_alloc|apply pw_below_drewN|apply below_drew1 | refine below_set ?_ GE251.out)|exact HB.out)⟩⟩
     ·rw [if_neg c4] at H
      exact absurd H (by simp)
    ·rw [if_neg c3] at H
     exact absurd H (by simp)
   ·rw [if_neg c2] at H
    have c2b0 : decide (x7_1 < (l0.length : Int)) = false := decide_eq_false c2
    clear c2
    obtain rfl := Option.some.inj H
    go_wp2
    repeat (go_quiet (fail); try go_wp2)
    go_ret
    exact ⟨by first | rfl|(simp [errW_none, errW_some] <;> rfl)|(simp [*, errW_none, errW_some] <;> rfl), by repeat (first|(with_reducible first|exact HB.out|apply below_alloc|apply pw_below_drewN|apply below_drew1)|exact HB.out)⟩

/-! ### spec_caHas: function 68 -/
def spec_caHas.f (k : Nat) (l0 : List (S29)) (a1 : Int) : Option (Bool) := (spec_caGood.f k l0).bind fun t258 => (if t258 = true then ((spec_l1In.f a1 0 (wrap64 ((l0.length : Int) - 1))).bind fun t259 => (some t259)) else (some false))
theorem spec_caHas.mono : ∀ a0 a1 k, LeO (spec_caHas.f k a0 a1) (spec_caHas.f (k + 1) a0 a1) := by
 intro a0 a1 k
 unfold spec_caHas.f
 repeat' first
  |(with_reducible exact spec_caGood.mono _ _)
  |(with_reducible exact LeO.refl _)
  |(with_reducible exact LeO.none _)
  |(with_reducible refine LeO.ite ?_ ?_)
  |(with_reducible refine LeO.bind ?_ (fun _ => ?_))
  |exact spec_caGood.mono _ _
  |exact LeO.none _
   | refine LeO.ite ?_ ?_
   | refine LeO.bind ?_ (fun _ => ?_)
set_option maxHeartbeats 8000000 in
set_option maxRecDepth 100000 in
theorem spec_caHas.calls (k : Nat) (A0 : Option Addr) (c0 : Nat) (l0 : List (S29)) (a1 : Int) (r : Bool) (w : World) (hr0 : Kd.C k29 w A0 l0.length l0) (hc0 : l0.length ≤ c0) (h : spec_caHas.f k l0 a1 = some r) :
 Calls Try.prog 68 #[.slice A0 l0.length c0, .int .i64 a1] w fun e w' => e = .returned (.bool r) ∧ Below w.heap.size w w' := by
 have HR0 := Aside0.mk hr0
 have HC0 := Aside0.mk hc0
 clear hr0 hc0
 have HB := Aside0.mk (Below.refl w.heap.size w)
 have H : ((spec_caGood.f k l0).bind fun t258 => (if t258 = true then ((spec_l1In.f a1 0 (wrap64 ((l0.length : Int) - 1))).bind fun t259 => (some t259)) else (some false))) = some r := h
 clear h
 replace H := Option.bind_eq_some_iff.mp H
 obtain ⟨t258, A30, H⟩ := H
 try dsimp only at H
 have A3 := Aside0.mk A30
 clear A30
 by_cases c4 : t258 = true
 ·subst c4
  have H1 : ((spec_l1In.f a1 0 (wrap64 ((l0.length : Int) - 1))).bind fun t259 => (some t259)) = some r := by rw [if_pos rfl] at H; exact H
  clear H
  have H := H1
  clear H1
  replace H := Option.bind_eq_some_iff.mp H
  obtain ⟨t259, A50, H⟩ := H
  try dsimp only at H
  have A5 := Aside0.mk A50
  clear A50
  obtain rfl := Option.some.inj H
  go_enter Try.func68, Try.ntmps68
  go_wp2_with (first|((with_reducible refine gate_callee (f := 74) rfl ?_); refine goesL_ (some 6) rfl rfl Try.func74 (by kernel_rfl) rfl #[.slice A0 l0.length c0] rfl (by (try simp only [List.map_toArray, List.map_cons, List.map_nil]); first | done | rfl|(simp only [List.length_drop, List.length_take]; rfl)) ?_; (with_reducible refine (spec_caGood.calls k _ _ l0 true _ ?side1 ?side2 A3.out).mono ?_);(case side1 => repeat (first|exact HR0.out|(with_reducible refine Kd.C_alloc ?_ _)|(with_reducible refine Kd.C_drewN ?_ _)|(with_reducible refine Kd.C_drew ?_)));(case side2 => exact HC0.out); rintro e w6 ⟨rfl, hb⟩; refine ⟨_, rfl, ?_⟩; have n0_ := Aside0.mk (below_step (by repeat (first|(with_reducible first|exact HB.out|apply below_alloc|apply pw_below_drewN|apply below_drew1)|exact HB.out)) hb); clear HB; have HB := n0_; clear n0_; (try clear hb); (try clear hb2); (try clear hk); (try clear hi))|(go_at_call 97; (with_reducible refine (spec_l1In.calls a1 0 (wrap64 ((l0.length : Int) - 1)) t259 _ A5.out).mono ?_); rintro e w' ⟨rfl, ⟨nd, rfl⟩⟩))
  go_ret
  exact ⟨by first | rfl|(simp [errW_none, errW_some] <;> rfl)|(simp [*, errW_none, errW_some] <;> rfl), by repeat (first|(with_reducible first|exact HB.out|apply below_alloc|apply pw_below_drewN|apply below_drew1)|exact HB.out)⟩
 ·replace c4 := Bool.eq_false_iff.mpr c4
  subst c4
  have H1 : (some false) = some r := by rw [if_neg (show ¬ (false = true) by decide)] at H; exact H
  clear H
  have H := H1
  clear H1
  obtain rfl := Option.some.inj H
  go_enter Try.func68, Try.ntmps68
  go_wp2_with (first|((with_reducible refine gate_callee (f := 74) rfl ?_); refine goesL_ (some 6) rfl rfl Try.func74 (by kernel_rfl) rfl #[.slice A0 l0.length c0] rfl (by (try simp only [List.map_toArray, List.map_cons, List.map_nil]); first | done | rfl|(simp only [List.length_drop, List.length_take]; rfl)) ?_; (with_reducible refine (spec_caGood.calls k _ _ l0 false _ ?side1 ?side2 A3.out).mono ?_);(case side1 => repeat (first|exact HR0.out|(with_reducible refine Kd.C_alloc ?_ _)|(with_reducible refine Kd.C_drewN ?_ _)|(with_reducible refine Kd.C_drew ?_)));(case side2 => exact HC0.out); rintro e w7 ⟨rfl, hb⟩; refine ⟨_, rfl, ?_⟩; have n0_ := Aside0.mk (below_step (by repeat (first|(with_reducible first|exact HB.out|apply below_alloc|apply pw_below_drewN|apply below_drew1)|exact HB.out)) hb); clear HB; have HB := n0_; clear n0_; (try clear hb); (try clear hb2); (try clear hk); (try clear hi)))
  go_ret
  exact ⟨by first | rfl|(simp [errW_none, errW_some] <;> rfl)|(simp [*, errW_none, errW_some] <;> rfl), by repeat (first|(with_reducible first|exact HB.out|apply below_alloc|apply pw_below_drewN|apply below_drew1)|exact HB.out)⟩

/-! ### spec_DropRoll: function 9 (by hand: a catalogue without one roll) -/
theorem spec_DropRoll.info : (Try.prog.info? 29).map (fun i => (i.zero, i.size, i.bytes)) = some (some (.agg #[(.string ⟨#[]⟩), (.string ⟨#[]⟩), (.int .i64 0), (.int .i64 0)]), 4, 48) := by kernel_rfl
def spec_DropRoll.src (y i : Int) (x : S29) : Int := if x.f3 = i then y else (if x.f3 > i then wrap64 (x.f3 - 1) else x.f3)
def spec_DropRoll.l0 : Nat → List S29 → Int → List S29 → Int → Option (List S29)
 | 0, _, _, _, _ => none
 | k + 1, l, i, o, j => if j < (l.length : Int) then (if 0 ≤ j then (if j = i then (spec_DropRoll.l0 k l i o (wrap64 (j + 1))) else (if o.length < 1000000000 then (spec_DropRoll.l0 k l i (o ++ [(⟨(rd_T29 l j).f0, (rd_T29 l j).f1, (rd_T29 l j).f2, spec_DropRoll.src (rd_T29 l i).f3 i (rd_T29 l j)⟩ : S29)]) (wrap64 (j + 1))) else none)) else none) else (some o)
def spec_DropRoll.f (k : Nat) (l0 : List S29) (a1 : Int) : Option (List S29 × Bool) := (spec_caHas.f k l0 a1).bind fun t => (if t = true then (if 0 ≤ a1 then (if a1 < (l0.length : Int) then ((spec_DropRoll.l0 k l0 a1 [] 0).bind fun o => (some (o, true))) else none) else none) else (some ([], false)))
theorem spec_DropRoll.mono_l : ∀ k, (∀ y0 y1 y2 y3, LeO (spec_DropRoll.l0 k y0 y1 y2 y3) (spec_DropRoll.l0 (k + 1) y0 y1 y2 y3))
 | 0 => fun _ _ _ _ r h => by simp [spec_DropRoll.l0] at h
 | k + 1 => by
  have ih0 := spec_DropRoll.mono_l k
  ·intro y0 y1 y2 y3
   unfold spec_DropRoll.l0
   repeat' first
   |(with_reducible exact ih0 _ _ _ _)
   |(with_reducible exact LeO.refl _)
   |(with_reducible exact LeO.none _)
   |(with_reducible refine LeO.ite ?_ ?_)
theorem spec_DropRoll.mono : ∀ a0 a1 k, LeO (spec_DropRoll.f k a0 a1) (spec_DropRoll.f (k + 1) a0 a1) := by
 intro a0 a1 k
 have ih0 := spec_DropRoll.mono_l k
 unfold spec_DropRoll.f
 repeat' first
  |(with_reducible exact ih0 _ _ _ _)
  |(with_reducible exact spec_caHas.mono _ _ _)
  |(with_reducible exact LeO.refl _)
  |(with_reducible exact LeO.none _)
  |(with_reducible refine LeO.ite ?_ ?_)
  |(with_reducible refine LeO.bind ?_ (fun _ => ?_))
set_option maxHeartbeats 2000000 in
set_option maxRecDepth 100000 in
theorem spec_DropRoll.calls (k : Nat) (A0 : Option Addr) (c0 : Nat) (l0 : List S29) (a1 : Int) (r1 : List S29) (r2 : Bool) (w : World) (hr0 : Kd.C k29 w A0 l0.length l0) (hc0 : l0.length ≤ c0) (h : spec_DropRoll.f k l0 a1 = some (r1, r2)) :
 Calls Try.prog 9 #[.slice A0 l0.length c0, .int .i64 a1] w fun e w' => ∃ v0_ : Value, e = .returned (.tuple #[v0_, .bool r2]) ∧ Kd.R k29 29 w' w.heap.size (fun _ => True) v0_ r1 ∧ Below w.heap.size w w' := by
 have HR0 := Aside0.mk hr0
 have HC0 := Aside0.mk hc0
 clear hr0 hc0
 have H := Option.bind_eq_some_iff.mp h
 clear h
 obtain ⟨t, a0, H⟩ := H
 have AT := Aside0.mk a0
 clear a0
 cases t with
 | false =>
  rw [if_neg (by decide)] at H
  simp only [Option.some.injEq, Prod.mk.injEq] at H
  obtain ⟨rfl, rfl⟩ := H
  go_enter Try.func9, Try.ntmps9
  go_wp2_with (go_at_call 68; (with_reducible refine (spec_caHas.calls k A0 c0 l0 a1 false _ HR0.out HC0.out AT.out).mono ?_); rintro e w1 ⟨rfl, hb⟩; have HB := Aside0.mk hb; clear hb)
  go_ret2
  exact ⟨_, rfl, Kd.R_nil _ _ _ _ _, HB.out⟩
 | true =>
  rw [if_pos rfl] at H
  by_cases p1 : 0 ≤ a1
  ·rw [if_pos p1] at H
   by_cases q1 : a1 < (l0.length : Int)
   ·rw [if_pos q1] at H
    obtain ⟨o, a2, H⟩ := Option.bind_eq_some_iff.mp H
    simp only [Option.some.injEq, Prod.mk.injEq] at H
    obtain ⟨rfl, rfl⟩ := H
    have A2 := Aside0.mk a2
    clear a2
    obtain ⟨ad, e1, _, _, _, hy3⟩ := at_T29 HR0.out a1 p1 q1
    cases e1
    have HY := Aside0.mk hy3
    clear hy3
    have HP := Aside0.mk (And.intro p1 q1)
    clear p1 q1
    go_enter Try.func9, Try.ntmps9
    go_wp2_with (go_at_call 68; (with_reducible refine (spec_caHas.calls k (some ad) c0 l0 a1 true _ HR0.out HC0.out AT.out).mono ?_); rintro e w1 ⟨rfl, hb⟩; have HB := Aside0.mk hb; clear hb)
    go_loopg [6, 15] k (fun kq v6 vj w' => ∃ (xo : List S29) (xj : Int), vj = .int .i64 xj ∧ Aside0 (spec_DropRoll.l0 kq l0 a1 xo xj = some o) ∧ Aside0 (kq ≤ k) ∧ Aside0 (Kd.R k29 29 w' w.heap.size (fun _ => True) v6 xo) ∧ Aside0 (Below w.heap.size w w'))
    case atStart => exact ⟨[], 0, (by first | rfl|(simp;done)), A2, ⟨Nat.le_refl _⟩, ⟨Kd.R_nil _ _ _ _ _⟩, ⟨by repeat (first|(with_reducible first|exact HB.out|apply below_alloc|apply pw_below_drewN|apply below_drew1)|exact HB.out)⟩⟩
    case round =>
     clear A2
     try clear p2
     obtain ⟨xo, xj, rfl, HA, HK1, HO, HB⟩ := hrel
     cases gk with
     | zero => exact absurd HA.out (by simp [spec_DropRoll.l0])
     | succ k1 =>
      have H := HA.out
      clear HA
      simp only [spec_DropRoll.l0] at H
      by_cases c4 : xj < (l0.length : Int)
      ·rw [if_pos c4] at H
       by_cases c5 : 0 ≤ xj
       ·rw [if_pos c5] at H
        obtain ⟨ad2, e2, hx0, hx1, hx2, hx3⟩ := at_T29 HR0.out xj c5 c4
        cases e2
        replace hx0 := (HB.out.cell (World.block_lt_of_cell? w _ hx0)).trans hx0
        replace hx1 := (HB.out.cell (World.block_lt_of_cell? w _ hx1)).trans hx1
        replace hx2 := (HB.out.cell (World.block_lt_of_cell? w _ hx2)).trans hx2
        replace hx3 := (HB.out.cell (World.block_lt_of_cell? w _ hx3)).trans hx3
        obtain ⟨X, hX⟩ : ∃ X, X = rd_T29 l0 xj := ⟨_, rfl⟩
        obtain ⟨Y, hY⟩ : ∃ Y, Y = (rd_T29 l0 a1).f3 := ⟨_, rfl⟩
        rw [← hX] at hx0 hx1 hx2 hx3 H
        have HYY := Aside0.mk hY
        rw [← hY] at H
        clear hX hY
        have c4b : decide (xj < (l0.length : Int)) = true := decide_eq_true c4
        have c5b : decide (0 ≤ xj) = true := decide_eq_true c5
        have q4 := eq_true c4
        have q5 := eq_true c5
        by_cases c6 : xj = a1
        ·rw [if_pos c6] at H
         have H' := Aside0.mk H
         clear H
         have c6b : (xj == a1) = true := beq_iff_eq.mpr c6
         clear c6
         go_wp2_with (first
          |((with_reducible refine gate_dst (N := 8) rfl ?_); refine box_event ?hg (N := 8) ?hd (cs := #[.string ⟨#[]⟩, .string ⟨#[]⟩, .int .i64 0, .int .i64 0]) (t := 29) ?hr ?_;(case hd => rfl);(case hg => rfl);(case hr => first|(go_simp;done)|(go_simp; rfl)); intro gb hgb w5 hbox hb; have HB5 := Aside0.mk (below_step HB.out hb); have BK := Aside0.mk hbox; have GB := Aside0.mk (show w.heap.size ≤ gb by rw [hgb]; exact HB.out.size); have HO5 := Aside0.mk (Kd.R_below (Kd.R_elderB HO.out gb (Nat.le_of_eq hgb.symm)) hb); clear HO HB; clear hb hbox hgb; have hz0 : w5.cell? ⟨gb, 0, none⟩ = some (.string ⟨#[]⟩) := (blk_cell BK.out 0).trans rfl; have hz1 : w5.cell? ⟨gb, 1, none⟩ = some (.string ⟨#[]⟩) := (blk_cell BK.out 1).trans rfl; have hz2 : w5.cell? ⟨gb, 2, none⟩ = some (.int .i64 0) := (blk_cell BK.out 2).trans rfl; have hz3 : w5.cell? ⟨gb, 3, none⟩ = some (.int .i64 0) := (blk_cell BK.out 3).trans rfl; have hf0 := blk_frozen BK.out 0; have hf1 := blk_frozen BK.out 1; have hf2 := blk_frozen BK.out 2; have hf3 := blk_frozen BK.out 3)
          |((with_reducible refine gate_store (t := 29) (p := 8) rfl ?_); refine store_event (t := 29) (p := 8) (v := ?vo_6) (w1 := ((((w5.setCell ⟨gb, 0, none⟩ (.string X.f0)).setCell ⟨gb, 1, none⟩ (.string X.f1)).setCell ⟨gb, 2, none⟩ (.int .i64 X.f2)).setCell ⟨gb, 3, none⟩ (.int .i64 X.f3))) ?hg ?ho ?hn ?hr ?_;(case ho => rfl);(case hg => rfl);(case hn => rfl);(case hr => first|(go_simp;done)|(go_simp; rfl)); intro w6 hw; have BK6 : Aside0 (w6.heap[gb]? = some (.cells #[.string X.f0, .string X.f1, .int .i64 X.f2, .int .i64 (X.f3)] 29 (0, 0))) := ⟨by rw [hw]; exact (blk_set (blk_set (blk_set (blk_set BK.out 0 _) 1 _) 2 _) 3 _).trans rfl⟩; have HO6 := Aside0.mk (show Kd.R k29 29 w6 w.heap.size (fun k => True ∧ k ≠ gb) u6 xo from by rw [hw]; exact Kd.R_far (Kd.R_far (Kd.R_far (Kd.R_far HO5.out (p := ⟨gb, 0, none⟩) (fun k hk => hk.2) _) (p := ⟨gb, 1, none⟩) (fun k hk => hk.2) _) (p := ⟨gb, 2, none⟩) (fun k hk => hk.2) _) (p := ⟨gb, 3, none⟩) (fun k hk => hk.2) _); have HB6 := Aside0.mk (show Below w.heap.size w w6 from by rw [hw]; exact below_set (below_set (below_set (below_set HB5.out GB.out) GB.out) GB.out) GB.out); clear hw hz0 hz1 hz2 hz3 hf0 hf1 hf2 hf3 HO5 HB5 BK hx0 hx1 hx2 hx3; have hv0 : w6.cell? ⟨gb, 0, none⟩ = some (.string X.f0) := (blk_cell BK6.out 0).trans rfl; have hv1 : w6.cell? ⟨gb, 1, none⟩ = some (.string X.f1) := (blk_cell BK6.out 1).trans rfl; have hv2 : w6.cell? ⟨gb, 2, none⟩ = some (.int .i64 X.f2) := (blk_cell BK6.out 2).trans rfl; have hv3 : w6.cell? ⟨gb, 3, none⟩ = some (.int .i64 (X.f3)) := (blk_cell BK6.out 3).trans rfl; have hf0 := blk_frozen BK6.out 0; have hf1 := blk_frozen BK6.out 1; have hf2 := blk_frozen BK6.out 2; have hf3 := blk_frozen BK6.out 3; have hy3 := (HB6.out.cell (World.block_lt_of_cell? w _ HY.out)).trans HY.out; rw [← HYY.out] at hy3))
         go_roundg k1
         case measure => have := HK1.out; omega
         case rel => exact ⟨xo, wrap64 (xj + 1), (by first | rfl|(simp;done)|(simp [*];done)), H', ⟨by have := HK1.out; omega⟩, ⟨Kd.R_mono HO6.out (fun _ _ => trivial)⟩, HB6⟩
        ·rw [if_neg c6] at H
         have c6b : (xj == a1) = false := beq_eq_false_iff_ne.mpr c6
         clear c6
         by_cases c7 : xo.length < 1000000000
         ·rw [if_pos c7] at H
          have LM := Aside0.mk c7
          have H' := Aside0.mk H
          clear c7 H
          have p2 := eq_true HP.out.1
          have q2 := eq_true HP.out.2
          by_cases c8 : X.f3 = a1
          ·have c8b : (X.f3 == a1) = true := beq_iff_eq.mpr c8
           have HS : Aside0 (spec_DropRoll.src Y a1 X = Y) := ⟨by unfold spec_DropRoll.src; rw [if_pos c8]⟩
           clear c8
           go_wp2_with (first
            |((with_reducible refine gate_dst (N := 8) rfl ?_); refine box_event ?hg (N := 8) ?hd (cs := #[.string ⟨#[]⟩, .string ⟨#[]⟩, .int .i64 0, .int .i64 0]) (t := 29) ?hr ?_;(case hd => rfl);(case hg => rfl);(case hr => first|(go_simp;done)|(go_simp; rfl)); intro gb hgb w5 hbox hb; have HB5 := Aside0.mk (below_step HB.out hb); have BK := Aside0.mk hbox; have GB := Aside0.mk (show w.heap.size ≤ gb by rw [hgb]; exact HB.out.size); have HO5 := Aside0.mk (Kd.R_below (Kd.R_elderB HO.out gb (Nat.le_of_eq hgb.symm)) hb); clear HO HB; clear hb hbox hgb; have hz0 : w5.cell? ⟨gb, 0, none⟩ = some (.string ⟨#[]⟩) := (blk_cell BK.out 0).trans rfl; have hz1 : w5.cell? ⟨gb, 1, none⟩ = some (.string ⟨#[]⟩) := (blk_cell BK.out 1).trans rfl; have hz2 : w5.cell? ⟨gb, 2, none⟩ = some (.int .i64 0) := (blk_cell BK.out 2).trans rfl; have hz3 : w5.cell? ⟨gb, 3, none⟩ = some (.int .i64 0) := (blk_cell BK.out 3).trans rfl; have hf0 := blk_frozen BK.out 0; have hf1 := blk_frozen BK.out 1; have hf2 := blk_frozen BK.out 2; have hf3 := blk_frozen BK.out 3)
            |((with_reducible refine gate_store (t := 29) (p := 8) rfl ?_); refine store_event (t := 29) (p := 8) (v := ?vo_6) (w1 := ((((w5.setCell ⟨gb, 0, none⟩ (.string X.f0)).setCell ⟨gb, 1, none⟩ (.string X.f1)).setCell ⟨gb, 2, none⟩ (.int .i64 X.f2)).setCell ⟨gb, 3, none⟩ (.int .i64 X.f3))) ?hg ?ho ?hn ?hr ?_;(case ho => rfl);(case hg => rfl);(case hn => rfl);(case hr => first|(go_simp;done)|(go_simp; rfl)); intro w6 hw; have BK6 : Aside0 (w6.heap[gb]? = some (.cells #[.string X.f0, .string X.f1, .int .i64 X.f2, .int .i64 (X.f3)] 29 (0, 0))) := ⟨by rw [hw]; exact (blk_set (blk_set (blk_set (blk_set BK.out 0 _) 1 _) 2 _) 3 _).trans rfl⟩; have HO6 := Aside0.mk (show Kd.R k29 29 w6 w.heap.size (fun k => True ∧ k ≠ gb) u6 xo from by rw [hw]; exact Kd.R_far (Kd.R_far (Kd.R_far (Kd.R_far HO5.out (p := ⟨gb, 0, none⟩) (fun k hk => hk.2) _) (p := ⟨gb, 1, none⟩) (fun k hk => hk.2) _) (p := ⟨gb, 2, none⟩) (fun k hk => hk.2) _) (p := ⟨gb, 3, none⟩) (fun k hk => hk.2) _); have HB6 := Aside0.mk (show Below w.heap.size w w6 from by rw [hw]; exact below_set (below_set (below_set (below_set HB5.out GB.out) GB.out) GB.out) GB.out); clear hw hz0 hz1 hz2 hz3 hf0 hf1 hf2 hf3 HO5 HB5 BK hx0 hx1 hx2 hx3; have hv0 : w6.cell? ⟨gb, 0, none⟩ = some (.string X.f0) := (blk_cell BK6.out 0).trans rfl; have hv1 : w6.cell? ⟨gb, 1, none⟩ = some (.string X.f1) := (blk_cell BK6.out 1).trans rfl; have hv2 : w6.cell? ⟨gb, 2, none⟩ = some (.int .i64 X.f2) := (blk_cell BK6.out 2).trans rfl; have hv3 : w6.cell? ⟨gb, 3, none⟩ = some (.int .i64 (X.f3)) := (blk_cell BK6.out 3).trans rfl; have hf0 := blk_frozen BK6.out 0; have hf1 := blk_frozen BK6.out 1; have hf2 := blk_frozen BK6.out 2; have hf3 := blk_frozen BK6.out 3; have hy3 := (HB6.out.cell (World.block_lt_of_cell? w _ HY.out)).trans HY.out; rw [← HYY.out] at hy3)
            |((with_reducible refine gate_store (t := 3) (p := 32) rfl ?_); refine store_event (t := 3) (p := 32) (v := ?vo_q1) (w1 := (w6.setCell ⟨gb, 3, none⟩ (.int .i64 (Y)))) ?hg ?ho ?hn ?hr ?_;(case ho => rfl);(case hg => rfl);(case hn => rfl);(case hr => first|(go_simp;done)|(go_simp; rfl)); intro w7 hw; have BK7 : Aside0 (w7.heap[gb]? = some (.cells #[.string X.f0, .string X.f1, .int .i64 X.f2, .int .i64 (Y)] 29 (0, 0))) := ⟨by rw [hw]; exact (blk_set BK6.out 3 _).trans rfl⟩; have HO7 := Aside0.mk (show Kd.R k29 29 w7 w.heap.size (fun k => True ∧ k ≠ gb) u6 xo from by rw [hw]; exact Kd.R_far HO6.out (p := ⟨gb, 3, none⟩) (fun k hk => hk.2) _); have HB7 := Aside0.mk (show Below w.heap.size w w7 from by rw [hw]; exact below_set HB6.out GB.out); clear hw hv0 hv1 hv2 hv3 hf0 hf1 hf2 hf3 hy3; have hv0 : w7.cell? ⟨gb, 0, none⟩ = some (.string X.f0) := (blk_cell BK7.out 0).trans rfl; have hv1 : w7.cell? ⟨gb, 1, none⟩ = some (.string X.f1) := (blk_cell BK7.out 1).trans rfl; have hv2 : w7.cell? ⟨gb, 2, none⟩ = some (.int .i64 X.f2) := (blk_cell BK7.out 2).trans rfl; have hv3 : w7.cell? ⟨gb, 3, none⟩ = some (.int .i64 (Y)) := (blk_cell BK7.out 3).trans rfl; have hf0 := blk_frozen BK7.out 0; have hf1 := blk_frozen BK7.out 1; have hf2 := blk_frozen BK7.out 2; have hf3 := blk_frozen BK7.out 3; have hy3 := (HB7.out.cell (World.block_lt_of_cell? w _ HY.out)).trans HY.out; rw [← HYY.out] at hy3)
            |((with_reducible refine gate_builtin (b := .append) (xs := #[.tmp 41, .tmp 43]) rfl ?_); at_builtin; refine Kd.R_append k29 (w0 := w) w.heap.size rfl (.tmp 41) (.tmp 43) 23 29 (.agg #[(.string ⟨#[]⟩), (.string ⟨#[]⟩), (.int .i64 0), (.int .i64 0)]) 48 rfl Try.underlying23 spec_DropRoll.info rfl (by decide) (by omega) u6 xo (⟨X.f0, X.f1, X.f2, Y⟩ : S29) [.string X.f0, .string X.f1, .int .i64 X.f2, .int .i64 (Y)] (fun _ => True) (fun _ => False) rfl (by first|(go_simp;done)|(go_simp; rfl)) ?aP (fun _ hk => hk.elim) ?aF ?aO ?aB ?aS ?aL ?_;(case aP => exact k29_mkM _ _ _ (⟨X.f0, X.f1, X.f2, Y⟩ : S29));(case aB => exact (by repeat (first|(with_reducible first|exact HB7.out|apply below_alloc|apply pw_below_drewN|apply below_drew1)|exact HB7.out)));(case aF => exact (fun _ _ => trivial));(case aO => exact (by (with_reducible repeat (first|apply Kd.R_alloc|apply Kd.R_drewN|apply Kd.R_drew)); exact Kd.R_mono HO7.out (fun _ _ => trivial)));(case aS => exact (below_size (by repeat (first|(with_reducible first|exact HB7.out|apply below_alloc|apply pw_below_drewN|apply below_drew1)|exact HB7.out))));(case aL => have := LM.out; omega); intro v10 w10 ho hb hg hat; have HO10 := Aside0.mk ho; have HB10 := Aside0.mk hb; clear ho hb hg hat))
           go_roundg k1
           case measure => have := HK1.out; omega
           case rel => exact ⟨xo ++ [(⟨X.f0, X.f1, X.f2, Y⟩ : S29)], wrap64 (xj + 1), (by first | rfl|(simp;done)|(simp [*];done)), ⟨by rw [← HS.out]; exact H'.out⟩, ⟨by have := HK1.out; omega⟩, ⟨by (with_reducible repeat (first|apply Kd.R_alloc|apply Kd.R_drewN|apply Kd.R_drew)); exact HO10.out⟩, ⟨by repeat (first|(with_reducible first|exact HB10.out|apply below_alloc|apply pw_below_drewN|apply below_drew1)|exact HB10.out)⟩⟩
          ·have c8b : (X.f3 == a1) = false := beq_eq_false_iff_ne.mpr c8
           by_cases c9 : a1 < X.f3
           ·have c9b : decide (a1 < X.f3) = true := decide_eq_true c9
            have HS : Aside0 (spec_DropRoll.src Y a1 X = wrap64 (X.f3 - 1)) := ⟨by unfold spec_DropRoll.src; rw [if_neg c8, if_pos c9]⟩
            clear c8 c9
            go_wp2_with (first
             |((with_reducible refine gate_dst (N := 8) rfl ?_); refine box_event ?hg (N := 8) ?hd (cs := #[.string ⟨#[]⟩, .string ⟨#[]⟩, .int .i64 0, .int .i64 0]) (t := 29) ?hr ?_;(case hd => rfl);(case hg => rfl);(case hr => first|(go_simp;done)|(go_simp; rfl)); intro gb hgb w5 hbox hb; have HB5 := Aside0.mk (below_step HB.out hb); have BK := Aside0.mk hbox; have GB := Aside0.mk (show w.heap.size ≤ gb by rw [hgb]; exact HB.out.size); have HO5 := Aside0.mk (Kd.R_below (Kd.R_elderB HO.out gb (Nat.le_of_eq hgb.symm)) hb); clear HO HB; clear hb hbox hgb; have hz0 : w5.cell? ⟨gb, 0, none⟩ = some (.string ⟨#[]⟩) := (blk_cell BK.out 0).trans rfl; have hz1 : w5.cell? ⟨gb, 1, none⟩ = some (.string ⟨#[]⟩) := (blk_cell BK.out 1).trans rfl; have hz2 : w5.cell? ⟨gb, 2, none⟩ = some (.int .i64 0) := (blk_cell BK.out 2).trans rfl; have hz3 : w5.cell? ⟨gb, 3, none⟩ = some (.int .i64 0) := (blk_cell BK.out 3).trans rfl; have hf0 := blk_frozen BK.out 0; have hf1 := blk_frozen BK.out 1; have hf2 := blk_frozen BK.out 2; have hf3 := blk_frozen BK.out 3)
             |((with_reducible refine gate_store (t := 29) (p := 8) rfl ?_); refine store_event (t := 29) (p := 8) (v := ?vo_6) (w1 := ((((w5.setCell ⟨gb, 0, none⟩ (.string X.f0)).setCell ⟨gb, 1, none⟩ (.string X.f1)).setCell ⟨gb, 2, none⟩ (.int .i64 X.f2)).setCell ⟨gb, 3, none⟩ (.int .i64 X.f3))) ?hg ?ho ?hn ?hr ?_;(case ho => rfl);(case hg => rfl);(case hn => rfl);(case hr => first|(go_simp;done)|(go_simp; rfl)); intro w6 hw; have BK6 : Aside0 (w6.heap[gb]? = some (.cells #[.string X.f0, .string X.f1, .int .i64 X.f2, .int .i64 (X.f3)] 29 (0, 0))) := ⟨by rw [hw]; exact (blk_set (blk_set (blk_set (blk_set BK.out 0 _) 1 _) 2 _) 3 _).trans rfl⟩; have HO6 := Aside0.mk (show Kd.R k29 29 w6 w.heap.size (fun k => True ∧ k ≠ gb) u6 xo from by rw [hw]; exact Kd.R_far (Kd.R_far (Kd.R_far (Kd.R_far HO5.out (p := ⟨gb, 0, none⟩) (fun k hk => hk.2) _) (p := ⟨gb, 1, none⟩) (fun k hk => hk.2) _) (p := ⟨gb, 2, none⟩) (fun k hk => hk.2) _) (p := ⟨gb, 3, none⟩) (fun k hk => hk.2) _); have HB6 := Aside0.mk (show Below w.heap.size w w6 from by rw [hw]; exact below_set (below_set (below_set (below_set HB5.out GB.out) GB.out) GB.out) GB.out); clear hw hz0 hz1 hz2 hz3 hf0 hf1 hf2 hf3 HO5 HB5 BK hx0 hx1 hx2 hx3; have hv0 : w6.cell? ⟨gb, 0, none⟩ = some (.string X.f0) := (blk_cell BK6.out 0).trans rfl; have hv1 : w6.cell? ⟨gb, 1, none⟩ = some (.string X.f1) := (blk_cell BK6.out 1).trans rfl; have hv2 : w6.cell? ⟨gb, 2, none⟩ = some (.int .i64 X.f2) := (blk_cell BK6.out 2).trans rfl; have hv3 : w6.cell? ⟨gb, 3, none⟩ = some (.int .i64 (X.f3)) := (blk_cell BK6.out 3).trans rfl; have hf0 := blk_frozen BK6.out 0; have hf1 := blk_frozen BK6.out 1; have hf2 := blk_frozen BK6.out 2; have hf3 := blk_frozen BK6.out 3; have hy3 := (HB6.out.cell (World.block_lt_of_cell? w _ HY.out)).trans HY.out; rw [← HYY.out] at hy3)
             |((with_reducible refine gate_store (t := 3) (p := 40) rfl ?_); refine store_event (t := 3) (p := 40) (v := ?vo_q2) (w1 := (w6.setCell ⟨gb, 3, none⟩ (.int .i64 (wrap64 (X.f3 - 1))))) ?hg ?ho ?hn ?hr ?_;(case ho => rfl);(case hg => rfl);(case hn => rfl);(case hr => first|(go_simp;done)|(go_simp; rfl)); intro w7 hw; have BK7 : Aside0 (w7.heap[gb]? = some (.cells #[.string X.f0, .string X.f1, .int .i64 X.f2, .int .i64 (wrap64 (X.f3 - 1))] 29 (0, 0))) := ⟨by rw [hw]; exact (blk_set BK6.out 3 _).trans rfl⟩; have HO7 := Aside0.mk (show Kd.R k29 29 w7 w.heap.size (fun k => True ∧ k ≠ gb) u6 xo from by rw [hw]; exact Kd.R_far HO6.out (p := ⟨gb, 3, none⟩) (fun k hk => hk.2) _); have HB7 := Aside0.mk (show Below w.heap.size w w7 from by rw [hw]; exact below_set HB6.out GB.out); clear hw hv0 hv1 hv2 hv3 hf0 hf1 hf2 hf3 hy3; have hv0 : w7.cell? ⟨gb, 0, none⟩ = some (.string X.f0) := (blk_cell BK7.out 0).trans rfl; have hv1 : w7.cell? ⟨gb, 1, none⟩ = some (.string X.f1) := (blk_cell BK7.out 1).trans rfl; have hv2 : w7.cell? ⟨gb, 2, none⟩ = some (.int .i64 X.f2) := (blk_cell BK7.out 2).trans rfl; have hv3 : w7.cell? ⟨gb, 3, none⟩ = some (.int .i64 (wrap64 (X.f3 - 1))) := (blk_cell BK7.out 3).trans rfl; have hf0 := blk_frozen BK7.out 0; have hf1 := blk_frozen BK7.out 1; have hf2 := blk_frozen BK7.out 2; have hf3 := blk_frozen BK7.out 3; have hy3 := (HB7.out.cell (World.block_lt_of_cell? w _ HY.out)).trans HY.out; rw [← HYY.out] at hy3)
             |((with_reducible refine gate_builtin (b := .append) (xs := #[.tmp 41, .tmp 43]) rfl ?_); at_builtin; refine Kd.R_append k29 (w0 := w) w.heap.size rfl (.tmp 41) (.tmp 43) 23 29 (.agg #[(.string ⟨#[]⟩), (.string ⟨#[]⟩), (.int .i64 0), (.int .i64 0)]) 48 rfl Try.underlying23 spec_DropRoll.info rfl (by decide) (by omega) u6 xo (⟨X.f0, X.f1, X.f2, wrap64 (X.f3 - 1)⟩ : S29) [.string X.f0, .string X.f1, .int .i64 X.f2, .int .i64 (wrap64 (X.f3 - 1))] (fun _ => True) (fun _ => False) rfl (by first|(go_simp;done)|(go_simp; rfl)) ?aP (fun _ hk => hk.elim) ?aF ?aO ?aB ?aS ?aL ?_;(case aP => exact k29_mkM _ _ _ (⟨X.f0, X.f1, X.f2, wrap64 (X.f3 - 1)⟩ : S29));(case aB => exact (by repeat (first|(with_reducible first|exact HB7.out|apply below_alloc|apply pw_below_drewN|apply below_drew1)|exact HB7.out)));(case aF => exact (fun _ _ => trivial));(case aO => exact (by (with_reducible repeat (first|apply Kd.R_alloc|apply Kd.R_drewN|apply Kd.R_drew)); exact Kd.R_mono HO7.out (fun _ _ => trivial)));(case aS => exact (below_size (by repeat (first|(with_reducible first|exact HB7.out|apply below_alloc|apply pw_below_drewN|apply below_drew1)|exact HB7.out))));(case aL => have := LM.out; omega); intro v10 w10 ho hb hg hat; have HO10 := Aside0.mk ho; have HB10 := Aside0.mk hb; clear ho hb hg hat))
            go_roundg k1
            case measure => have := HK1.out; omega
            case rel => exact ⟨xo ++ [(⟨X.f0, X.f1, X.f2, wrap64 (X.f3 - 1)⟩ : S29)], wrap64 (xj + 1), (by first | rfl|(simp;done)|(simp [*];done)), ⟨by rw [← HS.out]; exact H'.out⟩, ⟨by have := HK1.out; omega⟩, ⟨by (with_reducible repeat (first|apply Kd.R_alloc|apply Kd.R_drewN|apply Kd.R_drew)); exact HO10.out⟩, ⟨by repeat (first|(with_reducible first|exact HB10.out|apply below_alloc|apply pw_below_drewN|apply below_drew1)|exact HB10.out)⟩⟩
           ·have c9b : decide (a1 < X.f3) = false := decide_eq_false c9
            have HS : Aside0 (spec_DropRoll.src Y a1 X = X.f3) := ⟨by unfold spec_DropRoll.src; rw [if_neg c8, if_neg c9]⟩
            clear c8 c9
            go_wp2_with (first
             |((with_reducible refine gate_dst (N := 8) rfl ?_); refine box_event ?hg (N := 8) ?hd (cs := #[.string ⟨#[]⟩, .string ⟨#[]⟩, .int .i64 0, .int .i64 0]) (t := 29) ?hr ?_;(case hd => rfl);(case hg => rfl);(case hr => first|(go_simp;done)|(go_simp; rfl)); intro gb hgb w5 hbox hb; have HB5 := Aside0.mk (below_step HB.out hb); have BK := Aside0.mk hbox; have GB := Aside0.mk (show w.heap.size ≤ gb by rw [hgb]; exact HB.out.size); have HO5 := Aside0.mk (Kd.R_below (Kd.R_elderB HO.out gb (Nat.le_of_eq hgb.symm)) hb); clear HO HB; clear hb hbox hgb; have hz0 : w5.cell? ⟨gb, 0, none⟩ = some (.string ⟨#[]⟩) := (blk_cell BK.out 0).trans rfl; have hz1 : w5.cell? ⟨gb, 1, none⟩ = some (.string ⟨#[]⟩) := (blk_cell BK.out 1).trans rfl; have hz2 : w5.cell? ⟨gb, 2, none⟩ = some (.int .i64 0) := (blk_cell BK.out 2).trans rfl; have hz3 : w5.cell? ⟨gb, 3, none⟩ = some (.int .i64 0) := (blk_cell BK.out 3).trans rfl; have hf0 := blk_frozen BK.out 0; have hf1 := blk_frozen BK.out 1; have hf2 := blk_frozen BK.out 2; have hf3 := blk_frozen BK.out 3)
             |((with_reducible refine gate_store (t := 29) (p := 8) rfl ?_); refine store_event (t := 29) (p := 8) (v := ?vo_6) (w1 := ((((w5.setCell ⟨gb, 0, none⟩ (.string X.f0)).setCell ⟨gb, 1, none⟩ (.string X.f1)).setCell ⟨gb, 2, none⟩ (.int .i64 X.f2)).setCell ⟨gb, 3, none⟩ (.int .i64 X.f3))) ?hg ?ho ?hn ?hr ?_;(case ho => rfl);(case hg => rfl);(case hn => rfl);(case hr => first|(go_simp;done)|(go_simp; rfl)); intro w6 hw; have BK6 : Aside0 (w6.heap[gb]? = some (.cells #[.string X.f0, .string X.f1, .int .i64 X.f2, .int .i64 (X.f3)] 29 (0, 0))) := ⟨by rw [hw]; exact (blk_set (blk_set (blk_set (blk_set BK.out 0 _) 1 _) 2 _) 3 _).trans rfl⟩; have HO6 := Aside0.mk (show Kd.R k29 29 w6 w.heap.size (fun k => True ∧ k ≠ gb) u6 xo from by rw [hw]; exact Kd.R_far (Kd.R_far (Kd.R_far (Kd.R_far HO5.out (p := ⟨gb, 0, none⟩) (fun k hk => hk.2) _) (p := ⟨gb, 1, none⟩) (fun k hk => hk.2) _) (p := ⟨gb, 2, none⟩) (fun k hk => hk.2) _) (p := ⟨gb, 3, none⟩) (fun k hk => hk.2) _); have HB6 := Aside0.mk (show Below w.heap.size w w6 from by rw [hw]; exact below_set (below_set (below_set (below_set HB5.out GB.out) GB.out) GB.out) GB.out); clear hw hz0 hz1 hz2 hz3 hf0 hf1 hf2 hf3 HO5 HB5 BK hx0 hx1 hx2 hx3; have hv0 : w6.cell? ⟨gb, 0, none⟩ = some (.string X.f0) := (blk_cell BK6.out 0).trans rfl; have hv1 : w6.cell? ⟨gb, 1, none⟩ = some (.string X.f1) := (blk_cell BK6.out 1).trans rfl; have hv2 : w6.cell? ⟨gb, 2, none⟩ = some (.int .i64 X.f2) := (blk_cell BK6.out 2).trans rfl; have hv3 : w6.cell? ⟨gb, 3, none⟩ = some (.int .i64 (X.f3)) := (blk_cell BK6.out 3).trans rfl; have hf0 := blk_frozen BK6.out 0; have hf1 := blk_frozen BK6.out 1; have hf2 := blk_frozen BK6.out 2; have hf3 := blk_frozen BK6.out 3; have hy3 := (HB6.out.cell (World.block_lt_of_cell? w _ HY.out)).trans HY.out; rw [← HYY.out] at hy3)
             |((with_reducible refine gate_builtin (b := .append) (xs := #[.tmp 41, .tmp 43]) rfl ?_); at_builtin; refine Kd.R_append k29 (w0 := w) w.heap.size rfl (.tmp 41) (.tmp 43) 23 29 (.agg #[(.string ⟨#[]⟩), (.string ⟨#[]⟩), (.int .i64 0), (.int .i64 0)]) 48 rfl Try.underlying23 spec_DropRoll.info rfl (by decide) (by omega) u6 xo (⟨X.f0, X.f1, X.f2, X.f3⟩ : S29) [.string X.f0, .string X.f1, .int .i64 X.f2, .int .i64 (X.f3)] (fun _ => True) (fun _ => False) rfl (by first|(go_simp;done)|(go_simp; rfl)) ?aP (fun _ hk => hk.elim) ?aF ?aO ?aB ?aS ?aL ?_;(case aP => exact k29_mkM _ _ _ (⟨X.f0, X.f1, X.f2, X.f3⟩ : S29));(case aB => exact (by repeat (first|(with_reducible first|exact HB6.out|apply below_alloc|apply pw_below_drewN|apply below_drew1)|exact HB6.out)));(case aF => exact (fun _ _ => trivial));(case aO => exact (by (with_reducible repeat (first|apply Kd.R_alloc|apply Kd.R_drewN|apply Kd.R_drew)); exact Kd.R_mono HO6.out (fun _ _ => trivial)));(case aS => exact (below_size (by repeat (first|(with_reducible first|exact HB6.out|apply below_alloc|apply pw_below_drewN|apply below_drew1)|exact HB6.out))));(case aL => have := LM.out; omega); intro v10 w10 ho hb hg hat; have HO10 := Aside0.mk ho; have HB10 := Aside0.mk hb; clear ho hb hg hat))
            go_roundg k1
            case measure => have := HK1.out; omega
            case rel => exact ⟨xo ++ [(⟨X.f0, X.f1, X.f2, X.f3⟩ : S29)], wrap64 (xj + 1), (by first | rfl|(simp;done)|(simp [*];done)), ⟨by rw [← HS.out]; exact H'.out⟩, ⟨by have := HK1.out; omega⟩, ⟨by (with_reducible repeat (first|apply Kd.R_alloc|apply Kd.R_drewN|apply Kd.R_drew)); exact HO10.out⟩, ⟨by repeat (first|(with_reducible first|exact HB10.out|apply below_alloc|apply pw_below_drewN|apply below_drew1)|exact HB10.out)⟩⟩
         ·rw [if_neg c7] at H
          exact absurd H (by simp)
       ·rw [if_neg c5] at H
        exact absurd H (by simp)
      ·rw [if_neg c4] at H
       have c4b : decide (xj < (l0.length : Int)) = false := decide_eq_false c4
       clear c4
       obtain rfl := Option.some.inj H
       clear H
       go_wp2
       go_ret2
       exact ⟨_, rfl, by (with_reducible repeat (first|apply Kd.R_alloc|apply Kd.R_drewN|apply Kd.R_drew)); exact HO.out, by repeat (first|(with_reducible first|exact HB.out|apply below_alloc|apply pw_below_drewN|apply below_drew1)|exact HB.out)⟩
   ·rw [if_neg q1] at H
    exact absurd H (by simp)
  ·rw [if_neg p1] at H
   exact absurd H (by simp)


/-! ### spec_DrawAddRoll: function 10 -/
def spec_DrawAddRoll.f (k : Nat) (l0 : List Int) : Option ((List (S29)) × ByteArray × ByteArray × Int × Int) := (spec_l1Cur_rolls.f k l0 0 0).bind fun bt262 => ((spec_l1Cur_of.f l0 bt262.2.1 bt262.2.2 (([(⟨#[110, 101, 119]⟩ : ByteArray), (⟨#[119, 97, 108, 116, 122]⟩ : ByteArray), (⟨#[109, 97, 114, 99, 104]⟩ : ByteArray), (⟨#[104, 121, 109, 110]⟩ : ByteArray), (⟨#[]⟩ : ByteArray), (⟨#[110, 101, 119, 101, 115, 116]⟩ : ByteArray)] : List ByteArray))).bind fun bt270 => ((spec_l1Cur_maker.f l0 bt270.2.1 bt270.2.2).bind fun bt273 => ((spec_l1Cur_among.f l0 bt273.2.1 bt273.2.2 (([1880, 1900, 1950, 2100, 2101] : List Int))).bind fun bt279 => ((spec_l1Cur_among.f l0 bt279.2.1 bt279.2.2 (([(-1), 0, wrap64 ((bt262.1.length : Int) - 1), (bt262.1.length : Int)] : List Int))).bind fun bt285 => (some (bt262.1, bt270.1, bt273.1, bt279.1, bt285.1))))))
theorem spec_DrawAddRoll.mono : ∀ a0 k, LeO (spec_DrawAddRoll.f k a0) (spec_DrawAddRoll.f (k + 1) a0) := by
 intro a0 k
 unfold spec_DrawAddRoll.f
 repeat' first
  |(with_reducible exact spec_l1Cur_rolls.mono _ _ _ _)
  |(with_reducible exact LeO.refl _)
  |(with_reducible exact LeO.none _)
  |(with_reducible refine LeO.ite ?_ ?_)
  |(with_reducible refine LeO.bind ?_ (fun _ => ?_))
  |exact spec_l1Cur_rolls.mono _ _ _ _
  |exact LeO.none _
   | refine LeO.ite ?_ ?_
   | refine LeO.bind ?_ (fun _ => ?_)
set_option maxHeartbeats 8000000 in
set_option maxRecDepth 100000 in
theorem spec_DrawAddRoll.calls (k : Nat) (A0 : Option Addr) (c0 : Nat) (l0 : List Int) (r1 : List (S29)) (r2 : ByteArray) (r3 : ByteArray) (r4 : Int) (r5 : Int) (w : World) (hr0 : Kd.C (Kd.int .u8) w A0 l0.length l0) (hc0 : l0.length ≤ c0) (h : spec_DrawAddRoll.f k l0 = some (r1, r2, r3, r4, r5)) :
 Calls Try.prog 10 #[.slice A0 l0.length c0] w fun e w' => ∃ v0_ : Value, e = .returned (.tuple #[v0_, .agg #[.string r2, .string r3, .int .i64 r4, .int .i64 r5]]) ∧ Kd.R k29 29 w' w.heap.size (fun _ => True) v0_ r1 ∧ Below w.heap.size w w' := by
 have hu29 := Try.underlying29
 have hu90 := Try.underlying90
 have HR0 := Aside0.mk hr0
 have HC0 := Aside0.mk hc0
 clear hr0 hc0
 have HB := Aside0.mk (Below.refl w.heap.size w)
 have H : ((spec_l1Cur_rolls.f k l0 0 0).bind fun bt262 => ((spec_l1Cur_of.f l0 bt262.2.1 bt262.2.2 (([(⟨#[110, 101, 119]⟩ : ByteArray), (⟨#[119, 97, 108, 116, 122]⟩ : ByteArray), (⟨#[109, 97, 114, 99, 104]⟩ : ByteArray), (⟨#[104, 121, 109, 110]⟩ : ByteArray), (⟨#[]⟩ : ByteArray), (⟨#[110, 101, 119, 101, 115, 116]⟩ : ByteArray)] : List ByteArray))).bind fun bt270 => ((spec_l1Cur_maker.f l0 bt270.2.1 bt270.2.2).bind fun bt273 => ((spec_l1Cur_among.f l0 bt273.2.1 bt273.2.2 (([1880, 1900, 1950, 2100, 2101] : List Int))).bind fun bt279 => ((spec_l1Cur_among.f l0 bt279.2.1 bt279.2.2 (([(-1), 0, wrap64 ((bt262.1.length : Int) - 1), (bt262.1.length : Int)] : List Int))).bind fun bt285 => (some (bt262.1, bt270.1, bt273.1, bt279.1, bt285.1))))))) = some (r1, r2, r3, r4, r5) := h
 clear h
 replace H := Option.bind_eq_some_iff.mp H
 obtain ⟨⟨t262, t265, t266⟩, A20, H⟩ := H
 try dsimp only at H
 have A2 := Aside0.mk A20
 clear A20
 obtain ⟨y267, hy267⟩ : ∃ y_ : List ByteArray, y_ = (([(⟨#[110, 101, 119]⟩ : ByteArray), (⟨#[119, 97, 108, 116, 122]⟩ : ByteArray), (⟨#[109, 97, 114, 99, 104]⟩ : ByteArray), (⟨#[104, 121, 109, 110]⟩ : ByteArray), (⟨#[]⟩ : ByteArray), (⟨#[110, 101, 119, 101, 115, 116]⟩ : ByteArray)] : List ByteArray)) := ⟨_, rfl⟩
 replace H : ((spec_l1Cur_of.f l0 t265 t266 y267).bind fun bt270 => ((spec_l1Cur_maker.f l0 bt270.2.1 bt270.2.2).bind fun bt273 => ((spec_l1Cur_among.f l0 bt273.2.1 bt273.2.2 (([1880, 1900, 1950, 2100, 2101] : List Int))).bind fun bt279 => ((spec_l1Cur_among.f l0 bt279.2.1 bt279.2.2 (([(-1), 0, wrap64 ((t262.length : Int) - 1), (t262.length : Int)] : List Int))).bind fun bt285 => (some (t262, bt270.1, bt273.1, bt279.1, bt285.1)))))) = some (r1, r2, r3, r4, r5) := by first|(rw [hy267]; with_reducible exact H)|(have H2_ := (Option.bind_some _ _).symm.trans H; rw [hy267]; with_reducible exact H2_)|(have H2_ := (Option.bind_some _ _).symm.trans H; with_reducible exact H2_) | with_reducible exact H|(rw [hy267]; exact H)|exact H
 have Ny267 := Aside0.mk hy267
 clear hy267
 replace H := Option.bind_eq_some_iff.mp H
 obtain ⟨⟨t270, t271, t272⟩, A30, H⟩ := H
 try dsimp only at H
 have A3 := Aside0.mk A30
 clear A30
 replace H := Option.bind_eq_some_iff.mp H
 obtain ⟨⟨t273, t274, t275⟩, A40, H⟩ := H
 try dsimp only at H
 have A4 := Aside0.mk A40
 clear A40
 obtain ⟨y276, hy276⟩ : ∃ y_ : List Int, y_ = (([1880, 1900, 1950, 2100, 2101] : List Int)) := ⟨_, rfl⟩
 replace H : ((spec_l1Cur_among.f l0 t274 t275 y276).bind fun bt279 => ((spec_l1Cur_among.f l0 bt279.2.1 bt279.2.2 (([(-1), 0, wrap64 ((t262.length : Int) - 1), (t262.length : Int)] : List Int))).bind fun bt285 => (some (t262, t270, t273, bt279.1, bt285.1)))) = some (r1, r2, r3, r4, r5) := by first|(rw [hy276]; with_reducible exact H)|(have H2_ := (Option.bind_some _ _).symm.trans H; rw [hy276]; with_reducible exact H2_)|(have H2_ := (Option.bind_some _ _).symm.trans H; with_reducible exact H2_) | with_reducible exact H|(rw [hy276]; exact H)|exact H
 have Ny276 := Aside0.mk hy276
 clear hy276
 replace H := Option.bind_eq_some_iff.mp H
 obtain ⟨⟨t279, t280, t281⟩, A50, H⟩ := H
 try dsimp only at H
 have A5 := Aside0.mk A50
 clear A50
 obtain ⟨y282, hy282⟩ : ∃ y_ : List Int, y_ = (([(-1), 0, wrap64 ((t262.length : Int) - 1), (t262.length : Int)] : List Int)) := ⟨_, rfl⟩
 replace H : ((spec_l1Cur_among.f l0 t280 t281 y282).bind fun bt285 => (some (t262, t270, t273, t279, bt285.1))) = some (r1, r2, r3, r4, r5) := by first|(rw [hy282]; with_reducible exact H)|(have H2_ := (Option.bind_some _ _).symm.trans H; rw [hy282]; with_reducible exact H2_)|(have H2_ := (Option.bind_some _ _).symm.trans H; with_reducible exact H2_) | with_reducible exact H|(rw [hy282]; exact H)|exact H
 have Ny282 := Aside0.mk hy282
 clear hy282
 replace H := Option.bind_eq_some_iff.mp H
 obtain ⟨⟨t285, t286, t287⟩, A60, H⟩ := H
 try dsimp only at H
 have A6 := Aside0.mk A60
 clear A60
 simp only [Option.some.injEq, Prod.mk.injEq] at H
 obtain ⟨rfl, rfl, rfl, rfl, rfl⟩ := H
 go_enter Try.func10, Try.ntmps10
 go_wp2_with (first|((with_reducible refine gate_dst (N := 3) rfl ?_); refine box_event ?hg (N := 3) ?hd (cs := #[.string (⟨#[]⟩ : ByteArray), .string (⟨#[]⟩ : ByteArray), .int .i64 0, .int .i64 0]) (t := 29) ?hr ?_;(case hd => rfl);(case hg => rfl);(case hr => first|(go_simp;done)|(go_simp; rfl)); intro gb260 hg w7 hbox hb; have n0_ := Aside0.mk (below_step (by repeat (first|(with_reducible first|exact HB.out|apply below_alloc|apply pw_below_drewN|apply below_drew1)|exact HB.out)) hb); have n1_ := Aside0.mk (hbox); have n2_ := Aside0.mk ((by rw [hg]; exact (below_size (by repeat (first|(with_reducible first|exact HB.out|apply below_alloc|apply pw_below_drewN|apply below_drew1)|exact HB.out))) : w.heap.size ≤ gb260)); have n3_ := Aside0.mk ((by rw [hg]; exact (below_size (by repeat (first|(with_reducible first|exact HB.out|apply below_alloc|apply pw_below_drewN|apply below_drew1)|exact HB.out))) : w.heap.size ≤ gb260)); clear HB; have HB := n0_; have BK260 := n1_; have GW260 := n2_; have GE260 := n3_; clear n0_ n1_ n2_ n3_; clear hb hbox hg)|((with_reducible refine gate_dst (N := 8) rfl ?_); refine box_event ?hg (N := 8) ?hd (cs := #[.slice A0 l0.length c0, .int .i64 0, .int .u64 0]) (t := 90) ?hr ?_;(case hd => rfl);(case hg => rfl);(case hr => first|(go_simp;done)|(go_simp; rfl)); intro g261 hg w8 hbox hb; have n0_ := Aside0.mk (blk_below (g := gb260) (o := .cells #[.string (⟨#[]⟩ : ByteArray), .string (⟨#[]⟩ : ByteArray), .int .i64 0, .int .i64 0] 29 (0, 0)) (by (with_reducible repeat (first|refine blk_drewN ?_ _ | refine blk_drew ?_ | refine blk_alloc ?_ _)); exact BK260.out) hb); have n1_ := Aside0.mk (below_step (by repeat (first|(with_reducible first|exact HB.out|apply below_alloc|apply pw_below_drewN|apply below_drew1 | refine below_set ?_ GE260.out)|exact HB.out)) hb); have n2_ := Aside0.mk ((⟨_, _, hbox, by rw [hg]; exact (below_size (by repeat (first|(with_reducible first|exact HB.out|apply below_alloc|apply pw_below_drewN|apply below_drew1 | refine below_set ?_ GE260.out)|exact HB.out))), HR0.out⟩ : IsS90 w w8 g261 l0 0 0)); have n3_ := Aside0.mk ((show g261 ≠ gb260 from fun e_ => by have h_ : w7.heap[gb260]? = some (.cells #[.string (⟨#[]⟩ : ByteArray), .string (⟨#[]⟩ : ByteArray), .int .i64 0, .int .i64 0] 29 (0, 0)) := (by (with_reducible repeat (first|refine blk_drewN ?_ _ | refine blk_drew ?_ | refine blk_alloc ?_ _)); exact BK260.out); rw [← e_, hg] at h_; simp at h_)); have n4_ := Aside0.mk ((show gb260 ≠ g261 from fun e_ => by have h_ : w7.heap[gb260]? = some (.cells #[.string (⟨#[]⟩ : ByteArray), .string (⟨#[]⟩ : ByteArray), .int .i64 0, .int .i64 0] 29 (0, 0)) := (by (with_reducible repeat (first|refine blk_drewN ?_ _ | refine blk_drew ?_ | refine blk_alloc ?_ _)); exact BK260.out); rw [e_, hg] at h_; simp at h_)); clear BK260; clear HB; have BK260 := n0_; have HB := n1_; have HI261 := n2_; have NB261_260 := n3_; have NB260_261 := n4_; clear n0_ n1_ n2_ n3_ n4_; clear hb hbox hg)|((with_reducible refine gate_callee (f := 69) rfl ?_); refine goesL_ (some 10) rfl rfl Try.func69 (by kernel_rfl) rfl #[.pointer (some ⟨g261, 0, none⟩)] rfl (by (try simp only [List.map_toArray, List.map_cons, List.map_nil]); first | done | rfl|(simp only [List.length_drop, List.length_take]; rfl)) ?_; (with_reducible refine (spec_l1Cur_rolls.calls k g261 l0 0 0 t262 t265 t266 w _ ?side1 ?side2 A2.out).mono ?_);(case side1 => repeat (first|(with_reducible first|exact HI261.out|apply IsS90.alloc|apply IsS90.drewN|apply IsS90.drew|apply IsS90.set_1|apply IsS90.set_2|exact IsS90.far HI0.out NB261_260.out _|exact IsS90.far (IsS90.far HI0.out NB261_260.out _) NB261_260.out _|exact IsS90.far (IsS90.far (IsS90.far HI0.out NB261_260.out _) NB261_260.out _) NB261_260.out _ | refine IsS90.far ?_ NB261_260.out _)|exact HI261.out));(case side2 => repeat (first|(with_reducible first|exact HB.out|apply below_alloc|apply pw_below_drewN|apply below_drew1 | refine below_set ?_ (IsS90.ge HI261.out) | refine below_set ?_ GE260.out)|exact HB.out)); rintro e w9 ⟨v263, rfl, ho0, hi, hb, hk⟩; refine ⟨_, rfl, ?_⟩; have n0_ := Aside0.mk (KeepBut.blk hk (g' := gb260) (o := .cells #[.string (⟨#[]⟩ : ByteArray), .string (⟨#[]⟩ : ByteArray), .int .i64 0, .int .i64 0] 29 (0, 0)) (by (with_reducible repeat (first|refine blk_drewN ?_ _ | refine blk_drew ?_ | refine blk_alloc ?_ _)); exact BK260.out) NB260_261.out (by simp)); have n1_ := Aside0.mk (Kd.R_lower (Kd.R_newB ho0 (g := gb260) (o := .cells #[.string (⟨#[]⟩ : ByteArray), .string (⟨#[]⟩ : ByteArray), .int .i64 0, .int .i64 0] 29 (0, 0)) (by (with_reducible repeat (first|refine blk_drewN ?_ _ | refine blk_drew ?_ | refine blk_alloc ?_ _)); exact BK260.out)) (below_size (by repeat (first|(with_reducible first|exact HB.out|apply below_alloc|apply pw_below_drewN|apply below_drew1 | refine below_set ?_ (IsS90.ge HI261.out) | refine below_set ?_ GE260.out)|exact HB.out)))); have n2_ := Aside0.mk (hb); have n3_ := Aside0.mk (hi); clear BK260; clear HB; clear HI261; have BK260 := n0_; have HO264 := n1_; have HB := n2_; have HI261 := n3_; clear n0_ n1_ n2_ n3_; (try clear hb); (try clear hb2); (try clear hk); (try clear hi); (try clear ho0))|((with_reducible refine gate_dst (N := 13) rfl ?_); refine Kd.R_lit Kd.string _ 9 ?hg (N := 13) ?hd (xs := ([(⟨#[110, 101, 119]⟩ : ByteArray), (⟨#[119, 97, 108, 116, 122]⟩ : ByteArray), (⟨#[109, 97, 114, 99, 104]⟩ : ByteArray), (⟨#[104, 121, 109, 110]⟩ : ByteArray), (⟨#[]⟩ : ByteArray), (⟨#[110, 101, 119, 101, 115, 116]⟩ : ByteArray)] : List ByteArray)) (inner := [.string (⟨#[110, 101, 119]⟩ : ByteArray), .string (⟨#[119, 97, 108, 116, 122]⟩ : ByteArray), .string (⟨#[109, 97, 114, 99, 104]⟩ : ByteArray), .string (⟨#[104, 121, 109, 110]⟩ : ByteArray), .string (⟨#[]⟩ : ByteArray), .string (⟨#[110, 101, 119, 101, 115, 116]⟩ : ByteArray)]) (ok := fun _ => True) (okp := fun _ => True) ?hr ?hp (fun _ hk => hk) trivial (Below.refl _ _) (Nat.le_refl _) (by simp) ?_;(case hd => rfl);(case hg => rfl);(case hr => first|(go_simp;done)|(go_simp; rfl));(case hp => exact (Reps.one (show Kd.M Kd.string _ _ _ (⟨#[110, 101, 119]⟩ : ByteArray) [.string (⟨#[110, 101, 119]⟩ : ByteArray)] from rfl) (Reps.one (show Kd.M Kd.string _ _ _ (⟨#[119, 97, 108, 116, 122]⟩ : ByteArray) [.string (⟨#[119, 97, 108, 116, 122]⟩ : ByteArray)] from rfl) (Reps.one (show Kd.M Kd.string _ _ _ (⟨#[109, 97, 114, 99, 104]⟩ : ByteArray) [.string (⟨#[109, 97, 114, 99, 104]⟩ : ByteArray)] from rfl) (Reps.one (show Kd.M Kd.string _ _ _ (⟨#[104, 121, 109, 110]⟩ : ByteArray) [.string (⟨#[104, 121, 109, 110]⟩ : ByteArray)] from rfl) (Reps.one (show Kd.M Kd.string _ _ _ (⟨#[]⟩ : ByteArray) [.string (⟨#[]⟩ : ByteArray)] from rfl) (Reps.one (show Kd.M Kd.string _ _ _ (⟨#[110, 101, 119, 101, 115, 116]⟩ : ByteArray) [.string (⟨#[110, 101, 119, 101, 115, 116]⟩ : ByteArray)] from rfl) (Reps.none _ _)))))))); intro v268 w10 ho11 hb hg_ hnew_; clear hg_ hnew_; (first|rw [← Ny267.out] at ho11|(simp only [Int.reduceToNat] at ho11; rw [← Ny267.out] at ho11)); have n0_ := Aside0.mk (Kd.R_below (by (with_reducible repeat (first|apply Kd.R_alloc|apply Kd.R_drewN|apply Kd.R_drew)); exact HO264.out) hb); have n1_ := Aside0.mk (Kd.R_lower ho11 (below_size (by repeat (first|(with_reducible first|exact HB.out|apply below_alloc|apply pw_below_drewN|apply below_drew1 | refine below_set ?_ (IsS90.ge HI261.out) | refine below_set ?_ GE260.out)|exact HB.out)))); have n2_ := Aside0.mk (blk_below (g := gb260) (o := .cells #[.string (⟨#[]⟩ : ByteArray), .string (⟨#[]⟩ : ByteArray), .int .i64 0, .int .i64 0] 29 (0, 0)) (by (with_reducible repeat (first|refine blk_drewN ?_ _ | refine blk_drew ?_ | refine blk_alloc ?_ _)); exact BK260.out) hb); have n3_ := Aside0.mk (IsS90.below (by repeat (first|(with_reducible first|exact HI261.out|apply IsS90.alloc|apply IsS90.drewN|apply IsS90.drew|apply IsS90.set_1|apply IsS90.set_2|exact IsS90.far HI0.out NB261_260.out _|exact IsS90.far (IsS90.far HI0.out NB261_260.out _) NB261_260.out _|exact IsS90.far (IsS90.far (IsS90.far HI0.out NB261_260.out _) NB261_260.out _) NB261_260.out _ | refine IsS90.far ?_ NB261_260.out _)|exact HI261.out)) hb); have n4_ := Aside0.mk (below_step (by repeat (first|(with_reducible first|exact HB.out|apply below_alloc|apply pw_below_drewN|apply below_drew1 | refine below_set ?_ (IsS90.ge HI261.out) | refine below_set ?_ GE260.out)|exact HB.out)) hb); clear HO264; clear BK260; clear HI261; clear HB; have HO264 := n0_; have HO269 := n1_; have BK260 := n2_; have HI261 := n3_; have HB := n4_; clear n0_ n1_ n2_ n3_ n4_; clear hb ho11; obtain ⟨Ao12, co12, eo12⟩ := Kd.R_slice HO269.out; subst eo12)|((with_reducible refine gate_callee (f := 70) rfl ?_); refine goesL_ (some 14) rfl rfl Try.func70 (by kernel_rfl) rfl #[.pointer (some ⟨g261, 0, none⟩), .slice Ao12 y267.length co12] rfl (by (try simp only [List.map_toArray, List.map_cons, List.map_nil]); first | done | rfl|(simp only [List.length_drop, List.length_take]; rfl)) ?_; (with_reducible refine (spec_l1Cur_of.calls g261 l0 t265 t266 _ _ y267 t270 t271 t272 w _ ?side1 ?side2 ?side3 ?side4 ?side5 A3.out).mono ?_);(case side1 => repeat (first|(with_reducible first|exact HI261.out|apply IsS90.alloc|apply IsS90.drewN|apply IsS90.drew|apply IsS90.set_1|apply IsS90.set_2|exact IsS90.far HI0.out NB261_260.out _|exact IsS90.far (IsS90.far HI0.out NB261_260.out _) NB261_260.out _|exact IsS90.far (IsS90.far (IsS90.far HI0.out NB261_260.out _) NB261_260.out _) NB261_260.out _ | refine IsS90.far ?_ NB261_260.out _)|exact HI261.out));(case side2 => repeat (first|(with_reducible first|exact HB.out|apply below_alloc|apply pw_below_drewN|apply below_drew1 | refine below_set ?_ (IsS90.ge HI261.out) | refine below_set ?_ GE260.out)|exact HB.out));(case side3 => repeat (first|exact (Kd.R_reads' HO269.out).2.2|(with_reducible refine Kd.C_alloc ?_ _)|(with_reducible refine Kd.C_drewN ?_ _)|(with_reducible refine Kd.C_drew ?_)));(case side4 => exact (Kd.R_reads' HO269.out).2.1);(case side5 => exact far_slice (IsS90.own_ne HI261.out HO269.out (by decide))); rintro e w13 ⟨rfl, hi, hb, hk⟩; refine ⟨_, rfl, ?_⟩; have n0_ := Aside0.mk (KeepBut.blk hk (g' := gb260) (o := .cells #[.string (⟨#[]⟩ : ByteArray), .string (⟨#[]⟩ : ByteArray), .int .i64 0, .int .i64 0] 29 (0, 0)) (by (with_reducible repeat (first|refine blk_drewN ?_ _ | refine blk_drew ?_ | refine blk_alloc ?_ _)); exact BK260.out) NB260_261.out (by simp)); have n1_ := Aside0.mk (Kd.R_mono (Kd.R_keep (IsS90.apart (show IsS90 w _ g261 l0 t265 t266 from by repeat (first|(with_reducible first|exact HI261.out|apply IsS90.alloc|apply IsS90.drewN|apply IsS90.drew|apply IsS90.set_1|apply IsS90.set_2|exact IsS90.far HI0.out NB261_260.out _|exact IsS90.far (IsS90.far HI0.out NB261_260.out _) NB261_260.out _|exact IsS90.far (IsS90.far (IsS90.far HI0.out NB261_260.out _) NB261_260.out _) NB261_260.out _ | refine IsS90.far ?_ NB261_260.out _)|exact HI261.out)) (by (with_reducible repeat (first|apply Kd.R_alloc|apply Kd.R_drewN|apply Kd.R_drew)); exact HO264.out) (by decide)) hk (fun _ h => h.2)) (fun _ h => h.1)); have n2_ := Aside0.mk (Kd.R_mono (Kd.R_keep (IsS90.apart (show IsS90 w _ g261 l0 t265 t266 from by repeat (first|(with_reducible first|exact HI261.out|apply IsS90.alloc|apply IsS90.drewN|apply IsS90.drew|apply IsS90.set_1|apply IsS90.set_2|exact IsS90.far HI0.out NB261_260.out _|exact IsS90.far (IsS90.far HI0.out NB261_260.out _) NB261_260.out _|exact IsS90.far (IsS90.far (IsS90.far HI0.out NB261_260.out _) NB261_260.out _) NB261_260.out _ | refine IsS90.far ?_ NB261_260.out _)|exact HI261.out)) (by (with_reducible repeat (first|apply Kd.R_alloc|apply Kd.R_drewN|apply Kd.R_drew)); exact HO269.out) (by decide)) hk (fun _ h => h.2)) (fun _ h => h.1)); have n3_ := Aside0.mk (hb); have n4_ := Aside0.mk (hi); clear BK260; clear HO264; clear HO269; clear HB; clear HI261; have BK260 := n0_; have HO264 := n1_; have HO269 := n2_; have HB := n3_; have HI261 := n4_; clear n0_ n1_ n2_ n3_ n4_; (try clear hb); (try clear hb2); (try clear hk); (try clear hi))|((with_reducible refine gate_callee (f := 71) rfl ?_); refine goesL_ (some 16) rfl rfl Try.func71 (by kernel_rfl) rfl #[.pointer (some ⟨g261, 0, none⟩)] rfl (by (try simp only [List.map_toArray, List.map_cons, List.map_nil]); first | done | rfl|(simp only [List.length_drop, List.length_take]; rfl)) ?_; (with_reducible refine (spec_l1Cur_maker.calls g261 l0 t271 t272 t273 t274 t275 w _ ?side1 ?side2 A4.out).mono ?_);(case side1 => repeat (first|(with_reducible first|exact HI261.out|apply IsS90.alloc|apply IsS90.drewN|apply IsS90.drew|apply IsS90.set_1|apply IsS90.set_2|exact IsS90.far HI0.out NB261_260.out _|exact IsS90.far (IsS90.far HI0.out NB261_260.out _) NB261_260.out _|exact IsS90.far (IsS90.far (IsS90.far HI0.out NB261_260.out _) NB261_260.out _) NB261_260.out _ | refine IsS90.far ?_ NB261_260.out _)|exact HI261.out));(case side2 => repeat (first|(with_reducible first|exact HB.out|apply below_alloc|apply pw_below_drewN|apply below_drew1 | refine below_set ?_ (IsS90.ge HI261.out) | refine below_set ?_ GE260.out)|exact HB.out)); rintro e w14 ⟨rfl, hi, hb, hk⟩; refine ⟨_, rfl, ?_⟩; have n0_ := Aside0.mk (KeepBut.blk hk (g' := gb260) (o := .cells #[.string (⟨#[]⟩ : ByteArray), .string (⟨#[]⟩ : ByteArray), .int .i64 0, .int .i64 0] 29 (0, 0)) (by (with_reducible repeat (first|refine blk_drewN ?_ _ | refine blk_drew ?_ | refine blk_alloc ?_ _)); exact BK260.out) NB260_261.out (by simp)); have n1_ := Aside0.mk (Kd.R_mono (Kd.R_keep (IsS90.apart (show IsS90 w _ g261 l0 t271 t272 from by repeat (first|(with_reducible first|exact HI261.out|apply IsS90.alloc|apply IsS90.drewN|apply IsS90.drew|apply IsS90.set_1|apply IsS90.set_2|exact IsS90.far HI0.out NB261_260.out _|exact IsS90.far (IsS90.far HI0.out NB261_260.out _) NB261_260.out _|exact IsS90.far (IsS90.far (IsS90.far HI0.out NB261_260.out _) NB261_260.out _) NB261_260.out _ | refine IsS90.far ?_ NB261_260.out _)|exact HI261.out)) (by (with_reducible repeat (first|apply Kd.R_alloc|apply Kd.R_drewN|apply Kd.R_drew)); exact HO264.out) (by decide)) hk (fun _ h => h.2)) (fun _ h => h.1)); have n2_ := Aside0.mk (Kd.R_mono (Kd.R_keep (IsS90.apart (show IsS90 w _ g261 l0 t271 t272 from by repeat (first|(with_reducible first|exact HI261.out|apply IsS90.alloc|apply IsS90.drewN|apply IsS90.drew|apply IsS90.set_1|apply IsS90.set_2|exact IsS90.far HI0.out NB261_260.out _|exact IsS90.far (IsS90.far HI0.out NB261_260.out _) NB261_260.out _|exact IsS90.far (IsS90.far (IsS90.far HI0.out NB261_260.out _) NB261_260.out _) NB261_260.out _ | refine IsS90.far ?_ NB261_260.out _)|exact HI261.out)) (by (with_reducible repeat (first|apply Kd.R_alloc|apply Kd.R_drewN|apply Kd.R_drew)); exact HO269.out) (by decide)) hk (fun _ h => h.2)) (fun _ h => h.1)); have n3_ := Aside0.mk (hb); have n4_ := Aside0.mk (hi); clear BK260; clear HO264; clear HO269; clear HB; clear HI261; have BK260 := n0_; have HO264 := n1_; have HO269 := n2_; have HB := n3_; have HI261 := n4_; clear n0_ n1_ n2_ n3_ n4_; (try clear hb); (try clear hb2); (try clear hk); (try clear hi))|((with_reducible refine gate_dst (N := 18) rfl ?_); refine Kd.R_lit (Kd.int .i64) _ 3 ?hg (N := 18) ?hd (xs := ([1880, 1900, 1950, 2100, 2101] : List Int)) (inner := [.int .i64 1880, .int .i64 1900, .int .i64 1950, .int .i64 2100, .int .i64 2101]) (ok := fun _ => True) (okp := fun _ => True) ?hr ?hp (fun _ hk => hk) trivial (Below.refl _ _) (Nat.le_refl _) (by simp) ?_;(case hd => rfl);(case hg => rfl);(case hr => first|(go_simp;done)|(go_simp; rfl));(case hp => exact (Reps.one (show Kd.M (Kd.int .i64) _ _ _ 1880 [.int .i64 1880] from rfl) (Reps.one (show Kd.M (Kd.int .i64) _ _ _ 1900 [.int .i64 1900] from rfl) (Reps.one (show Kd.M (Kd.int .i64) _ _ _ 1950 [.int .i64 1950] from rfl) (Reps.one (show Kd.M (Kd.int .i64) _ _ _ 2100 [.int .i64 2100] from rfl) (Reps.one (show Kd.M (Kd.int .i64) _ _ _ 2101 [.int .i64 2101] from rfl) (Reps.none _ _))))))); intro v277 w15 ho16 hb hg_ hnew_; clear hg_ hnew_; (first|rw [← Ny276.out] at ho16|(simp only [Int.reduceToNat] at ho16; rw [← Ny276.out] at ho16)); have n0_ := Aside0.mk (Kd.R_below (by (with_reducible repeat (first|apply Kd.R_alloc|apply Kd.R_drewN|apply Kd.R_drew)); exact HO264.out) hb); have n1_ := Aside0.mk (Kd.R_below (by (with_reducible repeat (first|apply Kd.R_alloc|apply Kd.R_drewN|apply Kd.R_drew)); exact HO269.out) hb); have n2_ := Aside0.mk (Kd.R_lower ho16 (below_size (by repeat (first|(with_reducible first|exact HB.out|apply below_alloc|apply pw_below_drewN|apply below_drew1 | refine below_set ?_ (IsS90.ge HI261.out) | refine below_set ?_ GE260.out)|exact HB.out)))); have n3_ := Aside0.mk (blk_below (g := gb260) (o := .cells #[.string (⟨#[]⟩ : ByteArray), .string (⟨#[]⟩ : ByteArray), .int .i64 0, .int .i64 0] 29 (0, 0)) (by (with_reducible repeat (first|refine blk_drewN ?_ _ | refine blk_drew ?_ | refine blk_alloc ?_ _)); exact BK260.out) hb); have n4_ := Aside0.mk (IsS90.below (by repeat (first|(with_reducible first|exact HI261.out|apply IsS90.alloc|apply IsS90.drewN|apply IsS90.drew|apply IsS90.set_1|apply IsS90.set_2|exact IsS90.far HI0.out NB261_260.out _|exact IsS90.far (IsS90.far HI0.out NB261_260.out _) NB261_260.out _|exact IsS90.far (IsS90.far (IsS90.far HI0.out NB261_260.out _) NB261_260.out _) NB261_260.out _ | refine IsS90.far ?_ NB261_260.out _)|exact HI261.out)) hb); have n5_ := Aside0.mk (below_step (by repeat (first|(with_reducible first|exact HB.out|apply below_alloc|apply pw_below_drewN|apply below_drew1 | refine below_set ?_ (IsS90.ge HI261.out) | refine below_set ?_ GE260.out)|exact HB.out)) hb); clear HO264; clear HO269; clear BK260; clear HI261; clear HB; have HO264 := n0_; have HO269 := n1_; have HO278 := n2_; have BK260 := n3_; have HI261 := n4_; have HB := n5_; clear n0_ n1_ n2_ n3_ n4_ n5_; clear hb ho16; obtain ⟨Ao17, co17, eo17⟩ := Kd.R_slice HO278.out; subst eo17)|((with_reducible refine gate_callee (f := 72) rfl ?_); refine goesL_ (some 19) rfl rfl Try.func72 (by kernel_rfl) rfl #[.pointer (some ⟨g261, 0, none⟩), .slice Ao17 y276.length co17] rfl (by (try simp only [List.map_toArray, List.map_cons, List.map_nil]); first | done | rfl|(simp only [List.length_drop, List.length_take]; rfl)) ?_; (with_reducible refine (spec_l1Cur_among.calls g261 l0 t274 t275 _ _ y276 t279 t280 t281 w _ ?side1 ?side2 ?side3 ?side4 ?side5 A5.out).mono ?_);(case side1 => repeat (first|(with_reducible first|exact HI261.out|apply IsS90.alloc|apply IsS90.drewN|apply IsS90.drew|apply IsS90.set_1|apply IsS90.set_2|exact IsS90.far HI0.out NB261_260.out _|exact IsS90.far (IsS90.far HI0.out NB261_260.out _) NB261_260.out _|exact IsS90.far (IsS90.far (IsS90.far HI0.out NB261_260.out _) NB261_260.out _) NB261_260.out _ | refine IsS90.far ?_ NB261_260.out _)|exact HI261.out));(case side2 => repeat (first|(with_reducible first|exact HB.out|apply below_alloc|apply pw_below_drewN|apply below_drew1 | refine below_set ?_ (IsS90.ge HI261.out) | refine below_set ?_ GE260.out)|exact HB.out));(case side3 => repeat (first|exact (Kd.R_reads' HO278.out).2.2|(with_reducible refine Kd.C_alloc ?_ _)|(with_reducible refine Kd.C_drewN ?_ _)|(with_reducible refine Kd.C_drew ?_)));(case side4 => exact (Kd.R_reads' HO278.out).2.1);(case side5 => exact far_slice (IsS90.own_ne HI261.out HO278.out (by decide))); rintro e w18 ⟨rfl, hi, hb, hk⟩; refine ⟨_, rfl, ?_⟩; have n0_ := Aside0.mk (KeepBut.blk hk (g' := gb260) (o := .cells #[.string (⟨#[]⟩ : ByteArray), .string (⟨#[]⟩ : ByteArray), .int .i64 0, .int .i64 0] 29 (0, 0)) (by (with_reducible repeat (first|refine blk_drewN ?_ _ | refine blk_drew ?_ | refine blk_alloc ?_ _)); exact BK260.out) NB260_261.out (by simp)); have n1_ := Aside0.mk (Kd.R_mono (Kd.R_keep (IsS90.apart (show IsS90 w _ g261 l0 t274 t275 from by repeat (first|(with_reducible first|exact HI261.out|apply IsS90.alloc|apply IsS90.drewN|apply IsS90.drew|apply IsS90.set_1|apply IsS90.set_2|exact IsS90.far HI0.out NB261_260.out _|exact IsS90.far (IsS90.far HI0.out NB261_260.out _) NB261_260.out _|exact IsS90.far (IsS90.far (IsS90.far HI0.out NB261_260.out _) NB261_260.out _) NB261_260.out _ | refine IsS90.far ?_ NB261_260.out _)|exact HI261.out)) (by (with_reducible repeat (first|apply Kd.R_alloc|apply Kd.R_drewN|apply Kd.R_drew)); exact HO264.out) (by decide)) hk (fun _ h => h.2)) (fun _ h => h.1)); have n2_ := Aside0.mk (Kd.R_mono (Kd.R_keep (IsS90.apart (show IsS90 w _ g261 l0 t274 t275 from by repeat (first|(with_reducible first|exact HI261.out|apply IsS90.alloc|apply IsS90.drewN|apply IsS90.drew|apply IsS90.set_1|apply IsS90.set_2|exact IsS90.far HI0.out NB261_260.out _|exact IsS90.far (IsS90.far HI0.out NB261_260.out _) NB261_260.out _|exact IsS90.far (IsS90.far (IsS90.far HI0.out NB261_260.out _) NB261_260.out _) NB261_260.out _ | refine IsS90.far ?_ NB261_260.out _)|exact HI261.out)) (by (with_reducible repeat (first|apply Kd.R_alloc|apply Kd.R_drewN|apply Kd.R_drew)); exact HO269.out) (by decide)) hk (fun _ h => h.2)) (fun _ h => h.1)); have n3_ := Aside0.mk (Kd.R_mono (Kd.R_keep (IsS90.apart (show IsS90 w _ g261 l0 t274 t275 from by repeat (first|(with_reducible first|exact HI261.out|apply IsS90.alloc|apply IsS90.drewN|apply IsS90.drew|apply IsS90.set_1|apply IsS90.set_2|exact IsS90.far HI0.out NB261_260.out _|exact IsS90.far (IsS90.far HI0.out NB261_260.out _) NB261_260.out _|exact IsS90.far (IsS90.far (IsS90.far HI0.out NB261_260.out _) NB261_260.out _) NB261_260.out _ | refine IsS90.far ?_ NB261_260.out _)|exact HI261.out)) (by (with_reducible repeat (first|apply Kd.R_alloc|apply Kd.R_drewN|apply Kd.R_drew)); exact HO278.out) (by decide)) hk (fun _ h => h.2)) (fun _ h => h.1)); have n4_ := Aside0.mk (hb); have n5_ := Aside0.mk (hi); clear BK260; clear HO264; clear HO269; clear HO278; clear HB; clear HI261; have BK260 := n0_; have HO264 := n1_; have HO269 := n2_; have HO278 := n3_; have HB := n4_; have HI261 := n5_; clear n0_ n1_ n2_ n3_ n4_ n5_; (try clear hb); (try clear hb2); (try clear hk); (try clear hi); obtain ⟨Ao19, co19, eo19⟩ := Kd.R_slice HO264.out; subst eo19)|((with_reducible refine gate_dst (N := 26) rfl ?_); refine Kd.R_lit (Kd.int .i64) _ 3 ?hg (N := 26) ?hd (xs := ([(-1), 0, wrap64 ((t262.length : Int) - 1), (t262.length : Int)] : List Int)) (inner := [.int .i64 (-1), .int .i64 0, .int .i64 (wrap64 ((t262.length : Int) - 1)), .int .i64 (t262.length : Int)]) (ok := fun _ => True) (okp := fun _ => True) ?hr ?hp (fun _ hk => hk) trivial (Below.refl _ _) (Nat.le_refl _) (by simp) ?_;(case hd => rfl);(case hg => rfl);(case hr => first|(go_simp;done)|(go_simp; rfl));(case hp => exact (Reps.one (show Kd.M (Kd.int .i64) _ _ _ (-1) [.int .i64 (-1)] from rfl) (Reps.one (show Kd.M (Kd.int .i64) _ _ _ 0 [.int .i64 0] from rfl) (Reps.one (show Kd.M (Kd.int .i64) _ _ _ (wrap64 ((t262.length : Int) - 1)) [.int .i64 (wrap64 ((t262.length : Int) - 1))] from rfl) (Reps.one (show Kd.M (Kd.int .i64) _ _ _ (t262.length : Int) [.int .i64 (t262.length : Int)] from rfl) (Reps.none _ _)))))); intro v283 w20 ho21 hb hg_ hnew_; clear hg_ hnew_; (first|rw [← Ny282.out] at ho21|(simp only [Int.reduceToNat] at ho21; rw [← Ny282.out] at ho21)); have n0_ := Aside0.mk (Kd.R_below (by (with_reducible repeat (first|apply Kd.R_alloc|apply Kd.R_drewN|apply Kd.R_drew)); exact HO264.out) hb); have n1_ := Aside0.mk (Kd.R_below (by (with_reducible repeat (first|apply Kd.R_alloc|apply Kd.R_drewN|apply Kd.R_drew)); exact HO269.out) hb); have n2_ := Aside0.mk (Kd.R_elder' (by (with_reducible repeat (first|apply Kd.R_alloc|apply Kd.R_drewN|apply Kd.R_drew)); exact HO278.out) (Kd.R_base ho21) hb); have n3_ := Aside0.mk (Kd.R_lower (Kd.R_new' ho21 (Kd.R_lt (by (with_reducible repeat (first|apply Kd.R_alloc|apply Kd.R_drewN|apply Kd.R_drew)); exact HO278.out))) (below_size (by repeat (first|(with_reducible first|exact HB.out|apply below_alloc|apply pw_below_drewN|apply below_drew1 | refine below_set ?_ (IsS90.ge HI261.out) | refine below_set ?_ GE260.out)|exact HB.out)))); have n4_ := Aside0.mk (blk_below (g := gb260) (o := .cells #[.string (⟨#[]⟩ : ByteArray), .string (⟨#[]⟩ : ByteArray), .int .i64 0, .int .i64 0] 29 (0, 0)) (by (with_reducible repeat (first|refine blk_drewN ?_ _ | refine blk_drew ?_ | refine blk_alloc ?_ _)); exact BK260.out) hb); have n5_ := Aside0.mk (IsS90.below (by repeat (first|(with_reducible first|exact HI261.out|apply IsS90.alloc|apply IsS90.drewN|apply IsS90.drew|apply IsS90.set_1|apply IsS90.set_2|exact IsS90.far HI0.out NB261_260.out _|exact IsS90.far (IsS90.far HI0.out NB261_260.out _) NB261_260.out _|exact IsS90.far (IsS90.far (IsS90.far HI0.out NB261_260.out _) NB261_260.out _) NB261_260.out _ | refine IsS90.far ?_ NB261_260.out _)|exact HI261.out)) hb); have n6_ := Aside0.mk (below_step (by repeat (first|(with_reducible first|exact HB.out|apply below_alloc|apply pw_below_drewN|apply below_drew1 | refine below_set ?_ (IsS90.ge HI261.out) | refine below_set ?_ GE260.out)|exact HB.out)) hb); clear HO264; clear HO269; clear HO278; clear BK260; clear HI261; clear HB; have HO264 := n0_; have HO269 := n1_; have HO278 := n2_; have HO284 := n3_; have BK260 := n4_; have HI261 := n5_; have HB := n6_; clear n0_ n1_ n2_ n3_ n4_ n5_ n6_; clear hb ho21; obtain ⟨Ao22, co22, eo22⟩ := Kd.R_slice HO284.out; subst eo22)|((with_reducible refine gate_callee (f := 72) rfl ?_); refine goesL_ (some 27) rfl rfl Try.func72 (by kernel_rfl) rfl #[.pointer (some ⟨g261, 0, none⟩), .slice Ao22 y282.length co22] rfl (by (try simp only [List.map_toArray, List.map_cons, List.map_nil]); first | done | rfl|(simp only [List.length_drop, List.length_take]; rfl)) ?_; (with_reducible refine (spec_l1Cur_among.calls g261 l0 t280 t281 _ _ y282 t285 t286 t287 w _ ?side1 ?side2 ?side3 ?side4 ?side5 A6.out).mono ?_);(case side1 => repeat (first|(with_reducible first|exact HI261.out|apply IsS90.alloc|apply IsS90.drewN|apply IsS90.drew|apply IsS90.set_1|apply IsS90.set_2|exact IsS90.far HI0.out NB261_260.out _|exact IsS90.far (IsS90.far HI0.out NB261_260.out _) NB261_260.out _|exact IsS90.far (IsS90.far (IsS90.far HI0.out NB261_260.out _) NB261_260.out _) NB261_260.out _ | refine IsS90.far ?_ NB261_260.out _)|exact HI261.out));(case side2 => repeat (first|(with_reducible first|exact HB.out|apply below_alloc|apply pw_below_drewN|apply below_drew1 | refine below_set ?_ (IsS90.ge HI261.out) | refine below_set ?_ GE260.out)|exact HB.out));(case side3 => repeat (first|exact (Kd.R_reads' HO284.out).2.2|(with_reducible refine Kd.C_alloc ?_ _)|(with_reducible refine Kd.C_drewN ?_ _)|(with_reducible refine Kd.C_drew ?_)));(case side4 => exact (Kd.R_reads' HO284.out).2.1);(case side5 => exact far_slice (IsS90.own_ne HI261.out HO284.out (by decide))); rintro e w23 ⟨rfl, hi, hb, hk⟩; refine ⟨_, rfl, ?_⟩; have n0_ := Aside0.mk (KeepBut.blk hk (g' := gb260) (o := .cells #[.string (⟨#[]⟩ : ByteArray), .string (⟨#[]⟩ : ByteArray), .int .i64 0, .int .i64 0] 29 (0, 0)) (by (with_reducible repeat (first|refine blk_drewN ?_ _ | refine blk_drew ?_ | refine blk_alloc ?_ _)); exact BK260.out) NB260_261.out (by simp)); have n1_ := Aside0.mk (Kd.R_mono (Kd.R_keep (IsS90.apart (show IsS90 w _ g261 l0 t280 t281 from by repeat (first|(with_reducible first|exact HI261.out|apply IsS90.alloc|apply IsS90.drewN|apply IsS90.drew|apply IsS90.set_1|apply IsS90.set_2|exact IsS90.far HI0.out NB261_260.out _|exact IsS90.far (IsS90.far HI0.out NB261_260.out _) NB261_260.out _|exact IsS90.far (IsS90.far (IsS90.far HI0.out NB261_260.out _) NB261_260.out _) NB261_260.out _ | refine IsS90.far ?_ NB261_260.out _)|exact HI261.out)) (by (with_reducible repeat (first|apply Kd.R_alloc|apply Kd.R_drewN|apply Kd.R_drew)); exact HO264.out) (by decide)) hk (fun _ h => h.2)) (fun _ h => h.1)); have n2_ := Aside0.mk (Kd.R_mono (Kd.R_keep (IsS90.apart (show IsS90 w _ g261 l0 t280 t281 from by repeat (first|(with_reducible first|exact HI261.out|apply IsS90.alloc|apply IsS90.drewN|apply IsS90.drew|apply IsS90.set_1|apply IsS90.set_2|exact IsS90.far HI0.out NB261_260.out _|exact IsS90.far (IsS90.far HI0.out NB261_260.out _) NB261_260.out _|exact IsS90.far (IsS90.far (IsS90.far HI0.out NB261_260.out _) NB261_260.out _) NB261_260.out _ | refine IsS90.far ?_ NB261_260.out _)|exact HI261.out)) (by (with_reducible repeat (first|apply Kd.R_alloc|apply Kd.R_drewN|apply Kd.R_drew)); exact HO269.out) (by decide)) hk (fun _ h => h.2)) (fun _ h => h.1)); have n3_ := Aside0.mk (Kd.R_mono (Kd.R_keep (IsS90.apart (show IsS90 w _ g261 l0 t280 t281 from by repeat (first|(with_reducible first|exact HI261.out|apply IsS90.alloc|apply IsS90.drewN|apply IsS90.drew|apply IsS90.set_1|apply IsS90.set_2|exact IsS90.far HI0.out NB261_260.out _|exact IsS90.far (IsS90.far HI0.out NB261_260.out _) NB261_260.out _|exact IsS90.far (IsS90.far (IsS90.far HI0.out NB261_260.out _) NB261_260.out _) NB261_260.out _ | refine IsS90.far ?_ NB261_260.out _)|exact HI261.out)) (by (with_reducible repeat (first|apply Kd.R_alloc|apply Kd.R_drewN|apply Kd.R_drew)); exact HO278.out) (by decide)) hk (fun _ h => h.2)) (fun _ h => h.1)); have n4_ := Aside0.mk (Kd.R_mono (Kd.R_keep (IsS90.apart (show IsS90 w _ g261 l0 t280 t281 from by repeat (first|(with_reducible first|exact HI261.out|apply IsS90.alloc|apply IsS90.drewN|apply IsS90.drew|apply IsS90.set_1|apply IsS90.set_2|exact IsS90.far HI0.out NB261_260.out _|exact IsS90.far (IsS90.far HI0.out NB261_260.out _) NB261_260.out _|exact IsS90.far (IsS90.far (IsS90.far HI0.out NB261_260.out _) NB261_260.out _) NB261_260.out _ | refine IsS90.far ?_ NB261_260.out _)|exact HI261.out)) (by (with_reducible repeat (first|apply Kd.R_alloc|apply Kd.R_drewN|apply Kd.R_drew)); exact HO284.out) (by decide)) hk (fun _ h => h.2)) (fun _ h => h.1)); have n5_ := Aside0.mk (hb); have n6_ := Aside0.mk (hi); clear BK260; clear HO264; clear HO269; clear HO278; clear HO284; clear HB; clear HI261; have BK260 := n0_; have HO264 := n1_; have HO269 := n2_; have HO278 := n3_; have HO284 := n4_; have HB := n5_; have HI261 := n6_; clear n0_ n1_ n2_ n3_ n4_ n5_ n6_; (try clear hb); (try clear hb2); (try clear hk); (try clear hi); have hnb24 := NB260_261.out; have hnc24 := NB261_260.out; have hcz25_0 : w23.cell? ⟨gb260, 0, none⟩ = some (.string (⟨#[]⟩ : ByteArray)) := (blk_cell BK260.out 0).trans rfl; have hcz25_1 : w23.cell? ⟨gb260, 1, none⟩ = some (.string (⟨#[]⟩ : ByteArray)) := (blk_cell BK260.out 1).trans rfl; have hcz25_2 : w23.cell? ⟨gb260, 2, none⟩ = some (.int .i64 0) := (blk_cell BK260.out 2).trans rfl; have hcz25_3 : w23.cell? ⟨gb260, 3, none⟩ = some (.int .i64 0) := (blk_cell BK260.out 3).trans rfl; have hfz25_0 := blk_frozen BK260.out 0; have hfz25_1 := blk_frozen BK260.out 1; have hfz25_2 := blk_frozen BK260.out 2; have hfz25_3 := blk_frozen BK260.out 3))
 refine bodyPost_ret (results_tc rfl _ _ gb260 29 #[.string t270, .string t273, .int .i64 t279, .int .i64 t285] (0, 0) _ rfl (by (with_reducible repeat (first|refine blk_drewN ?_ _ | refine blk_drew ?_ | refine blk_alloc ?_ _)); refine blk_put (cs := #[.string t270, .string t273, .int .i64 t279, .int .i64 0]) ?_ 3 _ rfl; (with_reducible repeat (first|refine blk_drewN ?_ _ | refine blk_drew ?_ | refine blk_alloc ?_ _)); refine blk_put (cs := #[.string t270, .string t273, .int .i64 0, .int .i64 0]) ?_ 2 _ rfl; (with_reducible repeat (first|refine blk_drewN ?_ _ | refine blk_drew ?_ | refine blk_alloc ?_ _)); refine blk_put (cs := #[.string t270, .string (⟨#[]⟩ : ByteArray), .int .i64 0, .int .i64 0]) ?_ 1 _ rfl; (with_reducible repeat (first|refine blk_drewN ?_ _ | refine blk_drew ?_ | refine blk_alloc ?_ _)); refine blk_put (cs := #[.string (⟨#[]⟩ : ByteArray), .string (⟨#[]⟩ : ByteArray), .int .i64 0, .int .i64 0]) ?_ 0 _ rfl; (with_reducible repeat (first|refine blk_drewN ?_ _ | refine blk_drew ?_ | refine blk_alloc ?_ _)); exact BK260.out) Try.underlying29 rfl (by kernel_rfl)) rfl ?_
 exact ⟨_, by first | rfl|(simp [errW_none, errW_some] <;> rfl)|(simp [*, errW_none, errW_some] <;> rfl), by (with_reducible repeat (first|apply Kd.R_alloc|apply Kd.R_drewN|apply Kd.R_drew)); exact Kd.R_mono (Kd.R_far (p := ⟨gb260, 3, none⟩) (Kd.R_far (p := ⟨gb260, 2, none⟩) (Kd.R_far (p := ⟨gb260, 1, none⟩) (Kd.R_far (p := ⟨gb260, 0, none⟩) (Kd.R_mono HO264.out (fun k_ hk => (⟨hk, hk.2⟩ : _ ∧ k_ ≠ gb260))) (fun _ hk => hk.2) (.string t270)) (fun _ hk => hk.2) (.string t273)) (fun _ hk => hk.2) (.int .i64 t279)) (fun _ hk => hk.2) (.int .i64 t285)) (fun _ hk => trivial), by repeat (first|(with_reducible first|exact HB.out|apply below_alloc|apply pw_below_drewN|apply below_drew1 | refine below_set ?_ (IsS90.ge HI261.out) | refine below_set ?_ GE260.out)|exact HB.out)⟩

/-! ### impl_Roll_73: function 73 (by hand: a copy of a slice) -/
def impl_Roll_73.f (l0 : List S29) : Option (List S29) := if l0.length < 1000000000 then some l0 else none
theorem impl_Roll_73.info : (Try.prog.info? 29).map (fun i => (i.zero, i.size, i.bytes)) = some (some (.agg #[(.string ⟨#[]⟩), (.string ⟨#[]⟩), (.int .i64 0), (.int .i64 0)]), 4, 48) := by kernel_rfl
set_option maxHeartbeats 8000000 in
set_option maxRecDepth 100000 in
theorem impl_Roll_73.calls (A0 : Option Addr) (c0 : Nat) (l0 : List S29) (r : List S29) (w : World) (hr0 : Kd.C k29 w A0 l0.length l0) (hc0 : l0.length ≤ c0) (h : impl_Roll_73.f l0 = some r) :
 Calls Try.prog 73 #[.slice A0 l0.length c0] w fun e w' => ∃ v0_ : Value, e = .returned (v0_) ∧ Kd.R k29 29 w' w.heap.size (fun _ => True) v0_ r ∧ Below w.heap.size w w' := by
 unfold impl_Roll_73.f at h
 by_cases hlen : l0.length < 1000000000
 ·rw [if_pos hlen] at h
  obtain rfl := Option.some.inj h
  clear h
  cases A0 with
  | none =>
   have hz : l0 = [] := by
    rcases Nat.eq_zero_or_pos l0.length with h0 | h0
    ·exact List.eq_nil_of_length_eq_zero h0
    ·obtain ⟨ad, e, _⟩ := hr0.2.2 h0
     cases e
   subst hz
   have hq : ∀ W : World, (binOp .eql 23 (.slice none 0 c0) (.slice none 0 0)).run Try.prog W = .ok (.bool true) W := fun W => Go.run_eql_slice_nil W 23 29 none 0 c0 Try.underlying23
   clear hr0 hc0 hlen
   go_enter Try.func73, Try.ntmps73
   go_wp2
   go_ret
   exact ⟨_, rfl, Kd.R_nil _ _ _ _ _, Below.refl _ _⟩
  | some ad =>
   have hq : ∀ W : World, (binOp .eql 23 (.slice (some ad) l0.length c0) (.slice none 0 0)).run Try.prog W = .ok (.bool false) W := fun W => Go.run_eql_slice_nil W 23 29 (some ad) l0.length c0 Try.underlying23
   have HR0 := Aside0.mk hr0
   have HC0 := Aside0.mk hc0
   have HL := Aside0.mk hlen
   clear hr0 hc0 hlen
   have HB := Aside0.mk (Below.refl w.heap.size w)
   go_enter Try.func73, Try.ntmps73
   go_wp2_with (first|((with_reducible refine gate_dst (N := 5) rfl ?_); refine Kd.R_lit k29 _ 29 ?hg (N := 5) ?hd (xs := ([] : List S29)) (inner := []) (ok := fun _ => True) (okp := fun _ => True) ?hr ?hp (fun _ hk => hk) trivial (Below.refl _ _) (Nat.le_refl _) (by simp) ?_;(case hd => rfl);(case hg => rfl);(case hr => first|(go_simp;done)|(go_simp; rfl));(case hp => exact (Reps.none _ _)); intro v112 w3 ho4 hb hg_ hnew_; clear hg_ hnew_; have n0_ := Aside0.mk (Kd.R_lower ho4 (below_size (by repeat (first|(with_reducible first|exact HB.out|apply below_alloc|apply pw_below_drewN|apply below_drew1)|exact HB.out)))); have n1_ := Aside0.mk (below_step (by repeat (first|(with_reducible first|exact HB.out|apply below_alloc|apply pw_below_drewN|apply below_drew1)|exact HB.out)) hb); clear HB; have HO113 := n0_; have HB := n1_; clear n0_ n1_; clear hb ho4)|((with_reducible refine gate_builtin (b := .append) (xs := #[.tmp 5, .tmp 6]) rfl ?_); at_builtin; refine Kd.R_append_rows k29 (w0 := w) w.heap.size rfl (.tmp 5) (.tmp 6) 23 29 (.agg #[(.string ⟨#[]⟩), (.string ⟨#[]⟩), (.int .i64 0), (.int .i64 0)]) 48 rfl Try.underlying23 impl_Roll_73.info rfl (by decide) (by omega) v112 [] l0 _ _ _ (fun _ => True) (fun _ => False) rfl rfl ?aO ?aR (fun _ _ h => h) (fun _ h => h.elim) ?aF ?aB ?aS ?aL ?_;(case aR => repeat (first|exact (Kd.C_below HR0.out HB.out)|(with_reducible refine Kd.C_alloc ?_ _)|(with_reducible refine Kd.C_drewN ?_ _)|(with_reducible refine Kd.C_drew ?_)));(case aB => exact (by repeat (first|(with_reducible first|exact HB.out|apply below_alloc|apply pw_below_drewN|apply below_drew1)|exact HB.out)));(case aF => exact (fun _ _ => trivial));(case aO => exact (by (with_reducible repeat (first|apply Kd.R_alloc|apply Kd.R_drewN|apply Kd.R_drew)); exact HO113.out));(case aS => exact (below_size (by repeat (first|(with_reducible first|exact HB.out|apply below_alloc|apply pw_below_drewN|apply below_drew1)|exact HB.out))));(case aL => have := HL.out; simp only [List.length_nil]; omega); intro v115 w5 ho hb hg hat; have n0_ := Aside0.mk (hb); have n1_ := Aside0.mk (ho); clear HB; clear HO113; have HB := n0_; have HO116 := n1_; clear n0_ n1_; clear ho hb hg hat))
   go_ret
   refine ⟨_, rfl, ?_, by repeat (first|(with_reducible first|exact HB.out|apply below_alloc|apply pw_below_drewN|apply below_drew1)|exact HB.out)⟩
   have HX := HO116.out
   rw [List.nil_append] at HX
   exact (by (with_reducible repeat (first|apply Kd.R_alloc|apply Kd.R_drewN|apply Kd.R_drew)); exact HX)
 ·rw [if_neg hlen] at h
  exact absurd h (by simp)


end Go.Proofs.Ytlbbkepkincleaa.QFnRolls
