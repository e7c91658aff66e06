/- Written by a program of this session (the kit's printer, with leaf contracts proved by hand put in): what each Go function computes, and that the call computes it. No condition but those that each theorem names. -/
import Derived.Test.YtlbbkepkincleaaQFnRollsx0
import Derived.Test.YtlbbkepkincleaaQFnRollsx5
namespace Go.Proofs.Ytlbbkepkincleaa.QFnRolls
open Go.RowKit Go.Proofs.YtlbbkepkincleaaW.PrintWords Go.Proofs.YtlbbkepkincleaaW.PrintLast Go.Proofs.YtlbbkepkincleaaW.PrintMore
attribute [local go_sem] max2_int min2_int max_two min_two max_three min_three max_four min_four   -- for this text's walks alone
set_option linter.unusedVariables false
set_option linter.unusedSimpArgs false

/-! ### impl_isRoll: function 67 -/
def impl_isRoll.f (k : Nat) (l0 : List (S29)) (a1 : Int) : Option (Bool) := (impl_IsCatalogue.f k l0).bind fun t246 => (if t246 = true then (if a1 ≥ 0 then (some (decide (a1 < (l0.length : Int)))) else (some false)) else (some false))
theorem impl_isRoll.mono : ∀ a0 a1 k, LeO (impl_isRoll.f k a0 a1) (impl_isRoll.f (k + 1) a0 a1) := by
 intro a0 a1 k
 unfold impl_isRoll.f
 repeat' first
  |(with_reducible exact impl_IsCatalogue.mono _ _)
  |(with_reducible exact LeO.refl _)
  |(with_reducible exact LeO.none _)
  |(with_reducible refine LeO.ite ?_ ?_)
  |(with_reducible refine LeO.bind ?_ (fun _ => ?_))
  |exact impl_IsCatalogue.mono _ _
  |exact LeO.none _
   | refine LeO.ite ?_ ?_
   | refine LeO.bind ?_ (fun _ => ?_)
set_option maxHeartbeats 8000000 in
set_option maxRecDepth 100000 in
theorem impl_isRoll.calls (k : Nat) (A0 : Option Addr) (c0 : Nat) (l0 : List (S29)) (a1 : Int) (r : Bool) (w : World) (hr0 : Kd.C k29 w A0 l0.length l0) (hc0 : l0.length ≤ c0) (h : impl_isRoll.f k l0 a1 = some r) :
 Calls Try.prog 67 #[.slice A0 l0.length c0, .int .i64 a1] w fun e w' => e = .returned (.bool r) ∧ Below w.heap.size w w' := by
 have HR0 := Aside0.mk hr0
 have HC0 := Aside0.mk hc0
 clear hr0 hc0
 have HB := Aside0.mk (Below.refl w.heap.size w)
 have H : ((impl_IsCatalogue.f k l0).bind fun t246 => (if t246 = true then (if a1 ≥ 0 then (some (decide (a1 < (l0.length : Int)))) else (some false)) else (some false))) = some r := h
 clear h
 replace H := Option.bind_eq_some_iff.mp H
 obtain ⟨t246, A30, H⟩ := H
 try dsimp only at H
 have A3 := Aside0.mk A30
 clear A30
 by_cases c4 : t246 = true
 ·subst c4
  have H1 : (if a1 ≥ 0 then (some (decide (a1 < (l0.length : Int)))) else (some false)) = some r := by rw [if_pos rfl] at H; exact H
  clear H
  have H := H1
  clear H1
  by_cases c5 : a1 ≥ 0
  ·rw [if_pos c5] at H
   have c5b0 : decide (0 ≤ a1) = true := decide_eq_true c5
   clear c5
   obtain rfl := Option.some.inj H
   go_enter Try.func67, Try.ntmps67
   go_wp2_with (first|((with_reducible refine gate_callee (f := 21) rfl ?_); refine goesL_ (some 6) rfl rfl Try.func21 (by kernel_rfl) rfl #[.slice A0 l0.length c0] rfl (by (try simp only [List.map_toArray, List.map_cons, List.map_nil]); first | done | rfl|(simp only [List.length_drop, List.length_take]; rfl)) ?_; (with_reducible refine (impl_IsCatalogue.calls k _ _ l0 true _ ?side1 ?side2 A3.out).mono ?_);(case side1 => repeat (first|exact HR0.out|(with_reducible refine Kd.C_alloc ?_ _)|(with_reducible refine Kd.C_drewN ?_ _)|(with_reducible refine Kd.C_drew ?_)));(case side2 => exact HC0.out); rintro e w6 ⟨rfl, hb⟩; refine ⟨_, rfl, ?_⟩; have n0_ := Aside0.mk (below_step (by repeat (first|(with_reducible first|exact HB.out|apply below_alloc|apply pw_below_drewN|apply below_drew1)|exact HB.out)) hb); clear HB; have HB := n0_; clear n0_; (try clear hb); (try clear hb2); (try clear hk); (try clear hi)))
   go_ret
   exact ⟨by first | rfl|(simp [errW_none, errW_some] <;> rfl)|(simp [*, errW_none, errW_some] <;> rfl), by repeat (first|(with_reducible first|exact HB.out|apply below_alloc|apply pw_below_drewN|apply below_drew1)|exact HB.out)⟩
  ·rw [if_neg c5] at H
   have c5b0 : decide (0 ≤ a1) = false := decide_eq_false c5
   clear c5
   obtain rfl := Option.some.inj H
   go_enter Try.func67, Try.ntmps67
   go_wp2_with (first|((with_reducible refine gate_callee (f := 21) rfl ?_); refine goesL_ (some 6) rfl rfl Try.func21 (by kernel_rfl) rfl #[.slice A0 l0.length c0] rfl (by (try simp only [List.map_toArray, List.map_cons, List.map_nil]); first | done | rfl|(simp only [List.length_drop, List.length_take]; rfl)) ?_; (with_reducible refine (impl_IsCatalogue.calls k _ _ l0 true _ ?side1 ?side2 A3.out).mono ?_);(case side1 => repeat (first|exact HR0.out|(with_reducible refine Kd.C_alloc ?_ _)|(with_reducible refine Kd.C_drewN ?_ _)|(with_reducible refine Kd.C_drew ?_)));(case side2 => exact HC0.out); rintro e w7 ⟨rfl, hb⟩; refine ⟨_, rfl, ?_⟩; have n0_ := Aside0.mk (below_step (by repeat (first|(with_reducible first|exact HB.out|apply below_alloc|apply pw_below_drewN|apply below_drew1)|exact HB.out)) hb); clear HB; have HB := n0_; clear n0_; (try clear hb); (try clear hb2); (try clear hk); (try clear hi)))
   go_ret
   exact ⟨by first | rfl|(simp [errW_none, errW_some] <;> rfl)|(simp [*, errW_none, errW_some] <;> rfl), by repeat (first|(with_reducible first|exact HB.out|apply below_alloc|apply pw_below_drewN|apply below_drew1)|exact HB.out)⟩
 ·replace c4 := Bool.eq_false_iff.mpr c4
  subst c4
  have H1 : (some false) = some r := by rw [if_neg (show ¬ (false = true) by decide)] at H; exact H
  clear H
  have H := H1
  clear H1
  obtain rfl := Option.some.inj H
  go_enter Try.func67, Try.ntmps67
  go_wp2_with (first|((with_reducible refine gate_callee (f := 21) rfl ?_); refine goesL_ (some 6) rfl rfl Try.func21 (by kernel_rfl) rfl #[.slice A0 l0.length c0] rfl (by (try simp only [List.map_toArray, List.map_cons, List.map_nil]); first | done | rfl|(simp only [List.length_drop, List.length_take]; rfl)) ?_; (with_reducible refine (impl_IsCatalogue.calls k _ _ l0 false _ ?side1 ?side2 A3.out).mono ?_);(case side1 => repeat (first|exact HR0.out|(with_reducible refine Kd.C_alloc ?_ _)|(with_reducible refine Kd.C_drewN ?_ _)|(with_reducible refine Kd.C_drew ?_)));(case side2 => exact HC0.out); rintro e w8 ⟨rfl, hb⟩; refine ⟨_, rfl, ?_⟩; have n0_ := Aside0.mk (below_step (by repeat (first|(with_reducible first|exact HB.out|apply below_alloc|apply pw_below_drewN|apply below_drew1)|exact HB.out)) hb); clear HB; have HB := n0_; clear n0_; (try clear hb); (try clear hb2); (try clear hk); (try clear hi)))
  go_ret
  exact ⟨by first | rfl|(simp [errW_none, errW_some] <;> rfl)|(simp [*, errW_none, errW_some] <;> rfl), by repeat (first|(with_reducible first|exact HB.out|apply below_alloc|apply pw_below_drewN|apply below_drew1)|exact HB.out)⟩

/-! ### impl_DropRoll: function 8 (by hand: a catalogue without one roll) -/
theorem impl_DropRoll.info : (Try.prog.info? 29).map (fun i => (i.zero, i.size, i.bytes)) = some (some (.agg #[(.string ⟨#[]⟩), (.string ⟨#[]⟩), (.int .i64 0), (.int .i64 0)]), 4, 48) := by kernel_rfl
def impl_DropRoll.src (y i : Int) (x : S29) : Int := if (if x.f3 = i then y else x.f3) > i then wrap64 ((if x.f3 = i then y else x.f3) - 1) else (if x.f3 = i then y else x.f3)
def impl_DropRoll.l0 : Nat → List S29 → Int → List S29 → Int → Option (List S29)
 | 0, _, _, _, _ => none
 | k + 1, l, i, o, j => if j < (l.length : Int) then (if 0 ≤ j then (if j = i then (impl_DropRoll.l0 k l i o (wrap64 (j + 1))) else (if o.length < 1000000000 then (impl_DropRoll.l0 k l i (o ++ [(⟨(rd_T29 l j).f0, (rd_T29 l j).f1, (rd_T29 l j).f2, impl_DropRoll.src (rd_T29 l i).f3 i (rd_T29 l j)⟩ : S29)]) (wrap64 (j + 1))) else none)) else none) else (some o)
def impl_DropRoll.f (k : Nat) (l0 : List S29) (a1 : Int) : Option (List S29 × Bool) := (impl_isRoll.f k l0 a1).bind fun t => (if t = true then (if 0 ≤ a1 then (if a1 < (l0.length : Int) then ((impl_DropRoll.l0 k l0 a1 [] 0).bind fun o => (some (o, true))) else none) else none) else (some ([], false)))
theorem impl_DropRoll.mono_l : ∀ k, (∀ y0 y1 y2 y3, LeO (impl_DropRoll.l0 k y0 y1 y2 y3) (impl_DropRoll.l0 (k + 1) y0 y1 y2 y3))
 | 0 => fun _ _ _ _ r h => by simp [impl_DropRoll.l0] at h
 | k + 1 => by
  have ih0 := impl_DropRoll.mono_l k
  ·intro y0 y1 y2 y3
   unfold impl_DropRoll.l0
   repeat' first
   |(with_reducible exact ih0 _ _ _ _)
   |(with_reducible exact LeO.refl _)
   |(with_reducible exact LeO.none _)
   |(with_reducible refine LeO.ite ?_ ?_)
theorem impl_DropRoll.mono : ∀ a0 a1 k, LeO (impl_DropRoll.f k a0 a1) (impl_DropRoll.f (k + 1) a0 a1) := by
 intro a0 a1 k
 have ih0 := impl_DropRoll.mono_l k
 unfold impl_DropRoll.f
 repeat' first
  |(with_reducible exact ih0 _ _ _ _)
  |(with_reducible exact impl_isRoll.mono _ _ _)
  |(with_reducible exact LeO.refl _)
  |(with_reducible exact LeO.none _)
  |(with_reducible refine LeO.ite ?_ ?_)
  |(with_reducible refine LeO.bind ?_ (fun _ => ?_))
set_option maxHeartbeats 2000000 in
set_option maxRecDepth 100000 in
theorem impl_DropRoll.calls (k : Nat) (A0 : Option Addr) (c0 : Nat) (l0 : List S29) (a1 : Int) (r1 : List S29) (r2 : Bool) (w : World) (hr0 : Kd.C k29 w A0 l0.length l0) (hc0 : l0.length ≤ c0) (h : impl_DropRoll.f k l0 a1 = some (r1, r2)) :
 Calls Try.prog 8 #[.slice A0 l0.length c0, .int .i64 a1] w fun e w' => ∃ v0_ : Value, e = .returned (.tuple #[v0_, .bool r2]) ∧ Kd.R k29 29 w' w.heap.size (fun _ => True) v0_ r1 ∧ Below w.heap.size w w' := by
 have HR0 := Aside0.mk hr0
 have HC0 := Aside0.mk hc0
 clear hr0 hc0
 have H := Option.bind_eq_some_iff.mp h
 clear h
 obtain ⟨t, a0, H⟩ := H
 have AT := Aside0.mk a0
 clear a0
 cases t with
 | false =>
  rw [if_neg (by decide)] at H
  simp only [Option.some.injEq, Prod.mk.injEq] at H
  obtain ⟨rfl, rfl⟩ := H
  go_enter Try.func8, Try.ntmps8
  go_wp2_with (go_at_call 67; (with_reducible refine (impl_isRoll.calls k A0 c0 l0 a1 false _ HR0.out HC0.out AT.out).mono ?_); rintro e w1 ⟨rfl, hb⟩; have HB := Aside0.mk hb; clear hb)
  go_ret2
  exact ⟨_, rfl, Kd.R_nil _ _ _ _ _, HB.out⟩
 | true =>
  rw [if_pos rfl] at H
  by_cases p1 : 0 ≤ a1
  ·rw [if_pos p1] at H
   by_cases q1 : a1 < (l0.length : Int)
   ·rw [if_pos q1] at H
    obtain ⟨o, a2, H⟩ := Option.bind_eq_some_iff.mp H
    simp only [Option.some.injEq, Prod.mk.injEq] at H
    obtain ⟨rfl, rfl⟩ := H
    have A2 := Aside0.mk a2
    clear a2
    obtain ⟨ad, e1, _, _, _, hy3⟩ := at_T29 HR0.out a1 p1 q1
    cases e1
    have HY := Aside0.mk hy3
    clear hy3
    have HP := Aside0.mk (And.intro p1 q1)
    clear p1 q1
    go_enter Try.func8, Try.ntmps8
    go_wp2_with (first
     |(go_at_call 67; (with_reducible refine (impl_isRoll.calls k (some ad) c0 l0 a1 true _ HR0.out HC0.out AT.out).mono ?_); rintro e w1 ⟨rfl, hb⟩; have HB := Aside0.mk hb; clear hb)
     |((with_reducible refine gate_dst (N := 13) rfl ?_); refine Kd.R_lit k29 _ 29 ?hg (N := 13) ?hd (xs := ([] : List S29)) (inner := []) (ok := fun _ => True) (okp := fun _ => True) ?hr ?hp (fun _ hk => hk) trivial (Below.refl _ _) (Nat.le_refl _) (by simp) ?_;(case hd => rfl);(case hg => rfl);(case hr => first|(go_simp;done)|(go_simp; rfl));(case hp => exact (Reps.none _ _)); intro v2 w2 ho3 hb hg_ hnew_; clear hg_ hnew_; have n0_ := Aside0.mk (Kd.R_lower ho3 (below_size (by repeat (first|(with_reducible first|exact HB.out|apply below_alloc|apply pw_below_drewN|apply below_drew1)|exact HB.out)))); have n1_ := Aside0.mk (below_step (by repeat (first|(with_reducible first|exact HB.out|apply below_alloc|apply pw_below_drewN|apply below_drew1)|exact HB.out)) hb); clear HB; have HO2 := n0_; have HB := n1_; clear n0_ n1_; clear hb ho3))
    go_loopg [6, 16] k (fun kq v6 vj w' => ∃ (xo : List S29) (xj : Int), vj = .int .i64 xj ∧ Aside0 (impl_DropRoll.l0 kq l0 a1 xo xj = some o) ∧ Aside0 (kq ≤ k) ∧ Aside0 (Kd.R k29 29 w' w.heap.size (fun _ => True) v6 xo) ∧ Aside0 (Below w.heap.size w w'))
    case atStart => exact ⟨[], 0, (by first | rfl|(simp;done)), A2, ⟨Nat.le_refl _⟩, ⟨by (with_reducible repeat (first|apply Kd.R_alloc|apply Kd.R_drewN|apply Kd.R_drew)); exact HO2.out⟩, ⟨by repeat (first|(with_reducible first|exact HB.out|apply below_alloc|apply pw_below_drewN|apply below_drew1)|exact HB.out)⟩⟩
    case round =>
     clear A2
     try clear p2
     obtain ⟨xo, xj, rfl, HA, HK1, HO, HB⟩ := hrel
     cases gk with
     | zero => exact absurd HA.out (by simp [impl_DropRoll.l0])
     | succ k1 =>
      have H := HA.out
      clear HA
      simp only [impl_DropRoll.l0] at H
      by_cases c4 : xj < (l0.length : Int)
      ·rw [if_pos c4] at H
       by_cases c5 : 0 ≤ xj
       ·rw [if_pos c5] at H
        obtain ⟨ad2, e2, hx0, hx1, hx2, hx3⟩ := at_T29 HR0.out xj c5 c4
        cases e2
        replace hx0 := (HB.out.cell (World.block_lt_of_cell? w _ hx0)).trans hx0
        replace hx1 := (HB.out.cell (World.block_lt_of_cell? w _ hx1)).trans hx1
        replace hx2 := (HB.out.cell (World.block_lt_of_cell? w _ hx2)).trans hx2
        replace hx3 := (HB.out.cell (World.block_lt_of_cell? w _ hx3)).trans hx3
        obtain ⟨X, hX⟩ : ∃ X, X = rd_T29 l0 xj := ⟨_, rfl⟩
        obtain ⟨Y, hY⟩ : ∃ Y, Y = (rd_T29 l0 a1).f3 := ⟨_, rfl⟩
        rw [← hX] at hx0 hx1 hx2 hx3 H
        have HYY := Aside0.mk hY
        rw [← hY] at H
        clear hX hY
        have c4b : decide (xj < (l0.length : Int)) = true := decide_eq_true c4
        have c5b : decide (0 ≤ xj) = true := decide_eq_true c5
        have q4 := eq_true c4
        have q5 := eq_true c5
        by_cases c6 : xj = a1
        ·rw [if_pos c6] at H
         have H' := Aside0.mk H
         clear H
         have c6b : (xj == a1) = true := beq_iff_eq.mpr c6
         clear c6
         go_wp2_with (first
          |((with_reducible refine gate_dst (N := 8) rfl ?_); refine box_event ?hg (N := 8) ?hd (cs := #[.string ⟨#[]⟩, .string ⟨#[]⟩, .int .i64 0, .int .i64 0]) (t := 29) ?hr ?_;(case hd => rfl);(case hg => rfl);(case hr => first|(go_simp;done)|(go_simp; rfl)); intro gb hgb w5 hbox hb; have HB5 := Aside0.mk (below_step HB.out hb); have BK := Aside0.mk hbox; have GB := Aside0.mk (show w.heap.size ≤ gb by rw [hgb]; exact HB.out.size); have HO5 := Aside0.mk (Kd.R_below (Kd.R_elderB HO.out gb (Nat.le_of_eq hgb.symm)) hb); clear HO HB; clear hb hbox hgb; have hz0 : w5.cell? ⟨gb, 0, none⟩ = some (.string ⟨#[]⟩) := (blk_cell BK.out 0).trans rfl; have hz1 : w5.cell? ⟨gb, 1, none⟩ = some (.string ⟨#[]⟩) := (blk_cell BK.out 1).trans rfl; have hz2 : w5.cell? ⟨gb, 2, none⟩ = some (.int .i64 0) := (blk_cell BK.out 2).trans rfl; have hz3 : w5.cell? ⟨gb, 3, none⟩ = some (.int .i64 0) := (blk_cell BK.out 3).trans rfl; have hf0 := blk_frozen BK.out 0; have hf1 := blk_frozen BK.out 1; have hf2 := blk_frozen BK.out 2; have hf3 := blk_frozen BK.out 3)
          |((with_reducible refine gate_store (t := 29) (p := 8) rfl ?_); refine store_event (t := 29) (p := 8) (v := ?vo_6) (w1 := ((((w5.setCell ⟨gb, 0, none⟩ (.string X.f0)).setCell ⟨gb, 1, none⟩ (.string X.f1)).setCell ⟨gb, 2, none⟩ (.int .i64 X.f2)).setCell ⟨gb, 3, none⟩ (.int .i64 X.f3))) ?hg ?ho ?hn ?hr ?_;(case ho => rfl);(case hg => rfl);(case hn => rfl);(case hr => first|(go_simp;done)|(go_simp; rfl)); intro w6 hw; have BK6 : Aside0 (w6.heap[gb]? = some (.cells #[.string X.f0, .string X.f1, .int .i64 X.f2, .int .i64 (X.f3)] 29 (0, 0))) := ⟨by rw [hw]; exact (blk_set (blk_set (blk_set (blk_set BK.out 0 _) 1 _) 2 _) 3 _).trans rfl⟩; have HO6 := Aside0.mk (show Kd.R k29 29 w6 w.heap.size (fun k => True ∧ k ≠ gb) u6 xo from by rw [hw]; exact Kd.R_far (Kd.R_far (Kd.R_far (Kd.R_far HO5.out (p := ⟨gb, 0, none⟩) (fun k hk => hk.2) _) (p := ⟨gb, 1, none⟩) (fun k hk => hk.2) _) (p := ⟨gb, 2, none⟩) (fun k hk => hk.2) _) (p := ⟨gb, 3, none⟩) (fun k hk => hk.2) _); have HB6 := Aside0.mk (show Below w.heap.size w w6 from by rw [hw]; exact below_set (below_set (below_set (below_set HB5.out GB.out) GB.out) GB.out) GB.out); clear hw hz0 hz1 hz2 hz3 hf0 hf1 hf2 hf3 HO5 HB5 BK hx0 hx1 hx2 hx3; have hv0 : w6.cell? ⟨gb, 0, none⟩ = some (.string X.f0) := (blk_cell BK6.out 0).trans rfl; have hv1 : w6.cell? ⟨gb, 1, none⟩ = some (.string X.f1) := (blk_cell BK6.out 1).trans rfl; have hv2 : w6.cell? ⟨gb, 2, none⟩ = some (.int .i64 X.f2) := (blk_cell BK6.out 2).trans rfl; have hv3 : w6.cell? ⟨gb, 3, none⟩ = some (.int .i64 (X.f3)) := (blk_cell BK6.out 3).trans rfl; have hf0 := blk_frozen BK6.out 0; have hf1 := blk_frozen BK6.out 1; have hf2 := blk_frozen BK6.out 2; have hf3 := blk_frozen BK6.out 3; have hy3 := (HB6.out.cell (World.block_lt_of_cell? w _ HY.out)).trans HY.out; rw [← HYY.out] at hy3))
         go_roundg k1
         case measure => have := HK1.out; omega
         case rel => exact ⟨xo, wrap64 (xj + 1), (by first | rfl|(simp;done)|(simp [*];done)), H', ⟨by have := HK1.out; omega⟩, ⟨Kd.R_mono HO6.out (fun _ _ => trivial)⟩, HB6⟩
        ·rw [if_neg c6] at H
         have c6b : (xj == a1) = false := beq_eq_false_iff_ne.mpr c6
         clear c6
         by_cases c7 : xo.length < 1000000000
         ·rw [if_pos c7] at H
          have LM := Aside0.mk c7
          have H' := Aside0.mk H
          clear c7 H
          have p2 := eq_true HP.out.1
          have q2 := eq_true HP.out.2
          by_cases c8 : X.f3 = a1
          ·have c8b : (X.f3 == a1) = true := beq_iff_eq.mpr c8
           by_cases c9 : a1 < Y
           ·have c9b : decide (a1 < Y) = true := decide_eq_true c9
            have HS : Aside0 (impl_DropRoll.src Y a1 X = wrap64 (Y - 1)) := ⟨by unfold impl_DropRoll.src; rw [if_pos c8, if_pos c9]⟩
            clear c8 c9
            go_wp2_with (first
             |((with_reducible refine gate_dst (N := 8) rfl ?_); refine box_event ?hg (N := 8) ?hd (cs := #[.string ⟨#[]⟩, .string ⟨#[]⟩, .int .i64 0, .int .i64 0]) (t := 29) ?hr ?_;(case hd => rfl);(case hg => rfl);(case hr => first|(go_simp;done)|(go_simp; rfl)); intro gb hgb w5 hbox hb; have HB5 := Aside0.mk (below_step HB.out hb); have BK := Aside0.mk hbox; have GB := Aside0.mk (show w.heap.size ≤ gb by rw [hgb]; exact HB.out.size); have HO5 := Aside0.mk (Kd.R_below (Kd.R_elderB HO.out gb (Nat.le_of_eq hgb.symm)) hb); clear HO HB; clear hb hbox hgb; have hz0 : w5.cell? ⟨gb, 0, none⟩ = some (.string ⟨#[]⟩) := (blk_cell BK.out 0).trans rfl; have hz1 : w5.cell? ⟨gb, 1, none⟩ = some (.string ⟨#[]⟩) := (blk_cell BK.out 1).trans rfl; have hz2 : w5.cell? ⟨gb, 2, none⟩ = some (.int .i64 0) := (blk_cell BK.out 2).trans rfl; have hz3 : w5.cell? ⟨gb, 3, none⟩ = some (.int .i64 0) := (blk_cell BK.out 3).trans rfl; have hf0 := blk_frozen BK.out 0; have hf1 := blk_frozen BK.out 1; have hf2 := blk_frozen BK.out 2; have hf3 := blk_frozen BK.out 3)
             |((with_reducible refine gate_store (t := 29) (p := 8) rfl ?_); refine store_event (t := 29) (p := 8) (v := ?vo_6) (w1 := ((((w5.setCell ⟨gb, 0, none⟩ (.string X.f0)).setCell ⟨gb, 1, none⟩ (.string X.f1)).setCell ⟨gb, 2, none⟩ (.int .i64 X.f2)).setCell ⟨gb, 3, none⟩ (.int .i64 X.f3))) ?hg ?ho ?hn ?hr ?_;(case ho => rfl);(case hg => rfl);(case hn => rfl);(case hr => first|(go_simp;done)|(go_simp; rfl)); intro w6 hw; have BK6 : Aside0 (w6.heap[gb]? = some (.cells #[.string X.f0, .string X.f1, .int .i64 X.f2, .int .i64 (X.f3)] 29 (0, 0))) := ⟨by rw [hw]; exact (blk_set (blk_set (blk_set (blk_set BK.out 0 _) 1 _) 2 _) 3 _).trans rfl⟩; have HO6 := Aside0.mk (show Kd.R k29 29 w6 w.heap.size (fun k => True ∧ k ≠ gb) u6 xo from by rw [hw]; exact Kd.R_far (Kd.R_far (Kd.R_far (Kd.R_far HO5.out (p := ⟨gb, 0, none⟩) (fun k hk => hk.2) _) (p := ⟨gb, 1, none⟩) (fun k hk => hk.2) _) (p := ⟨gb, 2, none⟩) (fun k hk => hk.2) _) (p := ⟨gb, 3, none⟩) (fun k hk => hk.2) _); have HB6 := Aside0.mk (show Below w.heap.size w w6 from by rw [hw]; exact below_set (below_set (below_set (below_set HB5.out GB.out) GB.out) GB.out) GB.out); clear hw hz0 hz1 hz2 hz3 hf0 hf1 hf2 hf3 HO5 HB5 BK hx0 hx1 hx2 hx3; have hv0 : w6.cell? ⟨gb, 0, none⟩ = some (.string X.f0) := (blk_cell BK6.out 0).trans rfl; have hv1 : w6.cell? ⟨gb, 1, none⟩ = some (.string X.f1) := (blk_cell BK6.out 1).trans rfl; have hv2 : w6.cell? ⟨gb, 2, none⟩ = some (.int .i64 X.f2) := (blk_cell BK6.out 2).trans rfl; have hv3 : w6.cell? ⟨gb, 3, none⟩ = some (.int .i64 (X.f3)) := (blk_cell BK6.out 3).trans rfl; have hf0 := blk_frozen BK6.out 0; have hf1 := blk_frozen BK6.out 1; have hf2 := blk_frozen BK6.out 2; have hf3 := blk_frozen BK6.out 3; have hy3 := (HB6.out.cell (World.block_lt_of_cell? w _ HY.out)).trans HY.out; rw [← HYY.out] at hy3)
             |((with_reducible refine gate_store (t := 3) (p := 33) rfl ?_); refine store_event (t := 3) (p := 33) (v := ?vo_q3) (w1 := (w6.setCell ⟨gb, 3, none⟩ (.int .i64 (Y)))) ?hg ?ho ?hn ?hr ?_;(case ho => rfl);(case hg => rfl);(case hn => rfl);(case hr => first|(go_simp;done)|(go_simp; rfl)); intro w7 hw; have BK7 : Aside0 (w7.heap[gb]? = some (.cells #[.string X.f0, .string X.f1, .int .i64 X.f2, .int .i64 (Y)] 29 (0, 0))) := ⟨by rw [hw]; exact (blk_set BK6.out 3 _).trans rfl⟩; have HO7 := Aside0.mk (show Kd.R k29 29 w7 w.heap.size (fun k => True ∧ k ≠ gb) u6 xo from by rw [hw]; exact Kd.R_far HO6.out (p := ⟨gb, 3, none⟩) (fun k hk => hk.2) _); have HB7 := Aside0.mk (show Below w.heap.size w w7 from by rw [hw]; exact below_set HB6.out GB.out); clear hw hv0 hv1 hv2 hv3 hf0 hf1 hf2 hf3 hy3; have hv0 : w7.cell? ⟨gb, 0, none⟩ = some (.string X.f0) := (blk_cell BK7.out 0).trans rfl; have hv1 : w7.cell? ⟨gb, 1, none⟩ = some (.string X.f1) := (blk_cell BK7.out 1).trans rfl; have hv2 : w7.cell? ⟨gb, 2, none⟩ = some (.int .i64 X.f2) := (blk_cell BK7.out 2).trans rfl; have hv3 : w7.cell? ⟨gb, 3, none⟩ = some (.int .i64 (Y)) := (blk_cell BK7.out 3).trans rfl; have hf0 := blk_frozen BK7.out 0; have hf1 := blk_frozen BK7.out 1; have hf2 := blk_frozen BK7.out 2; have hf3 := blk_frozen BK7.out 3; have hy3 := (HB7.out.cell (World.block_lt_of_cell? w _ HY.out)).trans HY.out; rw [← HYY.out] at hy3)
             |((with_reducible refine gate_store (t := 3) (p := 41) rfl ?_); refine store_event (t := 3) (p := 41) (v := ?vo_q4) (w1 := (w7.setCell ⟨gb, 3, none⟩ (.int .i64 (wrap64 (Y - 1))))) ?hg ?ho ?hn ?hr ?_;(case ho => rfl);(case hg => rfl);(case hn => rfl);(case hr => first|(go_simp;done)|(go_simp; rfl)); intro w8 hw; have BK8 : Aside0 (w8.heap[gb]? = some (.cells #[.string X.f0, .string X.f1, .int .i64 X.f2, .int .i64 (wrap64 (Y - 1))] 29 (0, 0))) := ⟨by rw [hw]; exact (blk_set BK7.out 3 _).trans rfl⟩; have HO8 := Aside0.mk (show Kd.R k29 29 w8 w.heap.size (fun k => True ∧ k ≠ gb) u6 xo from by rw [hw]; exact Kd.R_far HO7.out (p := ⟨gb, 3, none⟩) (fun k hk => hk.2) _); have HB8 := Aside0.mk (show Below w.heap.size w w8 from by rw [hw]; exact below_set HB7.out GB.out); clear hw hv0 hv1 hv2 hv3 hf0 hf1 hf2 hf3 hy3; have hv0 : w8.cell? ⟨gb, 0, none⟩ = some (.string X.f0) := (blk_cell BK8.out 0).trans rfl; have hv1 : w8.cell? ⟨gb, 1, none⟩ = some (.string X.f1) := (blk_cell BK8.out 1).trans rfl; have hv2 : w8.cell? ⟨gb, 2, none⟩ = some (.int .i64 X.f2) := (blk_cell BK8.out 2).trans rfl; have hv3 : w8.cell? ⟨gb, 3, none⟩ = some (.int .i64 (wrap64 (Y - 1))) := (blk_cell BK8.out 3).trans rfl; have hf0 := blk_frozen BK8.out 0; have hf1 := blk_frozen BK8.out 1; have hf2 := blk_frozen BK8.out 2; have hf3 := blk_frozen BK8.out 3; have hy3 := (HB8.out.cell (World.block_lt_of_cell? w _ HY.out)).trans HY.out; rw [← HYY.out] at hy3)
             |((with_reducible refine gate_builtin (b := .append) (xs := #[.tmp 42, .tmp 44]) rfl ?_); at_builtin; refine Kd.R_append k29 (w0 := w) w.heap.size rfl (.tmp 42) (.tmp 44) 23 29 (.agg #[(.string ⟨#[]⟩), (.string ⟨#[]⟩), (.int .i64 0), (.int .i64 0)]) 48 rfl Try.underlying23 impl_DropRoll.info rfl (by decide) (by omega) u6 xo (⟨X.f0, X.f1, X.f2, wrap64 (Y - 1)⟩ : S29) [.string X.f0, .string X.f1, .int .i64 X.f2, .int .i64 (wrap64 (Y - 1))] (fun _ => True) (fun _ => False) rfl (by first|(go_simp;done)|(go_simp; rfl)) ?aP (fun _ hk => hk.elim) ?aF ?aO ?aB ?aS ?aL ?_;(case aP => exact k29_mkM _ _ _ (⟨X.f0, X.f1, X.f2, wrap64 (Y - 1)⟩ : S29));(case aB => exact (by repeat (first|(with_reducible first|exact HB8.out|apply below_alloc|apply pw_below_drewN|apply below_drew1)|exact HB8.out)));(case aF => exact (fun _ _ => trivial));(case aO => exact (by (with_reducible repeat (first|apply Kd.R_alloc|apply Kd.R_drewN|apply Kd.R_drew)); exact Kd.R_mono HO8.out (fun _ _ => trivial)));(case aS => exact (below_size (by repeat (first|(with_reducible first|exact HB8.out|apply below_alloc|apply pw_below_drewN|apply below_drew1)|exact HB8.out))));(case aL => have := LM.out; omega); intro v10 w10 ho hb hg hat; have HO10 := Aside0.mk ho; have HB10 := Aside0.mk hb; clear ho hb hg hat))
            go_roundg k1
            case measure => have := HK1.out; omega
            case rel => exact ⟨xo ++ [(⟨X.f0, X.f1, X.f2, wrap64 (Y - 1)⟩ : S29)], wrap64 (xj + 1), (by first | rfl|(simp;done)|(simp [*];done)), ⟨by rw [← HS.out]; exact H'.out⟩, ⟨by have := HK1.out; omega⟩, ⟨by (with_reducible repeat (first|apply Kd.R_alloc|apply Kd.R_drewN|apply Kd.R_drew)); exact HO10.out⟩, ⟨by repeat (first|(with_reducible first|exact HB10.out|apply below_alloc|apply pw_below_drewN|apply below_drew1)|exact HB10.out)⟩⟩
           ·have c9b : decide (a1 < Y) = false := decide_eq_false c9
            have HS : Aside0 (impl_DropRoll.src Y a1 X = Y) := ⟨by unfold impl_DropRoll.src; rw [if_pos c8, if_neg c9]⟩
            clear c8 c9
            go_wp2_with (first
             |((with_reducible refine gate_dst (N := 8) rfl ?_); refine box_event ?hg (N := 8) ?hd (cs := #[.string ⟨#[]⟩, .string ⟨#[]⟩, .int .i64 0, .int .i64 0]) (t := 29) ?hr ?_;(case hd => rfl);(case hg => rfl);(case hr => first|(go_simp;done)|(go_simp; rfl)); intro gb hgb w5 hbox hb; have HB5 := Aside0.mk (below_step HB.out hb); have BK := Aside0.mk hbox; have GB := Aside0.mk (show w.heap.size ≤ gb by rw [hgb]; exact HB.out.size); have HO5 := Aside0.mk (Kd.R_below (Kd.R_elderB HO.out gb (Nat.le_of_eq hgb.symm)) hb); clear HO HB; clear hb hbox hgb; have hz0 : w5.cell? ⟨gb, 0, none⟩ = some (.string ⟨#[]⟩) := (blk_cell BK.out 0).trans rfl; have hz1 : w5.cell? ⟨gb, 1, none⟩ = some (.string ⟨#[]⟩) := (blk_cell BK.out 1).trans rfl; have hz2 : w5.cell? ⟨gb, 2, none⟩ = some (.int .i64 0) := (blk_cell BK.out 2).trans rfl; have hz3 : w5.cell? ⟨gb, 3, none⟩ = some (.int .i64 0) := (blk_cell BK.out 3).trans rfl; have hf0 := blk_frozen BK.out 0; have hf1 := blk_frozen BK.out 1; have hf2 := blk_frozen BK.out 2; have hf3 := blk_frozen BK.out 3)
             |((with_reducible refine gate_store (t := 29) (p := 8) rfl ?_); refine store_event (t := 29) (p := 8) (v := ?vo_6) (w1 := ((((w5.setCell ⟨gb, 0, none⟩ (.string X.f0)).setCell ⟨gb, 1, none⟩ (.string X.f1)).setCell ⟨gb, 2, none⟩ (.int .i64 X.f2)).setCell ⟨gb, 3, none⟩ (.int .i64 X.f3))) ?hg ?ho ?hn ?hr ?_;(case ho => rfl);(case hg => rfl);(case hn => rfl);(case hr => first|(go_simp;done)|(go_simp; rfl)); intro w6 hw; have BK6 : Aside0 (w6.heap[gb]? = some (.cells #[.string X.f0, .string X.f1, .int .i64 X.f2, .int .i64 (X.f3)] 29 (0, 0))) := ⟨by rw [hw]; exact (blk_set (blk_set (blk_set (blk_set BK.out 0 _) 1 _) 2 _) 3 _).trans rfl⟩; have HO6 := Aside0.mk (show Kd.R k29 29 w6 w.heap.size (fun k => True ∧ k ≠ gb) u6 xo from by rw [hw]; exact Kd.R_far (Kd.R_far (Kd.R_far (Kd.R_far HO5.out (p := ⟨gb, 0, none⟩) (fun k hk => hk.2) _) (p := ⟨gb, 1, none⟩) (fun k hk => hk.2) _) (p := ⟨gb, 2, none⟩) (fun k hk => hk.2) _) (p := ⟨gb, 3, none⟩) (fun k hk => hk.2) _); have HB6 := Aside0.mk (show Below w.heap.size w w6 from by rw [hw]; exact below_set (below_set (below_set (below_set HB5.out GB.out) GB.out) GB.out) GB.out); clear hw hz0 hz1 hz2 hz3 hf0 hf1 hf2 hf3 HO5 HB5 BK hx0 hx1 hx2 hx3; have hv0 : w6.cell? ⟨gb, 0, none⟩ = some (.string X.f0) := (blk_cell BK6.out 0).trans rfl; have hv1 : w6.cell? ⟨gb, 1, none⟩ = some (.string X.f1) := (blk_cell BK6.out 1).trans rfl; have hv2 : w6.cell? ⟨gb, 2, none⟩ = some (.int .i64 X.f2) := (blk_cell BK6.out 2).trans rfl; have hv3 : w6.cell? ⟨gb, 3, none⟩ = some (.int .i64 (X.f3)) := (blk_cell BK6.out 3).trans rfl; have hf0 := blk_frozen BK6.out 0; have hf1 := blk_frozen BK6.out 1; have hf2 := blk_frozen BK6.out 2; have hf3 := blk_frozen BK6.out 3; have hy3 := (HB6.out.cell (World.block_lt_of_cell? w _ HY.out)).trans HY.out; rw [← HYY.out] at hy3)
             |((with_reducible refine gate_store (t := 3) (p := 33) rfl ?_); refine store_event (t := 3) (p := 33) (v := ?vo_q5) (w1 := (w6.setCell ⟨gb, 3, none⟩ (.int .i64 (Y)))) ?hg ?ho ?hn ?hr ?_;(case ho => rfl);(case hg => rfl);(case hn => rfl);(case hr => first|(go_simp;done)|(go_simp; rfl)); intro w7 hw; have BK7 : Aside0 (w7.heap[gb]? = some (.cells #[.string X.f0, .string X.f1, .int .i64 X.f2, .int .i64 (Y)] 29 (0, 0))) := ⟨by rw [hw]; exact (blk_set BK6.out 3 _).trans rfl⟩; have HO7 := Aside0.mk (show Kd.R k29 29 w7 w.heap.size (fun k => True ∧ k ≠ gb) u6 xo from by rw [hw]; exact Kd.R_far HO6.out (p := ⟨gb, 3, none⟩) (fun k hk => hk.2) _); have HB7 := Aside0.mk (show Below w.heap.size w w7 from by rw [hw]; exact below_set HB6.out GB.out); clear hw hv0 hv1 hv2 hv3 hf0 hf1 hf2 hf3 hy3; have hv0 : w7.cell? ⟨gb, 0, none⟩ = some (.string X.f0) := (blk_cell BK7.out 0).trans rfl; have hv1 : w7.cell? ⟨gb, 1, none⟩ = some (.string X.f1) := (blk_cell BK7.out 1).trans rfl; have hv2 : w7.cell? ⟨gb, 2, none⟩ = some (.int .i64 X.f2) := (blk_cell BK7.out 2).trans rfl; have hv3 : w7.cell? ⟨gb, 3, none⟩ = some (.int .i64 (Y)) := (blk_cell BK7.out 3).trans rfl; have hf0 := blk_frozen BK7.out 0; have hf1 := blk_frozen BK7.out 1; have hf2 := blk_frozen BK7.out 2; have hf3 := blk_frozen BK7.out 3; have hy3 := (HB7.out.cell (World.block_lt_of_cell? w _ HY.out)).trans HY.out; rw [← HYY.out] at hy3)
             |((with_reducible refine gate_builtin (b := .append) (xs := #[.tmp 42, .tmp 44]) rfl ?_); at_builtin; refine Kd.R_append k29 (w0 := w) w.heap.size rfl (.tmp 42) (.tmp 44) 23 29 (.agg #[(.string ⟨#[]⟩), (.string ⟨#[]⟩), (.int .i64 0), (.int .i64 0)]) 48 rfl Try.underlying23 impl_DropRoll.info rfl (by decide) (by omega) u6 xo (⟨X.f0, X.f1, X.f2, Y⟩ : S29) [.string X.f0, .string X.f1, .int .i64 X.f2, .int .i64 (Y)] (fun _ => True) (fun _ => False) rfl (by first|(go_simp;done)|(go_simp; rfl)) ?aP (fun _ hk => hk.elim) ?aF ?aO ?aB ?aS ?aL ?_;(case aP => exact k29_mkM _ _ _ (⟨X.f0, X.f1, X.f2, Y⟩ : S29));(case aB => exact (by repeat (first|(with_reducible first|exact HB7.out|apply below_alloc|apply pw_below_drewN|apply below_drew1)|exact HB7.out)));(case aF => exact (fun _ _ => trivial));(case aO => exact (by (with_reducible repeat (first|apply Kd.R_alloc|apply Kd.R_drewN|apply Kd.R_drew)); exact Kd.R_mono HO7.out (fun _ _ => trivial)));(case aS => exact (below_size (by repeat (first|(with_reducible first|exact HB7.out|apply below_alloc|apply pw_below_drewN|apply below_drew1)|exact HB7.out))));(case aL => have := LM.out; omega); intro v10 w10 ho hb hg hat; have HO10 := Aside0.mk ho; have HB10 := Aside0.mk hb; clear ho hb hg hat))
            go_roundg k1
            case measure => have := HK1.out; omega
            case rel => exact ⟨xo ++ [(⟨X.f0, X.f1, X.f2, Y⟩ : S29)], wrap64 (xj + 1), (by first | rfl|(simp;done)|(simp [*];done)), ⟨by rw [← HS.out]; exact H'.out⟩, ⟨by have := HK1.out; omega⟩, ⟨by (with_reducible repeat (first|apply Kd.R_alloc|apply Kd.R_drewN|apply Kd.R_drew)); exact HO10.out⟩, ⟨by repeat (first|(with_reducible first|exact HB10.out|apply below_alloc|apply pw_below_drewN|apply below_drew1)|exact HB10.out)⟩⟩
          ·have c8b : (X.f3 == a1) = false := beq_eq_false_iff_ne.mpr c8
           by_cases c9 : a1 < X.f3
           ·have c9b : decide (a1 < X.f3) = true := decide_eq_true c9
            have HS : Aside0 (impl_DropRoll.src Y a1 X = wrap64 (X.f3 - 1)) := ⟨by unfold impl_DropRoll.src; rw [if_neg c8, if_pos c9]⟩
            clear c8 c9
            go_wp2_with (first
             |((with_reducible refine gate_dst (N := 8) rfl ?_); refine box_event ?hg (N := 8) ?hd (cs := #[.string ⟨#[]⟩, .string ⟨#[]⟩, .int .i64 0, .int .i64 0]) (t := 29) ?hr ?_;(case hd => rfl);(case hg => rfl);(case hr => first|(go_simp;done)|(go_simp; rfl)); intro gb hgb w5 hbox hb; have HB5 := Aside0.mk (below_step HB.out hb); have BK := Aside0.mk hbox; have GB := Aside0.mk (show w.heap.size ≤ gb by rw [hgb]; exact HB.out.size); have HO5 := Aside0.mk (Kd.R_below (Kd.R_elderB HO.out gb (Nat.le_of_eq hgb.symm)) hb); clear HO HB; clear hb hbox hgb; have hz0 : w5.cell? ⟨gb, 0, none⟩ = some (.string ⟨#[]⟩) := (blk_cell BK.out 0).trans rfl; have hz1 : w5.cell? ⟨gb, 1, none⟩ = some (.string ⟨#[]⟩) := (blk_cell BK.out 1).trans rfl; have hz2 : w5.cell? ⟨gb, 2, none⟩ = some (.int .i64 0) := (blk_cell BK.out 2).trans rfl; have hz3 : w5.cell? ⟨gb, 3, none⟩ = some (.int .i64 0) := (blk_cell BK.out 3).trans rfl; have hf0 := blk_frozen BK.out 0; have hf1 := blk_frozen BK.out 1; have hf2 := blk_frozen BK.out 2; have hf3 := blk_frozen BK.out 3)
             |((with_reducible refine gate_store (t := 29) (p := 8) rfl ?_); refine store_event (t := 29) (p := 8) (v := ?vo_6) (w1 := ((((w5.setCell ⟨gb, 0, none⟩ (.string X.f0)).setCell ⟨gb, 1, none⟩ (.string X.f1)).setCell ⟨gb, 2, none⟩ (.int .i64 X.f2)).setCell ⟨gb, 3, none⟩ (.int .i64 X.f3))) ?hg ?ho ?hn ?hr ?_;(case ho => rfl);(case hg => rfl);(case hn => rfl);(case hr => first|(go_simp;done)|(go_simp; rfl)); intro w6 hw; have BK6 : Aside0 (w6.heap[gb]? = some (.cells #[.string X.f0, .string X.f1, .int .i64 X.f2, .int .i64 (X.f3)] 29 (0, 0))) := ⟨by rw [hw]; exact (blk_set (blk_set (blk_set (blk_set BK.out 0 _) 1 _) 2 _) 3 _).trans rfl⟩; have HO6 := Aside0.mk (show Kd.R k29 29 w6 w.heap.size (fun k => True ∧ k ≠ gb) u6 xo from by rw [hw]; exact Kd.R_far (Kd.R_far (Kd.R_far (Kd.R_far HO5.out (p := ⟨gb, 0, none⟩) (fun k hk => hk.2) _) (p := ⟨gb, 1, none⟩) (fun k hk => hk.2) _) (p := ⟨gb, 2, none⟩) (fun k hk => hk.2) _) (p := ⟨gb, 3, none⟩) (fun k hk => hk.2) _); have HB6 := Aside0.mk (show Below w.heap.size w w6 from by rw [hw]; exact below_set (below_set (below_set (below_set HB5.out GB.out) GB.out) GB.out) GB.out); clear hw hz0 hz1 hz2 hz3 hf0 hf1 hf2 hf3 HO5 HB5 BK hx0 hx1 hx2 hx3; have hv0 : w6.cell? ⟨gb, 0, none⟩ = some (.string X.f0) := (blk_cell BK6.out 0).trans rfl; have hv1 : w6.cell? ⟨gb, 1, none⟩ = some (.string X.f1) := (blk_cell BK6.out 1).trans rfl; have hv2 : w6.cell? ⟨gb, 2, none⟩ = some (.int .i64 X.f2) := (blk_cell BK6.out 2).trans rfl; have hv3 : w6.cell? ⟨gb, 3, none⟩ = some (.int .i64 (X.f3)) := (blk_cell BK6.out 3).trans rfl; have hf0 := blk_frozen BK6.out 0; have hf1 := blk_frozen BK6.out 1; have hf2 := blk_frozen BK6.out 2; have hf3 := blk_frozen BK6.out 3; have hy3 := (HB6.out.cell (World.block_lt_of_cell? w _ HY.out)).trans HY.out; rw [← HYY.out] at hy3)
             |((with_reducible refine gate_store (t := 3) (p := 41) rfl ?_); refine store_event (t := 3) (p := 41) (v := ?vo_q6) (w1 := (w6.setCell ⟨gb, 3, none⟩ (.int .i64 (wrap64 (X.f3 - 1))))) ?hg ?ho ?hn ?hr ?_;(case ho => rfl);(case hg => rfl);(case hn => rfl);(case hr => first|(go_simp;done)|(go_simp; rfl)); intro w7 hw; have BK7 : Aside0 (w7.heap[gb]? = some (.cells #[.string X.f0, .string X.f1, .int .i64 X.f2, .int .i64 (wrap64 (X.f3 - 1))] 29 (0, 0))) := ⟨by rw [hw]; exact (blk_set BK6.out 3 _).trans rfl⟩; have HO7 := Aside0.mk (show Kd.R k29 29 w7 w.heap.size (fun k => True ∧ k ≠ gb) u6 xo from by rw [hw]; exact Kd.R_far HO6.out (p := ⟨gb, 3, none⟩) (fun k hk => hk.2) _); have HB7 := Aside0.mk (show Below w.heap.size w w7 from by rw [hw]; exact below_set HB6.out GB.out); clear hw hv0 hv1 hv2 hv3 hf0 hf1 hf2 hf3 hy3; have hv0 : w7.cell? ⟨gb, 0, none⟩ = some (.string X.f0) := (blk_cell BK7.out 0).trans rfl; have hv1 : w7.cell? ⟨gb, 1, none⟩ = some (.string X.f1) := (blk_cell BK7.out 1).trans rfl; have hv2 : w7.cell? ⟨gb, 2, none⟩ = some (.int .i64 X.f2) := (blk_cell BK7.out 2).trans rfl; have hv3 : w7.cell? ⟨gb, 3, none⟩ = some (.int .i64 (wrap64 (X.f3 - 1))) := (blk_cell BK7.out 3).trans rfl; have hf0 := blk_frozen BK7.out 0; have hf1 := blk_frozen BK7.out 1; have hf2 := blk_frozen BK7.out 2; have hf3 := blk_frozen BK7.out 3; have hy3 := (HB7.out.cell (World.block_lt_of_cell? w _ HY.out)).trans HY.out; rw [← HYY.out] at hy3)
             |((with_reducible refine gate_builtin (b := .append) (xs := #[.tmp 42, .tmp 44]) rfl ?_); at_builtin; refine Kd.R_append k29 (w0 := w) w.heap.size rfl (.tmp 42) (.tmp 44) 23 29 (.agg #[(.string ⟨#[]⟩), (.string ⟨#[]⟩), (.int .i64 0), (.int .i64 0)]) 48 rfl Try.underlying23 impl_DropRoll.info rfl (by decide) (by omega) u6 xo (⟨X.f0, X.f1, X.f2, wrap64 (X.f3 - 1)⟩ : S29) [.string X.f0, .string X.f1, .int .i64 X.f2, .int .i64 (wrap64 (X.f3 - 1))] (fun _ => True) (fun _ => False) rfl (by first|(go_simp;done)|(go_simp; rfl)) ?aP (fun _ hk => hk.elim) ?aF ?aO ?aB ?aS ?aL ?_;(case aP => exact k29_mkM _ _ _ (⟨X.f0, X.f1, X.f2, wrap64 (X.f3 - 1)⟩ : S29));(case aB => exact (by repeat (first|(with_reducible first|exact HB7.out|apply below_alloc|apply pw_below_drewN|apply below_drew1)|exact HB7.out)));(case aF => exact (fun _ _ => trivial));(case aO => exact (by (with_reducible repeat (first|apply Kd.R_alloc|apply Kd.R_drewN|apply Kd.R_drew)); exact Kd.R_mono HO7.out (fun _ _ => trivial)));(case aS => exact (below_size (by repeat (first|(with_reducible first|exact HB7.out|apply below_alloc|apply pw_below_drewN|apply below_drew1)|exact HB7.out))));(case aL => have := LM.out; omega); intro v10 w10 ho hb hg hat; have HO10 := Aside0.mk ho; have HB10 := Aside0.mk hb; clear ho hb hg hat))
            go_roundg k1
            case measure => have := HK1.out; omega
            case rel => exact ⟨xo ++ [(⟨X.f0, X.f1, X.f2, wrap64 (X.f3 - 1)⟩ : S29)], wrap64 (xj + 1), (by first | rfl|(simp;done)|(simp [*];done)), ⟨by rw [← HS.out]; exact H'.out⟩, ⟨by have := HK1.out; omega⟩, ⟨by (with_reducible repeat (first|apply Kd.R_alloc|apply Kd.R_drewN|apply Kd.R_drew)); exact HO10.out⟩, ⟨by repeat (first|(with_reducible first|exact HB10.out|apply below_alloc|apply pw_below_drewN|apply below_drew1)|exact HB10.out)⟩⟩
           ·have c9b : decide (a1 < X.f3) = false := decide_eq_false c9
            have HS : Aside0 (impl_DropRoll.src Y a1 X = X.f3) := ⟨by unfold impl_DropRoll.src; rw [if_neg c8, if_neg c9]⟩
            clear c8 c9
            go_wp2_with (first
             |((with_reducible refine gate_dst (N := 8) rfl ?_); refine box_event ?hg (N := 8) ?hd (cs := #[.string ⟨#[]⟩, .string ⟨#[]⟩, .int .i64 0, .int .i64 0]) (t := 29) ?hr ?_;(case hd => rfl);(case hg => rfl);(case hr => first|(go_simp;done)|(go_simp; rfl)); intro gb hgb w5 hbox hb; have HB5 := Aside0.mk (below_step HB.out hb); have BK := Aside0.mk hbox; have GB := Aside0.mk (show w.heap.size ≤ gb by rw [hgb]; exact HB.out.size); have HO5 := Aside0.mk (Kd.R_below (Kd.R_elderB HO.out gb (Nat.le_of_eq hgb.symm)) hb); clear HO HB; clear hb hbox hgb; have hz0 : w5.cell? ⟨gb, 0, none⟩ = some (.string ⟨#[]⟩) := (blk_cell BK.out 0).trans rfl; have hz1 : w5.cell? ⟨gb, 1, none⟩ = some (.string ⟨#[]⟩) := (blk_cell BK.out 1).trans rfl; have hz2 : w5.cell? ⟨gb, 2, none⟩ = some (.int .i64 0) := (blk_cell BK.out 2).trans rfl; have hz3 : w5.cell? ⟨gb, 3, none⟩ = some (.int .i64 0) := (blk_cell BK.out 3).trans rfl; have hf0 := blk_frozen BK.out 0; have hf1 := blk_frozen BK.out 1; have hf2 := blk_frozen BK.out 2; have hf3 := blk_frozen BK.out 3)
             |((with_reducible refine gate_store (t := 29) (p := 8) rfl ?_); refine store_event (t := 29) (p := 8) (v := ?vo_6) (w1 := ((((w5.setCell ⟨gb, 0, none⟩ (.string X.f0)).setCell ⟨gb, 1, none⟩ (.string X.f1)).setCell ⟨gb, 2, none⟩ (.int .i64 X.f2)).setCell ⟨gb, 3, none⟩ (.int .i64 X.f3))) ?hg ?ho ?hn ?hr ?_;(case ho => rfl);(case hg => rfl);(case hn => rfl);(case hr => first|(go_simp;done)|(go_simp; rfl)); intro w6 hw; have BK6 : Aside0 (w6.heap[gb]? = some (.cells #[.string X.f0, .string X.f1, .int .i64 X.f2, .int .i64 (X.f3)] 29 (0, 0))) := ⟨by rw [hw]; exact (blk_set (blk_set (blk_set (blk_set BK.out 0 _) 1 _) 2 _) 3 _).trans rfl⟩; have HO6 := Aside0.mk (show Kd.R k29 29 w6 w.heap.size (fun k => True ∧ k ≠ gb) u6 xo from by rw [hw]; exact Kd.R_far (Kd.R_far (Kd.R_far (Kd.R_far HO5.out (p := ⟨gb, 0, none⟩) (fun k hk => hk.2) _) (p := ⟨gb, 1, none⟩) (fun k hk => hk.2) _) (p := ⟨gb, 2, none⟩) (fun k hk => hk.2) _) (p := ⟨gb, 3, none⟩) (fun k hk => hk.2) _); have HB6 := Aside0.mk (show Below w.heap.size w w6 from by rw [hw]; exact below_set (below_set (below_set (below_set HB5.out GB.out) GB.out) GB.out) GB.out); clear hw hz0 hz1 hz2 hz3 hf0 hf1 hf2 hf3 HO5 HB5 BK hx0 hx1 hx2 hx3; have hv0 : w6.cell? ⟨gb, 0, none⟩ = some (.string X.f0) := (blk_cell BK6.out 0).trans rfl; have hv1 : w6.cell? ⟨gb, 1, none⟩ = some (.string X.f1) := (blk_cell BK6.out 1).trans rfl; have hv2 : w6.cell? ⟨gb, 2, none⟩ = some (.int .i64 X.f2) := (blk_cell BK6.out 2).trans rfl; have hv3 : w6.cell? ⟨gb, 3, none⟩ = some (.int .i64 (X.f3)) := (blk_cell BK6.out 3).trans rfl; have hf0 := blk_frozen BK6.out 0; have hf1 := blk_frozen BK6.out 1; have hf2 := blk_frozen BK6.out 2; have hf3 := blk_frozen BK6.out 3; have hy3 := (HB6.out.cell (World.block_lt_of_cell? w _ HY.out)).trans HY.out; rw [← HYY.out] at hy3)
             |((with_reducible refine gate_builtin (b := .append) (xs := #[.tmp 42, .tmp 44]) rfl ?_); at_builtin; refine Kd.R_append k29 (w0 := w) w.heap.size rfl (.tmp 42) (.tmp 44) 23 29 (.agg #[(.string ⟨#[]⟩), (.string ⟨#[]⟩), (.int .i64 0), (.int .i64 0)]) 48 rfl Try.underlying23 impl_DropRoll.info rfl (by decide) (by omega) u6 xo (⟨X.f0, X.f1, X.f2, X.f3⟩ : S29) [.string X.f0, .string X.f1, .int .i64 X.f2, .int .i64 (X.f3)] (fun _ => True) (fun _ => False) rfl (by first|(go_simp;done)|(go_simp; rfl)) ?aP (fun _ hk => hk.elim) ?aF ?aO ?aB ?aS ?aL ?_;(case aP => exact k29_mkM _ _ _ (⟨X.f0, X.f1, X.f2, X.f3⟩ : S29));(case aB => exact (by repeat (first|(with_reducible first|exact HB6.out|apply below_alloc|apply pw_below_drewN|apply below_drew1)|exact HB6.out)));(case aF => exact (fun _ _ => trivial));(case aO => exact (by (with_reducible repeat (first|apply Kd.R_alloc|apply Kd.R_drewN|apply Kd.R_drew)); exact Kd.R_mono HO6.out (fun _ _ => trivial)));(case aS => exact (below_size (by repeat (first|(with_reducible first|exact HB6.out|apply below_alloc|apply pw_below_drewN|apply below_drew1)|exact HB6.out))));(case aL => have := LM.out; omega); intro v10 w10 ho hb hg hat; have HO10 := Aside0.mk ho; have HB10 := Aside0.mk hb; clear ho hb hg hat))
            go_roundg k1
            case measure => have := HK1.out; omega
            case rel => exact ⟨xo ++ [(⟨X.f0, X.f1, X.f2, X.f3⟩ : S29)], wrap64 (xj + 1), (by first | rfl|(simp;done)|(simp [*];done)), ⟨by rw [← HS.out]; exact H'.out⟩, ⟨by have := HK1.out; omega⟩, ⟨by (with_reducible repeat (first|apply Kd.R_alloc|apply Kd.R_drewN|apply Kd.R_drew)); exact HO10.out⟩, ⟨by repeat (first|(with_reducible first|exact HB10.out|apply below_alloc|apply pw_below_drewN|apply below_drew1)|exact HB10.out)⟩⟩
         ·rw [if_neg c7] at H
          exact absurd H (by simp)
       ·rw [if_neg c5] at H
        exact absurd H (by simp)
      ·rw [if_neg c4] at H
       have c4b : decide (xj < (l0.length : Int)) = false := decide_eq_false c4
       clear c4
       obtain rfl := Option.some.inj H
       clear H
       go_wp2
       go_ret2
       exact ⟨_, rfl, by (with_reducible repeat (first|apply Kd.R_alloc|apply Kd.R_drewN|apply Kd.R_drew)); exact HO.out, by repeat (first|(with_reducible first|exact HB.out|apply below_alloc|apply pw_below_drewN|apply below_drew1)|exact HB.out)⟩
   ·rw [if_neg q1] at H
    exact absurd H (by simp)
  ·rw [if_neg p1] at H
   exact absurd H (by simp)


/-! ### spec_l1In: function 97 -/
def spec_l1In.f (a0 : Int) (a1 : Int) (a2 : Int) : Option (Bool) := if a0 ≥ a1 then (some (decide (a0 ≤ a2))) else (some false)
set_option maxHeartbeats 8000000 in
set_option maxRecDepth 100000 in
theorem spec_l1In.calls (a0 : Int) (a1 : Int) (a2 : Int) (r : Bool) (w : World) (h : spec_l1In.f a0 a1 a2 = some r) :
 Calls Try.prog 97 #[.int .i64 a0, .int .i64 a1, .int .i64 a2] w fun e w' => e = .returned (.bool r) ∧ Drawn0 w w' := by
 have H : (if a0 ≥ a1 then (some (decide (a0 ≤ a2))) else (some false)) = some r := h
 clear h
 by_cases c4 : a0 ≥ a1
 ·rw [if_pos c4] at H
  have c4b0 : decide (a1 ≤ a0) = true := decide_eq_true c4
  clear c4
  obtain rfl := Option.some.inj H
  go_enter Try.func97, Try.ntmps97
  go_wp2
  go_ret
  exact ⟨by first | rfl|(simp;done)|(simp [*];done), by repeat (first|exact Drawn0.refl _|apply Drawn0.step)⟩
 ·rw [if_neg c4] at H
  have c4b0 : decide (a1 ≤ a0) = false := decide_eq_false c4
  clear c4
  obtain rfl := Option.some.inj H
  go_enter Try.func97, Try.ntmps97
  go_wp2
  go_ret
  exact ⟨by first | rfl|(simp;done)|(simp [*];done), by repeat (first|exact Drawn0.refl _|apply Drawn0.step)⟩

/-! ### spec_caWord: function 78 -/
def spec_caWord.l0 : Nat → ByteArray → Int → Option (Bool)
 | 0, _, _ => none
 | k + 1, x0, x3 => if x3 < (x0.size : Int) then (if 0 ≤ x3 then (if (bt x0 x3) < 97 then (some false) else (if (bt x0 x3) > 122 then (some false) else (spec_caWord.l0 k x0 (wrap64 (x3 + 1))))) else (none)) else ((spec_l1In.f (x0.size : Int) 1 12).bind fun t247 => (some t247))
def spec_caWord.f (k : Nat) (a0 : ByteArray) : Option (Bool) := spec_caWord.l0 k a0 0
theorem spec_caWord.mono_l : ∀ k, (∀ y0 y1, LeO (spec_caWord.l0 k y0 y1) (spec_caWord.l0 (k + 1) y0 y1))
 | 0 => fun _ _ r h => by simp [spec_caWord.l0] at h
 | k + 1 => by
  have ih0 := spec_caWord.mono_l k
  ·intro y0 y1
   unfold spec_caWord.l0
   repeat' first
   |(with_reducible exact ih0 _ _)
   |(with_reducible exact LeO.refl _)
   |(with_reducible exact LeO.none _)
   |(with_reducible refine LeO.ite ?_ ?_)
   |(with_reducible refine LeO.bind ?_ (fun _ => ?_))
   |exact ih0 _ _
   |exact LeO.none _
    | refine LeO.ite ?_ ?_
    | refine LeO.bind ?_ (fun _ => ?_)
theorem spec_caWord.mono : ∀ a0 k, LeO (spec_caWord.f k a0) (spec_caWord.f (k + 1) a0) := by
 intro a0 k
 have ih0 := spec_caWord.mono_l k
 unfold spec_caWord.f
 repeat' first
  |(with_reducible exact ih0 _ _)
  |(with_reducible exact LeO.refl _)
  |(with_reducible exact LeO.none _)
  |(with_reducible refine LeO.ite ?_ ?_)
  |(with_reducible refine LeO.bind ?_ (fun _ => ?_))
  |exact ih0 _ _
  |exact LeO.none _
   | refine LeO.ite ?_ ?_
   | refine LeO.bind ?_ (fun _ => ?_)
set_option maxHeartbeats 8000000 in
set_option maxRecDepth 100000 in
theorem spec_caWord.calls (k : Nat) (a0 : ByteArray) (r : Bool) (w : World) (h : spec_caWord.f k a0 = some r) :
 Calls Try.prog 78 #[.string a0] w fun e w' => e = .returned (.bool r) ∧ Drawn0 w w' := by
 have H : (spec_caWord.l0 k a0 0) = some r := h
 clear h
 have H' := Aside0.mk H
 clear H
 go_enter Try.func78, Try.ntmps78
 go_wp2
 go_loopg [3] k (fun kq v3 w' => ∃ (x3_1 : Int), v3 = .int .i64 x3_1 ∧ Aside0 (spec_caWord.l0 kq a0 x3_1 = some r) ∧ Aside0 (kq ≤ k) ∧ Drawn0 w w')
 case atStart => exact ⟨(0), (by first | rfl|(simp;done)|(simp [*];done)), H', ⟨Nat.le_refl _⟩, by repeat (first|exact Drawn0.refl _|apply Drawn0.step)⟩
 case round =>
  clear H'
  obtain ⟨x3_1, rfl, HA, HK1, ⟨m1, rfl⟩⟩ := hrel
  cases gk with
  | zero => exact absurd HA.out (by simp [spec_caWord.l0])
  | succ k1 =>
   have H := HA.out
   clear HA
   simp only [spec_caWord.l0] at H
   by_cases c2 : x3_1 < (a0.size : Int)
   ·rw [if_pos c2] at H
    have c2b0 : decide (x3_1 < (a0.size : Int)) = true := decide_eq_true c2
    clear c2
    by_cases c3 : 0 ≤ x3_1
    ·rw [if_pos c3] at H
     have c3b0 : decide (0 ≤ x3_1) = true := decide_eq_true c3
     clear c3
     by_cases c5 : (bt a0 x3_1) < 97
     ·rw [if_pos c5] at H
      have c5b0 : decide ((bt a0 x3_1) < 97) = true := decide_eq_true c5
      clear c5
      obtain rfl := Option.some.inj H
      have p4 : 0 ≤ (x3_1 : Int) := of_decide_eq_true (by first|(with_reducible assumption) | assumption)
      have q4 : x3_1 < (a0.size : Int) := of_decide_eq_true (by first|(with_reducible assumption) | assumption)
      have hx4 := bt_at a0 x3_1
      replace p4 := eq_true p4
      replace q4 := eq_true q4
      go_wp2
      go_ret
      exact ⟨by first | rfl|(simp;done)|(simp [*];done), by repeat (first|exact Drawn0.refl _|apply Drawn0.step)⟩
     ·rw [if_neg c5] at H
      have c5b0 : decide ((bt a0 x3_1) < 97) = false := decide_eq_false c5
      clear c5
      by_cases c7 : (bt a0 x3_1) > 122
      ·rw [if_pos c7] at H
       have c7b0 : decide (122 < (bt a0 x3_1)) = true := decide_eq_true c7
       clear c7
       obtain rfl := Option.some.inj H
       have p4 : 0 ≤ (x3_1 : Int) := of_decide_eq_true (by first|(with_reducible assumption) | assumption)
       have q4 : x3_1 < (a0.size : Int) := of_decide_eq_true (by first|(with_reducible assumption) | assumption)
       have hx4 := bt_at a0 x3_1
       replace p4 := eq_true p4
       replace q4 := eq_true q4
       have p6 : 0 ≤ (x3_1 : Int) := of_decide_eq_true (by first|(with_reducible assumption) | assumption)
       have q6 : x3_1 < (a0.size : Int) := of_decide_eq_true (by first|(with_reducible assumption) | assumption)
       have hx6 := bt_at a0 x3_1
       replace p6 := eq_true p6
       replace q6 := eq_true q6
       go_wp2
       go_ret
       exact ⟨by first | rfl|(simp;done)|(simp [*];done), by repeat (first|exact Drawn0.refl _|apply Drawn0.step)⟩
      ·rw [if_neg c7] at H
       have c7b0 : decide (122 < (bt a0 x3_1)) = false := decide_eq_false c7
       clear c7
       have H' := Aside0.mk H
       clear H
       have p4 : 0 ≤ (x3_1 : Int) := of_decide_eq_true (by first|(with_reducible assumption) | assumption)
       have q4 : x3_1 < (a0.size : Int) := of_decide_eq_true (by first|(with_reducible assumption) | assumption)
       have hx4 := bt_at a0 x3_1
       replace p4 := eq_true p4
       replace q4 := eq_true q4
       have p6 : 0 ≤ (x3_1 : Int) := of_decide_eq_true (by first|(with_reducible assumption) | assumption)
       have q6 : x3_1 < (a0.size : Int) := of_decide_eq_true (by first|(with_reducible assumption) | assumption)
       have hx6 := bt_at a0 x3_1
       replace p6 := eq_true p6
       replace q6 := eq_true q6
       go_wp2
       go_roundg k1
       case measure => have := HK1.out; omega
       case rel => exact ⟨(wrap64 (x3_1 + 1)), (by first | rfl|(simp;done)|(simp [*];done)), H', ⟨by have := HK1.out; omega⟩, by repeat (first|exact Drawn0.refl _|apply Drawn0.step)⟩
    ·rw [if_neg c3] at H
     exact absurd H (by simp)
   ·rw [if_neg c2] at H
    have c2b0 : decide (x3_1 < (a0.size : Int)) = false := decide_eq_false c2
    clear c2
    replace H := Option.bind_eq_some_iff.mp H
    obtain ⟨t247, A80, H⟩ := H
    try dsimp only at H
    have A8 := Aside0.mk A80
    clear A80
    obtain rfl := Option.some.inj H
    go_wp2_with (first|((with_reducible refine gate_callee (f := 97) rfl ?_); refine goesL_ (some 22) rfl rfl Try.func97 (by kernel_rfl) rfl #[.int .i64 (a0.size : Int), .int .i64 1, .int .i64 12] rfl (by (try simp only [List.map_toArray, List.map_cons, List.map_nil]); first | done | rfl|(simp only [List.length_drop, List.length_take]; rfl)) ?_; (with_reducible refine (spec_l1In.calls (a0.size : Int) 1 12 t247 _ A8.out).mono ?_); rintro e w' ⟨rfl, ⟨nd, rfl⟩⟩; refine ⟨_, rfl, ?_⟩))
    go_ret
    exact ⟨by first | rfl|(simp;done)|(simp [*];done), by repeat (first|exact Drawn0.refl _|apply Drawn0.step)⟩

/-! ### spec_caFind: function 79 -/
def spec_caFind.l0 : Nat → ByteArray → List (S29) → Int → Int → Option (Int)
 | 0, _, _, _, _ => none
 | k + 1, x1, x7, x8, x9 => if x9 < x8 then (if 0 ≤ x9 then (if x9 < (x7.length : Int) then (if ((rd_T29 x7 x9).f0).toList = x1.toList then (some x9) else (spec_caFind.l0 k x1 x7 x8 (wrap64 (x9 + 1)))) else (none)) else (none)) else (some (-1))
def spec_caFind.f (k : Nat) (l0 : List (S29)) (a1 : ByteArray) : Option (Int) := spec_caFind.l0 k a1 l0 (l0.length : Int) 0
theorem spec_caFind.mono_l : ∀ k, (∀ y0 y1 y2 y3, LeO (spec_caFind.l0 k y0 y1 y2 y3) (spec_caFind.l0 (k + 1) y0 y1 y2 y3))
 | 0 => fun _ _ _ _ r h => by simp [spec_caFind.l0] at h
 | k + 1 => by
  have ih0 := spec_caFind.mono_l k
  ·intro y0 y1 y2 y3
   unfold spec_caFind.l0
   repeat' first
   |(with_reducible exact ih0 _ _ _ _)
   |(with_reducible exact LeO.refl _)
   |(with_reducible exact LeO.none _)
   |(with_reducible refine LeO.ite ?_ ?_)
   |(with_reducible refine LeO.bind ?_ (fun _ => ?_))
   |exact ih0 _ _ _ _
   |exact LeO.none _
    | refine LeO.ite ?_ ?_
    | refine LeO.bind ?_ (fun _ => ?_)
theorem spec_caFind.mono : ∀ a0 a1 k, LeO (spec_caFind.f k a0 a1) (spec_caFind.f (k + 1) a0 a1) := by
 intro a0 a1 k
 have ih0 := spec_caFind.mono_l k
 unfold spec_caFind.f
 repeat' first
  |(with_reducible exact ih0 _ _ _ _)
  |(with_reducible exact LeO.refl _)
  |(with_reducible exact LeO.none _)
  |(with_reducible refine LeO.ite ?_ ?_)
  |(with_reducible refine LeO.bind ?_ (fun _ => ?_))
  |exact ih0 _ _ _ _
  |exact LeO.none _
   | refine LeO.ite ?_ ?_
   | refine LeO.bind ?_ (fun _ => ?_)
set_option maxHeartbeats 8000000 in
set_option maxRecDepth 100000 in
theorem spec_caFind.calls (k : Nat) (A0 : Option Addr) (c0 : Nat) (l0 : List (S29)) (a1 : ByteArray) (r : Int) (w : World) (hr0 : Kd.C k29 w A0 l0.length l0) (hc0 : l0.length ≤ c0) (h : spec_caFind.f k l0 a1 = some r) :
 Calls Try.prog 79 #[.slice A0 l0.length c0, .string a1] w fun e w' => e = .returned (.int .i64 r) ∧ Below w.heap.size w w' := by
 have hu29 := Try.underlying29
 have HR0 := Aside0.mk hr0
 have HC0 := Aside0.mk hc0
 clear hr0 hc0
 have HB := Aside0.mk (Below.refl w.heap.size w)
 have H : (spec_caFind.l0 k a1 l0 (l0.length : Int) 0) = some r := h
 clear h
 have H' := Aside0.mk H
 clear H
 go_enter Try.func79, Try.ntmps79
 go_wp2
 go_loopg [9] k (fun kq v9 w' => ∃ (x9_1 : Int), v9 = .int .i64 x9_1 ∧ Aside0 (spec_caFind.l0 kq a1 l0 (l0.length : Int) x9_1 = some r) ∧ Aside0 (kq ≤ k) ∧ Aside0 (Below w.heap.size w w'))
 case atStart => exact ⟨(0), (by first | rfl|(simp;done)|(simp [*];done)), H', ⟨Nat.le_refl _⟩, ⟨by repeat (first|(with_reducible first|exact HB.out|apply below_alloc|apply pw_below_drewN|apply below_drew1)|exact HB.out)⟩⟩
 case round =>
  clear H'
  try clear p2
  obtain ⟨x9_1, rfl, HA, HK1, HB⟩ := hrel
  cases gk with
  | zero => exact absurd HA.out (by simp [spec_caFind.l0])
  | succ k1 =>
   have H := HA.out
   clear HA
   simp only [spec_caFind.l0] at H
   by_cases c3 : x9_1 < (l0.length : Int)
   ·rw [if_pos c3] at H
    have c3b0 : decide (x9_1 < (l0.length : Int)) = true := decide_eq_true c3
    clear c3
    by_cases c4 : 0 ≤ x9_1
    ·rw [if_pos c4] at H
     have c4b0 : decide (0 ≤ x9_1) = true := decide_eq_true c4
     clear c4
     by_cases c5 : x9_1 < (l0.length : Int)
     ·rw [if_pos c5] at H
      have c5b0 : decide (x9_1 < (l0.length : Int)) = true := decide_eq_true c5
      clear c5
      by_cases c6 : ((rd_T29 l0 x9_1).f0).toList = a1.toList
      ·rw [if_pos c6] at H
       have c6b0 : (((rd_T29 l0 x9_1).f0).toList == a1.toList) = true := beq_iff_eq.mpr c6
       have c6b1 : (((rd_T29 l0 x9_1).f0).toList != a1.toList) = false := bne_eq_false_iff_eq.mpr c6
       clear c6
       obtain rfl := Option.some.inj H
       have p248 : 0 ≤ (x9_1 : Int) := of_decide_eq_true (by first|(with_reducible assumption) | assumption)
       have q248 : x9_1 < (l0.length : Int) := of_decide_eq_true (by first|(with_reducible assumption) | assumption)
       obtain ⟨ad248, e248, hx248_0, hx248_1, hx248_2, hx248_3⟩ := at_T29 HR0.out x9_1 p248 q248
       cases e248
       replace hx248_0 := (HB.out.cell (World.block_lt_of_cell? w _ hx248_0)).trans hx248_0
       replace hx248_1 := (HB.out.cell (World.block_lt_of_cell? w _ hx248_1)).trans hx248_1
       replace hx248_2 := (HB.out.cell (World.block_lt_of_cell? w _ hx248_2)).trans hx248_2
       replace hx248_3 := (HB.out.cell (World.block_lt_of_cell? w _ hx248_3)).trans hx248_3
       replace p248 := eq_true p248
       replace q248 := eq_true q248
       go_wp2_with (first|((with_reducible refine gate_dst (N := 6) rfl ?_); refine box_event ?hg (N := 6) ?hd (cs := #[.string (⟨#[]⟩ : ByteArray), .string (⟨#[]⟩ : ByteArray), .int .i64 0, .int .i64 0]) (t := 29) ?hr ?_;(case hd => rfl);(case hg => rfl);(case hr => first|(go_simp;done)|(go_simp; rfl)); intro gb249 hg w7 hbox hb; have n0_ := Aside0.mk (below_step (by repeat (first|(with_reducible first|exact HB.out|apply below_alloc|apply pw_below_drewN|apply below_drew1)|exact HB.out)) hb); have n1_ := Aside0.mk (hbox); have n2_ := Aside0.mk ((by rw [hg]; exact (below_size (by repeat (first|(with_reducible first|exact HB.out|apply below_alloc|apply pw_below_drewN|apply below_drew1)|exact HB.out))) : w.heap.size ≤ gb249)); have n3_ := Aside0.mk ((by rw [hg]; exact (below_size (by repeat (first|(with_reducible first|exact HB.out|apply below_alloc|apply pw_below_drewN|apply below_drew1)|exact HB.out))) : w.heap.size ≤ gb249)); clear HB; have HB := n0_; have BK249 := n1_; have GW249 := n2_; have GE249 := n3_; clear n0_ n1_ n2_ n3_; clear hb hbox hg; have hcz8_0 : w7.cell? ⟨gb249, 0, none⟩ = some (.string (⟨#[]⟩ : ByteArray)) := (blk_cell BK249.out 0).trans rfl; have hcz8_1 : w7.cell? ⟨gb249, 1, none⟩ = some (.string (⟨#[]⟩ : ByteArray)) := (blk_cell BK249.out 1).trans rfl; have hcz8_2 : w7.cell? ⟨gb249, 2, none⟩ = some (.int .i64 0) := (blk_cell BK249.out 2).trans rfl; have hcz8_3 : w7.cell? ⟨gb249, 3, none⟩ = some (.int .i64 0) := (blk_cell BK249.out 3).trans rfl; have hfz8_0 := blk_frozen BK249.out 0; have hfz8_1 := blk_frozen BK249.out 1; have hfz8_2 := blk_frozen BK249.out 2; have hfz8_3 := blk_frozen BK249.out 3))
       go_ret
       exact ⟨by first | rfl|(simp [errW_none, errW_some] <;> rfl)|(simp [*, errW_none, errW_some] <;> rfl), by repeat (first|(with_reducible first|exact HB.out|apply below_alloc|apply pw_below_drewN|apply below_drew1 | refine below_set ?_ GE249.out)|exact HB.out)⟩
      ·rw [if_neg c6] at H
       have c6b0 : (((rd_T29 l0 x9_1).f0).toList == a1.toList) = false := beq_eq_false_iff_ne.mpr c6
       have c6b1 : (((rd_T29 l0 x9_1).f0).toList != a1.toList) = true := bne_iff_ne.mpr c6
       have H' := Aside0.mk H
       clear H
       have p248 : 0 ≤ (x9_1 : Int) := of_decide_eq_true (by first|(with_reducible assumption) | assumption)
       have q248 : x9_1 < (l0.length : Int) := of_decide_eq_true (by first|(with_reducible assumption) | assumption)
       obtain ⟨ad248, e248, hx248_0, hx248_1, hx248_2, hx248_3⟩ := at_T29 HR0.out x9_1 p248 q248
       cases e248
       replace hx248_0 := (HB.out.cell (World.block_lt_of_cell? w _ hx248_0)).trans hx248_0
       replace hx248_1 := (HB.out.cell (World.block_lt_of_cell? w _ hx248_1)).trans hx248_1
       replace hx248_2 := (HB.out.cell (World.block_lt_of_cell? w _ hx248_2)).trans hx248_2
       replace hx248_3 := (HB.out.cell (World.block_lt_of_cell? w _ hx248_3)).trans hx248_3
       replace p248 := eq_true p248
       replace q248 := eq_true q248
       go_wp2_with (first|((with_reducible refine gate_dst (N := 6) rfl ?_); refine box_event ?hg (N := 6) ?hd (cs := #[.string (⟨#[]⟩ : ByteArray), .string (⟨#[]⟩ : ByteArray), .int .i64 0, .int .i64 0]) (t := 29) ?hr ?_;(case hd => rfl);(case hg => rfl);(case hr => first|(go_simp;done)|(go_simp; rfl)); intro gb249 hg w9 hbox hb; have n0_ := Aside0.mk (below_step (by repeat (first|(with_reducible first|exact HB.out|apply below_alloc|apply pw_below_drewN|apply below_drew1)|exact HB.out)) hb); have n1_ := Aside0.mk (hbox); have n2_ := Aside0.mk ((by rw [hg]; exact (below_size (by repeat (first|(with_reducible first|exact HB.out|apply below_alloc|apply pw_below_drewN|apply below_drew1)|exact HB.out))) : w.heap.size ≤ gb249)); have n3_ := Aside0.mk ((by rw [hg]; exact (below_size (by repeat (first|(with_reducible first|exact HB.out|apply below_alloc|apply pw_below_drewN|apply below_drew1)|exact HB.out))) : w.heap.size ≤ gb249)); clear HB; have HB := n0_; have BK249 := n1_; have GW249 := n2_; have GE249 := n3_; clear n0_ n1_ n2_ n3_; clear hb hbox hg; have hcz10_0 : w9.cell? ⟨gb249, 0, none⟩ = some (.string (⟨#[]⟩ : ByteArray)) := (blk_cell BK249.out 0).trans rfl; have hcz10_1 : w9.cell? ⟨gb249, 1, none⟩ = some (.string (⟨#[]⟩ : ByteArray)) := (blk_cell BK249.out 1).trans rfl; have hcz10_2 : w9.cell? ⟨gb249, 2, none⟩ = some (.int .i64 0) := (blk_cell BK249.out 2).trans rfl; have hcz10_3 : w9.cell? ⟨gb249, 3, none⟩ = some (.int .i64 0) := (blk_cell BK249.out 3).trans rfl; have hfz10_0 := blk_frozen BK249.out 0; have hfz10_1 := blk_frozen BK249.out 1; have hfz10_2 := blk_frozen BK249.out 2; have hfz10_3 := blk_frozen BK249.out 3))
       go_roundg k1
       case measure => have := HK1.out; omega
       case rel => exact ⟨(wrap64 (x9_1 + 1)), (by first | rfl|(simp;done)|(simp [*];done)), H', ⟨by have := HK1.out; omega⟩, ⟨by repeat (first|(with_reducible first|exact HB.out|apply below_alloc|apply pw_below_drewN|apply below_drew1 | refine below_set ?_ GE249.out)|exact HB.out)⟩⟩
     ·rw [if_neg c5] at H
      exact absurd H (by simp)
    ·rw [if_neg c4] at H
     exact absurd H (by simp)
   ·rw [if_neg c3] at H
    have c3b0 : decide (x9_1 < (l0.length : Int)) = false := decide_eq_false c3
    clear c3
    obtain rfl := Option.some.inj H
    go_wp2
    go_ret
    exact ⟨by first | rfl|(simp [errW_none, errW_some] <;> rfl)|(simp [*, errW_none, errW_some] <;> rfl), by repeat (first|(with_reducible first|exact HB.out|apply below_alloc|apply pw_below_drewN|apply below_drew1)|exact HB.out)⟩

end Go.Proofs.Ytlbbkepkincleaa.QFnRolls
