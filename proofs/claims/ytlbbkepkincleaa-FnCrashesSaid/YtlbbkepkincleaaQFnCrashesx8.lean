/- Written by a program of this session (the kit's printer, with leaf contracts proved by hand put in): what each Go function computes, and that the call computes it. No condition but those that each theorem names. -/
import Derived.Test.YtlbbkepkincleaaQFnCrashesx0
import Derived.Test.YtlbbkepkincleaaQFnCrashesx2
import Derived.Test.YtlbbkepkincleaaQFnCrashesx3
namespace Go.Proofs.Ytlbbkepkincleaa.QFnCrashes
open Go.RowKit Go.Proofs.YtlbbkepkincleaaW.PrintWords Go.Proofs.YtlbbkepkincleaaW.PrintLast Go.Proofs.YtlbbkepkincleaaW.PrintMore
attribute [local go_sem] max2_int min2_int max_two min_two max_three min_three max_four min_four   -- for this text's walks alone
set_option linter.unusedVariables false
set_option linter.unusedSimpArgs false

/-! ### spec_StatesLeft: function 46 (by hand: how many of two areas hold a state) -/
def spec_StatesLeft.f (k : Nat) (l0 : List Int) (l1 : List Int) : Option (Int × Bool) := (spec_jrTwo.f k l0 l1).bind fun t => (if t = true then ((spec_jrRead.f k l0).bind fun x => ((spec_jrRead.f k l1).bind fun y => (some ((if x.2.2 = true then (1 : Int) else 0) + (if y.2.2 = true then (1 : Int) else 0), true)))) else (some (0, false)))
theorem spec_StatesLeft.mono : ∀ a0 a1 k, LeO (spec_StatesLeft.f k a0 a1) (spec_StatesLeft.f (k + 1) a0 a1) := by
  intro a0 a1 k
  unfold spec_StatesLeft.f
  repeat' first
     |(with_reducible exact spec_jrTwo.mono _ _ _)
     |(with_reducible exact spec_jrRead.mono _ _)
     |(with_reducible exact LeO.refl _)
     |(with_reducible exact LeO.none _)
     |(with_reducible refine LeO.ite ?_ ?_)
     |(with_reducible refine LeO.bind ?_ (fun _ => ?_))
def spec_StatesLeft.cnt (a b : Int) : Nat → Int
  | 0 => 0
  | 1 => a
  | _ => a + b
set_option maxHeartbeats 2000000 in
set_option maxRecDepth 100000 in
theorem spec_StatesLeft.calls (k : Nat) (A0 : Option Addr) (c0 : Nat) (l0 : List Int) (A1 : Option Addr) (c1 : Nat) (l1 : List Int) (r1 : Int) (r2 : Bool) (w : World) (hr0 : Kd.C (Kd.int .i64) w A0 l0.length l0) (hc0 : l0.length ≤ c0) (hr1 : Kd.C (Kd.int .i64) w A1 l1.length l1) (hc1 : l1.length ≤ c1) (h : spec_StatesLeft.f k l0 l1 = some (r1, r2)) :
    Calls Try.prog 46 #[.slice A0 l0.length c0, .slice A1 l1.length c1] w fun e w' => e = .returned (.tuple #[.int .i64 r1, .bool r2]) ∧ Below w.heap.size w w' := by
  have HR0 := Aside0.mk hr0
  have HC0 := Aside0.mk hc0
  have HR1 := Aside0.mk hr1
  have HC1 := Aside0.mk hc1
  have HB := Aside0.mk (Below.refl w.heap.size w)
  clear hr0 hc0 hr1 hc1
  have H := Option.bind_eq_some_iff.mp h
  clear h
  obtain ⟨t, a0, H⟩ := H
  have AT := Aside0.mk a0
  clear a0
  cases t with
  | false =>
    rw [if_neg (by decide)] at H
    simp only [Option.some.injEq, Prod.mk.injEq] at H
    obtain ⟨rfl, rfl⟩ := H
    go_enter Try.func46, Try.ntmps46
    go_wp2_with (first
     |(go_at_call 102; (with_reducible refine (spec_jrTwo.calls k A0 c0 l0 A1 c1 l1 false _ ?s1 HC0.out ?s2 HC1.out AT.out).mono ?_);(case s1 => repeat (first|exact (Kd.C_below HR0.out HB.out)|(with_reducible refine Kd.C_alloc ?_ _)|(with_reducible refine Kd.C_drewN ?_ _)|(with_reducible refine Kd.C_drew ?_)));(case s2 => repeat (first|exact (Kd.C_below HR1.out HB.out)|(with_reducible refine Kd.C_alloc ?_ _)|(with_reducible refine Kd.C_drewN ?_ _)|(with_reducible refine Kd.C_drew ?_))); rintro e w' ⟨rfl, nd, rfl⟩))
    go_ret2
    exact ⟨rfl, by repeat (first|(with_reducible first|exact HB.out|apply below_alloc|apply pw_below_drewN|apply below_drew1)|exact HB.out)⟩
  | true =>
    rw [if_pos rfl] at H
    obtain ⟨⟨x1, x2, x3⟩, a1, H⟩ := Option.bind_eq_some_iff.mp H
    obtain ⟨⟨y1, y2, y3⟩, a2, H⟩ := Option.bind_eq_some_iff.mp H
    simp only [Option.some.injEq, Prod.mk.injEq] at H
    obtain ⟨HE, rfl⟩ := H
    have AX := Aside0.mk a1
    have AY := Aside0.mk a2
    clear a1 a2
    obtain ⟨cx, hcx⟩ : ∃ z : Int, z = (if x3 = true then (1 : Int) else 0) := ⟨_, rfl⟩
    obtain ⟨cy, hcy⟩ : ∃ z : Int, z = (if y3 = true then (1 : Int) else 0) := ⟨_, rfl⟩
    have HCX := Aside0.mk hcx
    have HCY := Aside0.mk hcy
    have HE2 : Aside0 (r1 = cx + cy) := ⟨by rw [hcx, hcy]; exact HE.symm⟩
    have HBX : Aside0 (0 ≤ cx ∧ cx ≤ 1) := ⟨by rw [hcx]; split <;> omega⟩
    clear HE hcx hcy
    go_enter Try.func46, Try.ntmps46
    go_wp2_with (first
     |(go_at_call 102; (with_reducible refine (spec_jrTwo.calls k A0 c0 l0 A1 c1 l1 true _ ?s1 HC0.out ?s2 HC1.out AT.out).mono ?_);(case s1 => repeat (first|exact (Kd.C_below HR0.out HB.out)|(with_reducible refine Kd.C_alloc ?_ _)|(with_reducible refine Kd.C_drewN ?_ _)|(with_reducible refine Kd.C_drew ?_)));(case s2 => repeat (first|exact (Kd.C_below HR1.out HB.out)|(with_reducible refine Kd.C_alloc ?_ _)|(with_reducible refine Kd.C_drewN ?_ _)|(with_reducible refine Kd.C_drew ?_))); rintro e w' ⟨rfl, nd, rfl⟩)
     |((with_reducible refine gate_dst (N := 18) rfl ?_); refine Kd.R_lit (Kd.raw 1) _ 37 ?hg (N := 18) ?hd (xs := ([[.slice A0 l0.length c0], [.slice A1 l1.length c1]] : List (List Value))) (inner := [.slice A0 l0.length c0, .slice A1 l1.length c1]) (ok := fun _ => True) (okp := fun _ => True) ?hr ?hp (fun _ hk => hk) trivial (Below.refl _ _) (Nat.le_refl _) (by simp) ?_;(case hd => rfl);(case hg => rfl);(case hr => first|(go_simp;done)|(go_simp; rfl));(case hp => exact Reps.one ⟨rfl, rfl, by intro u hu; rw [List.mem_singleton.1 hu]; rfl⟩ (Reps.one ⟨rfl, rfl, by intro u hu; rw [List.mem_singleton.1 hu]; rfl⟩ (Reps.none _ _))); intro v4 w4 ho4 hb hg_ hnew_; clear hg_ hnew_; obtain ⟨gl, cl, el, hgl, hgl2, _⟩ := Kd.R_form ho4 (by simp); subst el; obtain ⟨q0, _, hM0, hq0, _⟩ := Kd.R_elem ho4 [] 0 (by omega) (by simp); obtain ⟨q1, _, hM1, hq1, _⟩ := Kd.R_elem ho4 [] 1 (by omega) (by simp); obtain ⟨rfl, _, _⟩ := hM0; obtain ⟨rfl, _, _⟩ := hM1; have hl0 : w4.cell? ⟨gl, 0, none⟩ = some (.slice A0 l0.length c0) := hq0 0 _ rfl; have hl1 : w4.cell? ⟨gl, 1, none⟩ = some (.slice A1 l1.length c1) := hq1 0 _ rfl; have HL := Aside0.mk (And.intro hl0 hl1); have n0_ := Aside0.mk (below_step (by repeat (first|(with_reducible first|exact HB.out|apply below_alloc|apply pw_below_drewN|apply below_drew1)|exact HB.out)) hb); clear HB; have HB := n0_; clear n0_ ho4 hb hq0 hq1 hgl hgl2))
    clear hl0 hl1
    go_loopg [6, 20] 2 (fun gg v6 v20 wr => ∃ i : Nat, i ≤ 2 ∧ 2 - i ≤ gg ∧ v20 = .int .i64 (i : Int) ∧ v6 = .int .i64 (spec_StatesLeft.cnt cx cy i) ∧ Aside0 (wr.cell? ⟨gl, 0, none⟩ = some (.slice A0 l0.length c0) ∧ wr.cell? ⟨gl, 1, none⟩ = some (.slice A1 l1.length c1)) ∧ Aside0 (Below w.heap.size w wr))
    case atStart => exact ⟨0, by omega, by omega, (by first | rfl|(simp;done)), (by first | rfl|(simp [spec_StatesLeft.cnt];done)), ⟨HL.out⟩, ⟨by repeat (first|(with_reducible first|exact HB.out|apply below_alloc|apply pw_below_drewN|apply below_drew1)|exact HB.out)⟩⟩
    case round =>
      clear HL HB
      try clear p2
      obtain ⟨i, hi, hg, rfl, rfl, HL, HB⟩ := hrel
      obtain ⟨hl0, hl1⟩ := HL.out
      rcases (show i = 0 ∨ i = 1 ∨ i = 2 by omega) with rfl | rfl | rfl
      · by_cases cc : x3 = true
        · have e1 : cx = 1 := by rw [HCX.out]; exact if_pos cc
          have e3 : x3 = true := cc
          have ER := Aside0.mk AX.out
          rw [e3] at ER
          have EC := Aside0.mk e1
          clear e1 cc e3
          simp only [spec_StatesLeft.cnt]
          go_wp2_with (go_at_call 100; (with_reducible refine (spec_jrRead.calls k A0 c0 l0 x1 x2 true _ ?s1 HC0.out ER.out).mono ?_);(case s1 => repeat (first|exact (Kd.C_below HR0.out HB.out)|(with_reducible refine Kd.C_alloc ?_ _)|(with_reducible refine Kd.C_drewN ?_ _)|(with_reducible refine Kd.C_drew ?_))); rintro e w' ⟨v, rfl, ho, hb⟩; have HB2 := Aside0.mk (below_step HB.out hb); have HL2 := Aside0.mk (And.intro (pw_cell_below hb HL.out.1) (pw_cell_below hb HL.out.2)); clear ho hb hl0 hl1)
          go_roundg 1
          case measure => omega
          case rel => exact ⟨1, by omega, by omega, (by first | rfl|(simp;done) | decide), (by first | rfl|(simp [spec_StatesLeft.cnt, EC.out];done)|(have hbx := HBX.out; simp [spec_StatesLeft.cnt, EC.out]; unfold wrap64; omega)|(simp only [spec_StatesLeft.cnt, EC.out]; rfl)), HL2, HB2⟩
        · have e1 : cx = 0 := by rw [HCX.out]; exact if_neg cc
          have e3 : x3 = false := by simpa using cc
          have ER := Aside0.mk AX.out
          rw [e3] at ER
          have EC := Aside0.mk e1
          clear e1 cc e3
          simp only [spec_StatesLeft.cnt]
          go_wp2_with (go_at_call 100; (with_reducible refine (spec_jrRead.calls k A0 c0 l0 x1 x2 false _ ?s1 HC0.out ER.out).mono ?_);(case s1 => repeat (first|exact (Kd.C_below HR0.out HB.out)|(with_reducible refine Kd.C_alloc ?_ _)|(with_reducible refine Kd.C_drewN ?_ _)|(with_reducible refine Kd.C_drew ?_))); rintro e w' ⟨v, rfl, ho, hb⟩; have HB2 := Aside0.mk (below_step HB.out hb); have HL2 := Aside0.mk (And.intro (pw_cell_below hb HL.out.1) (pw_cell_below hb HL.out.2)); clear ho hb hl0 hl1)
          go_roundg 1
          case measure => omega
          case rel => exact ⟨1, by omega, by omega, (by first | rfl|(simp;done) | decide), (by first | rfl|(simp [spec_StatesLeft.cnt, EC.out];done)|(have hbx := HBX.out; simp [spec_StatesLeft.cnt, EC.out]; unfold wrap64; omega)|(simp only [spec_StatesLeft.cnt, EC.out]; rfl)), HL2, HB2⟩
      · by_cases cc : y3 = true
        · have e1 : cy = 1 := by rw [HCY.out]; exact if_pos cc
          have e3 : y3 = true := cc
          have ER := Aside0.mk AY.out
          rw [e3] at ER
          have EC := Aside0.mk e1
          clear e1 cc e3
          simp only [spec_StatesLeft.cnt]
          go_wp2_with (go_at_call 100; (with_reducible refine (spec_jrRead.calls k A1 c1 l1 y1 y2 true _ ?s1 HC1.out ER.out).mono ?_);(case s1 => repeat (first|exact (Kd.C_below HR1.out HB.out)|(with_reducible refine Kd.C_alloc ?_ _)|(with_reducible refine Kd.C_drewN ?_ _)|(with_reducible refine Kd.C_drew ?_))); rintro e w' ⟨v, rfl, ho, hb⟩; have HB2 := Aside0.mk (below_step HB.out hb); have HL2 := Aside0.mk (And.intro (pw_cell_below hb HL.out.1) (pw_cell_below hb HL.out.2)); clear ho hb hl0 hl1)
          go_roundg 0
          case measure => omega
          case rel => exact ⟨2, by omega, by omega, (by first | rfl|(simp;done) | decide), (by first | rfl|(simp [spec_StatesLeft.cnt, EC.out];done)|(have hbx := HBX.out; simp [spec_StatesLeft.cnt, EC.out]; unfold wrap64; omega)|(simp only [spec_StatesLeft.cnt, EC.out]; rfl)), HL2, HB2⟩
        · have e1 : cy = 0 := by rw [HCY.out]; exact if_neg cc
          have e3 : y3 = false := by simpa using cc
          have ER := Aside0.mk AY.out
          rw [e3] at ER
          have EC := Aside0.mk e1
          clear e1 cc e3
          simp only [spec_StatesLeft.cnt]
          go_wp2_with (go_at_call 100; (with_reducible refine (spec_jrRead.calls k A1 c1 l1 y1 y2 false _ ?s1 HC1.out ER.out).mono ?_);(case s1 => repeat (first|exact (Kd.C_below HR1.out HB.out)|(with_reducible refine Kd.C_alloc ?_ _)|(with_reducible refine Kd.C_drewN ?_ _)|(with_reducible refine Kd.C_drew ?_))); rintro e w' ⟨v, rfl, ho, hb⟩; have HB2 := Aside0.mk (below_step HB.out hb); have HL2 := Aside0.mk (And.intro (pw_cell_below hb HL.out.1) (pw_cell_below hb HL.out.2)); clear ho hb hl0 hl1)
          go_roundg 0
          case measure => omega
          case rel => exact ⟨2, by omega, by omega, (by first | rfl|(simp;done) | decide), (by first | rfl|(simp [spec_StatesLeft.cnt, EC.out];done)|(have hbx := HBX.out; simp [spec_StatesLeft.cnt, EC.out]; unfold wrap64; omega)|(simp only [spec_StatesLeft.cnt, EC.out]; rfl)), HL2, HB2⟩
      · have HE := HE2.out
        clear HE2
        simp only [spec_StatesLeft.cnt] at *
        go_wp2
        go_ret2
        exact ⟨by rw [HE]; rfl, HB.out⟩


end Go.Proofs.Ytlbbkepkincleaa.QFnCrashes
