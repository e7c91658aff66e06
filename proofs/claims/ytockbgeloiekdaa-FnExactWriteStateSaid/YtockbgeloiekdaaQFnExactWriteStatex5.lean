/- Written by a program of this session (the kit's printer, with leaf contracts proved by hand put in): what each Go function computes, and that the call computes it. No condition but those that each theorem names. -/
import Derived.Test.YtockbgeloiekdaaQFnExactWriteStatex0
import Derived.Test.YtockbgeloiekdaaQFnExactWriteStatex3
import Derived.Test.YtockbgeloiekdaaQFnExactWriteStatex4
namespace Go.Proofs.Ytockbgeloiekdaa.QFnExactWriteState
open Go.RowKit Go.Proofs.YtockbgeloiekdaaW.PrintWords Go.Proofs.YtockbgeloiekdaaW.PrintLast Go.Proofs.YtockbgeloiekdaaW.PrintMore
attribute [local go_sem] max2_int min2_int max_two min_two max_three min_three max_four min_four   -- for this text's walks alone
set_option linter.unusedVariables false
set_option linter.unusedSimpArgs false

/-! ### impl_writeSteps: function 58 (by hand: copies of both areas, one of them written step by step) -/
def impl_writeSteps.steps : Nat → List Int → List Int → Int → Int → Option (List Int)
  | 0, _, _, _, _ => none
  | k + 1, x, nx, n, i => if i < n then (if 0 ≤ i then (if i = 0 then (impl_writeSteps.steps k (x.set 0 0) nx n (wrap64 (i + 1))) else (if i < 15 then (impl_writeSteps.steps k (x.set i.toNat (rd nx i)) nx n (wrap64 (i + 1))) else (impl_writeSteps.steps k (x.set 0 (rd nx 0)) nx n (wrap64 (i + 1))))) else none) else (some x)
def impl_writeSteps.f (k : Nat) (l0 : List Int) (l1 : List Int) (l2 : List Int) (a3 : Int) : Option (List Int × List Int × Bool) := (impl_newest.f k l0 l1).bind fun t => (if t.2.1 = 999 then (some ([], [], false)) else (if l0.length = 15 then (if l1.length = 15 then ((impl_areaOf.f (wrap64 (t.2.1 + 1)) l2).bind fun nx => (if t.1 = 0 then ((impl_writeSteps.steps k l1 nx a3 0).bind fun o => (some (l0, o, true))) else ((impl_writeSteps.steps k l0 nx a3 0).bind fun o => (some (o, l1, true))))) else none) else none))
theorem impl_writeSteps.mono_l : ∀ k, (∀ y0 y1 y2 y3, LeO (impl_writeSteps.steps k y0 y1 y2 y3) (impl_writeSteps.steps (k + 1) y0 y1 y2 y3))
  | 0 => fun _ _ _ _ r h => by simp [impl_writeSteps.steps] at h
  | k + 1 => by
    have ih0 := impl_writeSteps.mono_l k
    · intro y0 y1 y2 y3
      unfold impl_writeSteps.steps
      repeat' first
      | (with_reducible exact ih0 _ _ _ _)
      | (with_reducible exact LeO.refl _)
      | (with_reducible exact LeO.none _)
      | (with_reducible refine LeO.ite ?_ ?_)
theorem impl_writeSteps.mono : ∀ a0 a1 a2 a3 k, LeO (impl_writeSteps.f k a0 a1 a2 a3) (impl_writeSteps.f (k + 1) a0 a1 a2 a3) := by
  intro a0 a1 a2 a3 k
  have ih0 := impl_writeSteps.mono_l k
  unfold impl_writeSteps.f
  repeat' first
      | (with_reducible exact ih0 _ _ _ _)
      | (with_reducible exact impl_newest.mono _ _ _)
      | (with_reducible exact LeO.refl _)
      | (with_reducible exact LeO.none _)
      | (with_reducible refine LeO.ite ?_ ?_)
      | (with_reducible refine LeO.bind ?_ (fun _ => ?_))
theorem impl_writeSteps.len15 (a : Int) (l r : List Int) (h : impl_areaOf.f a l = some r) : r.length = 15 := by
  unfold impl_areaOf.f at h
  by_cases c : l.length ≤ 12
  · rw [if_pos c] at h
    obtain rfl := Option.some.inj h
    simp [impl_areaOf.body]; omega
  · rw [if_neg c] at h; cases h
set_option maxHeartbeats 4000000 in
set_option maxRecDepth 100000 in
theorem impl_writeSteps.calls (k : Nat) (A0 : Option Addr) (c0 : Nat) (l0 : List Int) (A1 : Option Addr) (c1 : Nat) (l1 : List Int) (A2 : Option Addr) (c2 : Nat) (l2 : List Int) (a3 : Int) (r1 : List Int) (r2 : List Int) (r3 : Bool) (w : World) (hr0 : Kd.C (Kd.int .i64) w A0 l0.length l0) (hc0 : l0.length ≤ c0) (hr1 : Kd.C (Kd.int .i64) w A1 l1.length l1) (hc1 : l1.length ≤ c1) (hr2 : Kd.C (Kd.int .i64) w A2 l2.length l2) (hc2 : l2.length ≤ c2) (h : impl_writeSteps.f k l0 l1 l2 a3 = some (r1, r2, r3)) :
    Calls Try.prog 58 #[.slice A0 l0.length c0, .slice A1 l1.length c1, .slice A2 l2.length c2, .int .i64 a3] w fun e w' => ∃ v0_ v1_ : Value, e = .returned (.tuple #[v0_, v1_, .bool r3]) ∧ Kd.R (Kd.int .i64) 3 w' w.heap.size (fun k_ => some k_ ≠ (v1_ : Value).ownBlock) v0_ r1 ∧ Kd.R (Kd.int .i64) 3 w' w.heap.size (fun k_ => some k_ ≠ (v0_ : Value).ownBlock) v1_ r2 ∧ Below w.heap.size w w' := by
  have HR0 := Aside0.mk hr0
  have HC0 := Aside0.mk hc0
  have HR1 := Aside0.mk hr1
  have HC1 := Aside0.mk hc1
  have HR2 := Aside0.mk hr2
  have HC2 := Aside0.mk hc2
  clear hr0 hc0 hr1 hc1 hr2 hc2
  have H := Option.bind_eq_some_iff.mp h
  clear h
  obtain ⟨⟨t1, t2, t3⟩, a1, H⟩ := H
  have A1_ := Aside0.mk a1
  clear a1
  dsimp only at H
  by_cases c9 : t2 = 999
  · rw [if_pos c9] at H
    simp only [Option.some.injEq, Prod.mk.injEq] at H
    obtain ⟨rfl, rfl, rfl⟩ := H
    have c9b : (t2 == 999) = true := beq_iff_eq.mpr c9
    clear c9
    go_enter Try.func58, Try.ntmps58
    go_wp2_with (go_at_call 77; refine (impl_newest.calls k A0 c0 l0 A1 c1 l1 t1 t2 t3 _ HR0.out HC0.out HR1.out HC1.out A1_.out).mono ?_; rintro e w1 ⟨v1, rfl, ho, hb⟩; have HB1 := Aside0.mk hb; clear ho hb)
    go_ret3
    exact ⟨_, _, rfl, Kd.R_nil _ _ _ _ _, Kd.R_nil _ _ _ _ _, HB1.out⟩
  · rw [if_neg c9] at H
    have c9b : (t2 == 999) = false := beq_eq_false_iff_ne.mpr c9
    clear c9
    by_cases h0 : l0.length = 15
    · rw [if_pos h0] at H
      by_cases h1 : l1.length = 15
      · rw [if_pos h1] at H
        replace H := Option.bind_eq_some_iff.mp H
        obtain ⟨nx, a2, H⟩ := H
        have hn := impl_writeSteps.len15 _ _ _ a2
        have hcl0 : slices_Clone_int_int.f l0 = some l0 := if_pos (by omega)
        have hcl1 : slices_Clone_int_int.f l1 = some l1 := if_pos (by omega)
        have A2_ := Aside0.mk a2
        have CL0 := Aside0.mk hcl0
        have CL1 := Aside0.mk hcl1
        have H0 := Aside0.mk h0
        have H1 := Aside0.mk h1
        have HN := Aside0.mk hn
        clear a2 hcl0 hcl1 h0 h1 hn
        by_cases c0_ : t1 = 0
        · rw [if_pos c0_] at H
          have c0b : (t1 == 0) = true := beq_iff_eq.mpr c0_
          clear c0_
          replace H := Option.bind_eq_some_iff.mp H
          obtain ⟨o, a4, H⟩ := H
          simp only [Option.some.injEq, Prod.mk.injEq] at H
          obtain ⟨rfl, rfl, rfl⟩ := H
          have A4 := Aside0.mk a4
          clear a4
          go_enter Try.func58, Try.ntmps58
          go_wp2_with (first
            | (go_at_call 77; refine (impl_newest.calls k A0 c0 l0 A1 c1 l1 t1 t2 t3 _ HR0.out HC0.out HR1.out HC1.out A1_.out).mono ?_; rintro e w1 ⟨v1, rfl, ho, hb⟩; have HB1 := Aside0.mk hb; clear ho hb)
            | (go_at_call 63; (with_reducible refine (slices_Clone_int_int.calls A0 c0 l0 l0 _ ?s1 HC0.out CL0.out).mono ?_); (case s1 => exact Kd.C_below HR0.out HB1.out); rintro e w2 ⟨v2, rfl, ho, hb⟩; obtain ⟨Aa, ca, ea⟩ := Kd.R_slice ho; subst ea; have HO2 := Aside0.mk ho; have HB2 := Aside0.mk (below_step HB1.out hb); have GE2 := Aside0.mk (show w.heap.size ≤ w1.heap.size from HB1.out.size); clear ho hb)
            | (go_at_call 63; (with_reducible refine (slices_Clone_int_int.calls A1 c1 l1 l1 _ ?s1 HC1.out CL1.out).mono ?_); (case s1 => exact Kd.C_below HR1.out HB2.out); rintro e w3 ⟨v3, rfl, ho, hb⟩; obtain ⟨Ab, cb, eb⟩ := Kd.R_slice ho; subst eb; have HO3a := Aside0.mk (Kd.R_lower (Kd.R_elder' HO2.out (Kd.R_base ho) hb) GE2.out); have HO3b := Aside0.mk (Kd.R_lower (Kd.R_new' ho (Kd.R_lt HO2.out)) HB2.out.size); have HB3 := Aside0.mk (below_step HB2.out hb); clear ho hb HO2)
            | ((with_reducible refine gate_dst (N := 31) rfl ?_); refine Kd.R_lit (Kd.raw 1) _ 24 ?hg (N := 31) ?hd (xs := ([[.slice Aa l0.length ca], [.slice Ab l1.length cb]] : List (List Value))) (inner := [.slice Aa l0.length ca, .slice Ab l1.length cb]) (ok := fun _ => True) (okp := fun _ => True) ?hr ?hp (fun _ hk => hk) trivial (Below.refl _ _) (Nat.le_refl _) (by simp) ?_; (case hd => rfl); (case hg => rfl); (case hr => first | (go_simp; done) | (go_simp; rfl)); (case hp => exact Reps.one ⟨rfl, rfl, by intro u hu; rw [List.mem_singleton.1 hu]; rfl⟩ (Reps.one ⟨rfl, rfl, by intro u hu; rw [List.mem_singleton.1 hu]; rfl⟩ (Reps.none _ _))); intro v4 w4 ho4 hb hg_ hnew_; clear hg_ hnew_; obtain ⟨gl, cl, el, hgl, hgl2, _⟩ := Kd.R_form ho4 (by simp); subst el; obtain ⟨q0, _, hM0, hq0, _⟩ := Kd.R_elem ho4 [] 0 (by omega) (by simp); obtain ⟨q1, _, hM1, hq1, _⟩ := Kd.R_elem ho4 [] 1 (by omega) (by simp); obtain ⟨rfl, _, _⟩ := hM0; obtain ⟨rfl, _, _⟩ := hM1; have hl0 : w4.cell? ⟨gl, 0, none⟩ = some (.slice Aa l0.length ca) := hq0 0 _ rfl; have hl1 : w4.cell? ⟨gl, 1, none⟩ = some (.slice Ab l1.length cb) := hq1 0 _ rfl; have HL := Aside0.mk (And.intro hl0 hl1); have GL := Aside0.mk hgl; have GL2 := Aside0.mk hgl2; have HO4a := Aside0.mk (Kd.R_below HO3a.out hb); have HO4b := Aside0.mk (Kd.R_below HO3b.out hb); have LTa := Aside0.mk (Kd.R_lt HO3a.out); have LTb := Aside0.mk (Kd.R_lt HO3b.out); have HB4 := Aside0.mk (below_step HB3.out hb); clear HO3a HO3b ho4 hb hq0 hq1 hgl hgl2)
            | (go_at_call 74; (with_reducible refine (impl_areaOf.calls (wrap64 (t2 + 1)) A2 c2 l2 nx _ ?s1 HC2.out A2_.out).mono ?_); (case s1 => exact Kd.C_below HR2.out HB4.out); rintro e w5 ⟨v5, rfl, ho, hb⟩; obtain ⟨An, cn, en⟩ := Kd.R_slice ho; subst en; have HO5a := Aside0.mk (Kd.R_elder' HO4a.out (Kd.R_base ho) hb); have HO5b := Aside0.mk (Kd.R_elder' HO4b.out (Kd.R_base ho) hb); have HO5n := Aside0.mk (Kd.R_lower (Kd.R_new' (Kd.R_new' ho (Kd.R_lt HO4a.out)) (Kd.R_lt HO4b.out)) HB4.out.size); have HL5 := Aside0.mk (And.intro (pw_cell_below hb HL.out.1) (pw_cell_below hb HL.out.2)); have HB5 := Aside0.mk (below_step HB4.out hb); clear ho hb HO4a HO4b))
          obtain ⟨gT, cT, eT, _, _, _⟩ := Kd.R_form HO5b.out (by have := H1.out; omega)
          obtain ⟨rfl, rfl⟩ : Ab = some ⟨gT, 0, none⟩ ∧ cb = cT := by injection eT with e1 e2 e3; exact ⟨e1, e3⟩
          clear eT
          obtain ⟨gN, cN, eN, _, _, _⟩ := Kd.R_form HO5n.out (by have := HN.out; omega)
          obtain ⟨rfl, rfl⟩ : An = some ⟨gN, 0, none⟩ ∧ cn = cN := by injection eN with e1 e2 e3; exact ⟨e1, e3⟩
          clear eN
          have NE : Aside0 (gl ≠ gT) := ⟨by have h1 := LTb.out gT rfl; have h2 := GL.out; omega⟩
          have GT : Aside0 (w.heap.size ≤ gT) := ⟨Kd.R_base HO5b.out gT rfl⟩
          have HT := Aside0.mk (Kd.R_mono (ok' := fun _ => True) HO5b.out (fun _ _ => trivial))
          have HO := Aside0.mk (Kd.R_mono (ok' := fun k_ => k_ ≠ gT) HO5a.out (fun k_ hk e_ => hk.1.2 (by rw [e_]; rfl)))
          have HX := Aside0.mk (Kd.R_mono (ok' := fun k_ => k_ ≠ gT) HO5n.out (fun k_ hk e_ => hk.2 (by rw [e_]; rfl)))
          clear HO5a HO5b HO5n HL
          go_loopg [45] k (fun kq v45 wr => ∃ (x : List Int) (xi : Int), v45 = .int .i64 xi ∧ Aside0 (x.length = 15) ∧ Aside0 (impl_writeSteps.steps kq x nx a3 xi = some o) ∧ Aside0 (kq ≤ k) ∧ Aside0 (Kd.R (Kd.int .i64) 3 wr w.heap.size (fun _ => True) (.slice (some ⟨gT, 0, none⟩) l1.length cb) x) ∧ Aside0 (Kd.R (Kd.int .i64) 3 wr w.heap.size (fun k_ => k_ ≠ gT) (.slice Aa l0.length ca) l0) ∧ Aside0 (Kd.R (Kd.int .i64) 3 wr w.heap.size (fun k_ => k_ ≠ gT) (.slice (some ⟨gN, 0, none⟩) nx.length cn) nx) ∧ Aside0 (wr.cell? ⟨gl, 0, none⟩ = some (.slice Aa l0.length ca) ∧ wr.cell? ⟨gl, 1, none⟩ = some (.slice (some ⟨gT, 0, none⟩) l1.length cb)) ∧ Aside0 (Below w.heap.size w wr))
          case atStart => exact ⟨l1, 0, (by first | rfl | (simp; done) | (simp [*]; done)), H1, A4, ⟨Nat.le_refl _⟩, HT, HO, HX, HL5, HB5⟩
          case round =>
            clear A4 HT HO HX HL5 HB5
            try clear p2
            obtain ⟨x, xi, rfl, HXL, HA, HK1, HT, HO, HX, HL, HB⟩ := hrel
            cases gk with
            | zero => exact absurd HA.out (by simp [impl_writeSteps.steps])
            | succ k1 =>
              have H := HA.out
              clear HA
              simp only [impl_writeSteps.steps] at H
              by_cases c4 : xi < a3
              · rw [if_pos c4] at H
                have c4b : decide (xi < a3) = true := decide_eq_true c4
                clear c4
                by_cases c5 : 0 ≤ xi
                · rw [if_pos c5] at H
                  by_cases c6 : xi = 0
                  · rw [if_pos c6] at H
                    subst c6
                    have H' := Aside0.mk H
                    clear H
                    obtain ⟨hx0, hf0⟩ := Kd.R_celln 0 HT.out (0 : Int) (by omega) (by have := H1.out; omega)
                    have hx1 : wr.cell? ⟨gT, 0, none⟩ = some (.int .i64 (rd x 0)) := hx0
                    have hf1 : wr.frozen? ⟨gT, 0, none⟩ = false := hf0
                    clear hx0 hf0
                    have q1 : (0 : Int) < (l1.length : Int) := by have := H1.out; omega
                    have q2 := eq_true q1
                    go_wp2
                    go_roundg k1
                    case measure => have := HK1.out; omega
                    case rel => exact ⟨x.set 0 0, wrap64 (0 + 1), (by first | rfl | (simp; done) | (simp [*]; done) | (simp; unfold wrap64; omega)), ⟨by rw [List.length_set]; exact HXL.out⟩, H', ⟨by have := HK1.out; omega⟩, ⟨(Kd.R_putg HT.out (0 : Int) 0).1⟩, ⟨Kd.R_far (p := ⟨gT, 0, none⟩) HO.out (fun _ hk => hk) _⟩, ⟨Kd.R_far (p := ⟨gT, 0, none⟩) HX.out (fun _ hk => hk) _⟩, ⟨(World.cell?_of_block (Below.heap_setCell wr ⟨gT, 0, none⟩ _ gl NE.out)).trans HL.out.1, (World.cell?_of_block (Below.heap_setCell wr ⟨gT, 0, none⟩ _ gl NE.out)).trans HL.out.2⟩, ⟨below_set HB.out GT.out⟩⟩
                  · rw [if_neg c6] at H
                    have c6b : (xi == 0) = false := beq_eq_false_iff_ne.mpr c6
                    clear c6
                    by_cases c7 : xi < 15
                    · rw [if_pos c7] at H
                      have H' := Aside0.mk H
                      clear H
                      have q1 : xi < (l1.length : Int) := by have := H1.out; omega
                      have q3 : xi < (nx.length : Int) := by have := HN.out; omega
                      obtain ⟨hx1, hf1⟩ := Kd.R_celln 0 HT.out xi c5 q1
                      obtain ⟨hn1, _⟩ := Kd.R_celln 0 HX.out xi c5 q3
                      have c7b : decide (xi < 15) = true := decide_eq_true c7
                      have q2 := eq_true q1
                      have q4 := eq_true q3
                      have q5 := eq_true c5
                      go_wp2
                      go_roundg k1
                      case measure => have := HK1.out; omega
                      case rel => exact ⟨x.set xi.toNat (rd nx xi), wrap64 (xi + 1), (by first | rfl | (simp; done) | (simp [*]; done) | (simp; unfold wrap64; omega)), ⟨by rw [List.length_set]; exact HXL.out⟩, H', ⟨by have := HK1.out; omega⟩, ⟨(Kd.R_putg HT.out xi (rd nx xi)).1⟩, ⟨Kd.R_far (p := ⟨gT, xi.toNat, none⟩) HO.out (fun _ hk => hk) _⟩, ⟨Kd.R_far (p := ⟨gT, xi.toNat, none⟩) HX.out (fun _ hk => hk) _⟩, ⟨(World.cell?_of_block (Below.heap_setCell wr ⟨gT, xi.toNat, none⟩ _ gl NE.out)).trans HL.out.1, (World.cell?_of_block (Below.heap_setCell wr ⟨gT, xi.toNat, none⟩ _ gl NE.out)).trans HL.out.2⟩, ⟨below_set HB.out GT.out⟩⟩
                    · rw [if_neg c7] at H
                      have H' := Aside0.mk H
                      clear H
                      have c7b : decide (xi < 15) = false := decide_eq_false c7
                      clear c7
                      have q1 : (0 : Int) < (l1.length : Int) := by have := H1.out; omega
                      have q3 : (0 : Int) < (nx.length : Int) := by have := HN.out; omega
                      obtain ⟨hx0, hf0⟩ := Kd.R_celln 0 HT.out (0 : Int) (by omega) q1
                      obtain ⟨hn0, _⟩ := Kd.R_celln 0 HX.out (0 : Int) (by omega) q3
                      have hx1 : wr.cell? ⟨gT, 0, none⟩ = some (.int .i64 (rd x 0)) := hx0
                      have hf1 : wr.frozen? ⟨gT, 0, none⟩ = false := hf0
                      have hn1 : wr.cell? ⟨gN, 0, none⟩ = some (.int .i64 (rd nx 0)) := hn0
                      clear hx0 hf0 hn0
                      have q2 := eq_true q1
                      have q4 := eq_true q3
                      go_wp2
                      go_roundg k1
                      case measure => have := HK1.out; omega
                      case rel => exact ⟨x.set 0 (rd nx 0), wrap64 (xi + 1), (by first | rfl | (simp; done) | (simp [*]; done) | (simp; unfold wrap64; omega)), ⟨by rw [List.length_set]; exact HXL.out⟩, H', ⟨by have := HK1.out; omega⟩, ⟨(Kd.R_putg HT.out (0 : Int) (rd nx 0)).1⟩, ⟨Kd.R_far (p := ⟨gT, 0, none⟩) HO.out (fun _ hk => hk) _⟩, ⟨Kd.R_far (p := ⟨gT, 0, none⟩) HX.out (fun _ hk => hk) _⟩, ⟨(World.cell?_of_block (Below.heap_setCell wr ⟨gT, 0, none⟩ _ gl NE.out)).trans HL.out.1, (World.cell?_of_block (Below.heap_setCell wr ⟨gT, 0, none⟩ _ gl NE.out)).trans HL.out.2⟩, ⟨below_set HB.out GT.out⟩⟩
                · rw [if_neg c5] at H
                  exact absurd H (by simp)
              · rw [if_neg c4] at H
                have c4b : decide (xi < a3) = false := decide_eq_false c4
                clear c4
                obtain rfl := Option.some.inj H
                clear H
                obtain ⟨hl0, hl1⟩ := HL.out
                go_wp2
                go_quiet (fail)
                go_wp2
                go_ret3
                exact ⟨_, _, rfl, Kd.R_drewN (Kd.R_mono (ok' := fun k_ => some k_ ≠ (.slice (some ⟨gT, 0, none⟩) l1.length cb : Value).ownBlock) HO.out (fun k_ hk e_ => hk (Option.some.inj e_))) _, Kd.R_drewN (Kd.R_mono (ok' := fun k_ => some k_ ≠ (.slice Aa l0.length ca : Value).ownBlock) (Kd.R_tight rfl HT.out) (fun k_ hk e_ => HO.out.1 k_ (Eq.symm e_) (Option.some.inj hk))) _, by repeat (first | (with_reducible first | exact HB.out | apply below_alloc | apply pw_below_drewN | apply below_drew1) | exact HB.out)⟩
        · rw [if_neg c0_] at H
          have c0b : (t1 == 0) = false := beq_eq_false_iff_ne.mpr c0_
          clear c0_
          replace H := Option.bind_eq_some_iff.mp H
          obtain ⟨o, a4, H⟩ := H
          simp only [Option.some.injEq, Prod.mk.injEq] at H
          obtain ⟨rfl, rfl, rfl⟩ := H
          have A4 := Aside0.mk a4
          clear a4
          go_enter Try.func58, Try.ntmps58
          go_wp2_with (first
            | (go_at_call 77; refine (impl_newest.calls k A0 c0 l0 A1 c1 l1 t1 t2 t3 _ HR0.out HC0.out HR1.out HC1.out A1_.out).mono ?_; rintro e w1 ⟨v1, rfl, ho, hb⟩; have HB1 := Aside0.mk hb; clear ho hb)
            | (go_at_call 63; (with_reducible refine (slices_Clone_int_int.calls A0 c0 l0 l0 _ ?s1 HC0.out CL0.out).mono ?_); (case s1 => exact Kd.C_below HR0.out HB1.out); rintro e w2 ⟨v2, rfl, ho, hb⟩; obtain ⟨Aa, ca, ea⟩ := Kd.R_slice ho; subst ea; have HO2 := Aside0.mk ho; have HB2 := Aside0.mk (below_step HB1.out hb); have GE2 := Aside0.mk (show w.heap.size ≤ w1.heap.size from HB1.out.size); clear ho hb)
            | (go_at_call 63; (with_reducible refine (slices_Clone_int_int.calls A1 c1 l1 l1 _ ?s1 HC1.out CL1.out).mono ?_); (case s1 => exact Kd.C_below HR1.out HB2.out); rintro e w3 ⟨v3, rfl, ho, hb⟩; obtain ⟨Ab, cb, eb⟩ := Kd.R_slice ho; subst eb; have HO3a := Aside0.mk (Kd.R_lower (Kd.R_elder' HO2.out (Kd.R_base ho) hb) GE2.out); have HO3b := Aside0.mk (Kd.R_lower (Kd.R_new' ho (Kd.R_lt HO2.out)) HB2.out.size); have HB3 := Aside0.mk (below_step HB2.out hb); clear ho hb HO2)
            | ((with_reducible refine gate_dst (N := 31) rfl ?_); refine Kd.R_lit (Kd.raw 1) _ 24 ?hg (N := 31) ?hd (xs := ([[.slice Aa l0.length ca], [.slice Ab l1.length cb]] : List (List Value))) (inner := [.slice Aa l0.length ca, .slice Ab l1.length cb]) (ok := fun _ => True) (okp := fun _ => True) ?hr ?hp (fun _ hk => hk) trivial (Below.refl _ _) (Nat.le_refl _) (by simp) ?_; (case hd => rfl); (case hg => rfl); (case hr => first | (go_simp; done) | (go_simp; rfl)); (case hp => exact Reps.one ⟨rfl, rfl, by intro u hu; rw [List.mem_singleton.1 hu]; rfl⟩ (Reps.one ⟨rfl, rfl, by intro u hu; rw [List.mem_singleton.1 hu]; rfl⟩ (Reps.none _ _))); intro v4 w4 ho4 hb hg_ hnew_; clear hg_ hnew_; obtain ⟨gl, cl, el, hgl, hgl2, _⟩ := Kd.R_form ho4 (by simp); subst el; obtain ⟨q0, _, hM0, hq0, _⟩ := Kd.R_elem ho4 [] 0 (by omega) (by simp); obtain ⟨q1, _, hM1, hq1, _⟩ := Kd.R_elem ho4 [] 1 (by omega) (by simp); obtain ⟨rfl, _, _⟩ := hM0; obtain ⟨rfl, _, _⟩ := hM1; have hl0 : w4.cell? ⟨gl, 0, none⟩ = some (.slice Aa l0.length ca) := hq0 0 _ rfl; have hl1 : w4.cell? ⟨gl, 1, none⟩ = some (.slice Ab l1.length cb) := hq1 0 _ rfl; have HL := Aside0.mk (And.intro hl0 hl1); have GL := Aside0.mk hgl; have GL2 := Aside0.mk hgl2; have HO4a := Aside0.mk (Kd.R_below HO3a.out hb); have HO4b := Aside0.mk (Kd.R_below HO3b.out hb); have LTa := Aside0.mk (Kd.R_lt HO3a.out); have LTb := Aside0.mk (Kd.R_lt HO3b.out); have HB4 := Aside0.mk (below_step HB3.out hb); clear HO3a HO3b ho4 hb hq0 hq1 hgl hgl2)
            | (go_at_call 74; (with_reducible refine (impl_areaOf.calls (wrap64 (t2 + 1)) A2 c2 l2 nx _ ?s1 HC2.out A2_.out).mono ?_); (case s1 => exact Kd.C_below HR2.out HB4.out); rintro e w5 ⟨v5, rfl, ho, hb⟩; obtain ⟨An, cn, en⟩ := Kd.R_slice ho; subst en; have HO5a := Aside0.mk (Kd.R_elder' HO4a.out (Kd.R_base ho) hb); have HO5b := Aside0.mk (Kd.R_elder' HO4b.out (Kd.R_base ho) hb); have HO5n := Aside0.mk (Kd.R_lower (Kd.R_new' (Kd.R_new' ho (Kd.R_lt HO4a.out)) (Kd.R_lt HO4b.out)) HB4.out.size); have HL5 := Aside0.mk (And.intro (pw_cell_below hb HL.out.1) (pw_cell_below hb HL.out.2)); have HB5 := Aside0.mk (below_step HB4.out hb); clear ho hb HO4a HO4b))
          obtain ⟨gT, cT, eT, _, _, _⟩ := Kd.R_form HO5a.out (by have := H0.out; omega)
          obtain ⟨rfl, rfl⟩ : Aa = some ⟨gT, 0, none⟩ ∧ ca = cT := by injection eT with e1 e2 e3; exact ⟨e1, e3⟩
          clear eT
          obtain ⟨gN, cN, eN, _, _, _⟩ := Kd.R_form HO5n.out (by have := HN.out; omega)
          obtain ⟨rfl, rfl⟩ : An = some ⟨gN, 0, none⟩ ∧ cn = cN := by injection eN with e1 e2 e3; exact ⟨e1, e3⟩
          clear eN
          have NE : Aside0 (gl ≠ gT) := ⟨by have h1 := LTa.out gT rfl; have h2 := GL.out; omega⟩
          have GT : Aside0 (w.heap.size ≤ gT) := ⟨Kd.R_base HO5a.out gT rfl⟩
          have HT := Aside0.mk (Kd.R_mono (ok' := fun _ => True) HO5a.out (fun _ _ => trivial))
          have HO := Aside0.mk (Kd.R_mono (ok' := fun k_ => k_ ≠ gT) HO5b.out (fun k_ hk e_ => hk.1.2 (by rw [e_]; rfl)))
          have HX := Aside0.mk (Kd.R_mono (ok' := fun k_ => k_ ≠ gT) HO5n.out (fun k_ hk e_ => hk.1.2 (by rw [e_]; rfl)))
          clear HO5a HO5b HO5n HL
          go_loopg [45] k (fun kq v45 wr => ∃ (x : List Int) (xi : Int), v45 = .int .i64 xi ∧ Aside0 (x.length = 15) ∧ Aside0 (impl_writeSteps.steps kq x nx a3 xi = some o) ∧ Aside0 (kq ≤ k) ∧ Aside0 (Kd.R (Kd.int .i64) 3 wr w.heap.size (fun _ => True) (.slice (some ⟨gT, 0, none⟩) l0.length ca) x) ∧ Aside0 (Kd.R (Kd.int .i64) 3 wr w.heap.size (fun k_ => k_ ≠ gT) (.slice Ab l1.length cb) l1) ∧ Aside0 (Kd.R (Kd.int .i64) 3 wr w.heap.size (fun k_ => k_ ≠ gT) (.slice (some ⟨gN, 0, none⟩) nx.length cn) nx) ∧ Aside0 (wr.cell? ⟨gl, 0, none⟩ = some (.slice (some ⟨gT, 0, none⟩) l0.length ca) ∧ wr.cell? ⟨gl, 1, none⟩ = some (.slice Ab l1.length cb)) ∧ Aside0 (Below w.heap.size w wr))
          case atStart => exact ⟨l0, 0, (by first | rfl | (simp; done) | (simp [*]; done)), H0, A4, ⟨Nat.le_refl _⟩, HT, HO, HX, HL5, HB5⟩
          case round =>
            clear A4 HT HO HX HL5 HB5
            try clear p2
            obtain ⟨x, xi, rfl, HXL, HA, HK1, HT, HO, HX, HL, HB⟩ := hrel
            cases gk with
            | zero => exact absurd HA.out (by simp [impl_writeSteps.steps])
            | succ k1 =>
              have H := HA.out
              clear HA
              simp only [impl_writeSteps.steps] at H
              by_cases c4 : xi < a3
              · rw [if_pos c4] at H
                have c4b : decide (xi < a3) = true := decide_eq_true c4
                clear c4
                by_cases c5 : 0 ≤ xi
                · rw [if_pos c5] at H
                  by_cases c6 : xi = 0
                  · rw [if_pos c6] at H
                    subst c6
                    have H' := Aside0.mk H
                    clear H
                    obtain ⟨hx0, hf0⟩ := Kd.R_celln 0 HT.out (0 : Int) (by omega) (by have := H0.out; omega)
                    have hx1 : wr.cell? ⟨gT, 0, none⟩ = some (.int .i64 (rd x 0)) := hx0
                    have hf1 : wr.frozen? ⟨gT, 0, none⟩ = false := hf0
                    clear hx0 hf0
                    have q1 : (0 : Int) < (l0.length : Int) := by have := H0.out; omega
                    have q2 := eq_true q1
                    go_wp2
                    go_roundg k1
                    case measure => have := HK1.out; omega
                    case rel => exact ⟨x.set 0 0, wrap64 (0 + 1), (by first | rfl | (simp; done) | (simp [*]; done) | (simp; unfold wrap64; omega)), ⟨by rw [List.length_set]; exact HXL.out⟩, H', ⟨by have := HK1.out; omega⟩, ⟨(Kd.R_putg HT.out (0 : Int) 0).1⟩, ⟨Kd.R_far (p := ⟨gT, 0, none⟩) HO.out (fun _ hk => hk) _⟩, ⟨Kd.R_far (p := ⟨gT, 0, none⟩) HX.out (fun _ hk => hk) _⟩, ⟨(World.cell?_of_block (Below.heap_setCell wr ⟨gT, 0, none⟩ _ gl NE.out)).trans HL.out.1, (World.cell?_of_block (Below.heap_setCell wr ⟨gT, 0, none⟩ _ gl NE.out)).trans HL.out.2⟩, ⟨below_set HB.out GT.out⟩⟩
                  · rw [if_neg c6] at H
                    have c6b : (xi == 0) = false := beq_eq_false_iff_ne.mpr c6
                    clear c6
                    by_cases c7 : xi < 15
                    · rw [if_pos c7] at H
                      have H' := Aside0.mk H
                      clear H
                      have q1 : xi < (l0.length : Int) := by have := H0.out; omega
                      have q3 : xi < (nx.length : Int) := by have := HN.out; omega
                      obtain ⟨hx1, hf1⟩ := Kd.R_celln 0 HT.out xi c5 q1
                      obtain ⟨hn1, _⟩ := Kd.R_celln 0 HX.out xi c5 q3
                      have c7b : decide (xi < 15) = true := decide_eq_true c7
                      have q2 := eq_true q1
                      have q4 := eq_true q3
                      have q5 := eq_true c5
                      go_wp2
                      go_roundg k1
                      case measure => have := HK1.out; omega
                      case rel => exact ⟨x.set xi.toNat (rd nx xi), wrap64 (xi + 1), (by first | rfl | (simp; done) | (simp [*]; done) | (simp; unfold wrap64; omega)), ⟨by rw [List.length_set]; exact HXL.out⟩, H', ⟨by have := HK1.out; omega⟩, ⟨(Kd.R_putg HT.out xi (rd nx xi)).1⟩, ⟨Kd.R_far (p := ⟨gT, xi.toNat, none⟩) HO.out (fun _ hk => hk) _⟩, ⟨Kd.R_far (p := ⟨gT, xi.toNat, none⟩) HX.out (fun _ hk => hk) _⟩, ⟨(World.cell?_of_block (Below.heap_setCell wr ⟨gT, xi.toNat, none⟩ _ gl NE.out)).trans HL.out.1, (World.cell?_of_block (Below.heap_setCell wr ⟨gT, xi.toNat, none⟩ _ gl NE.out)).trans HL.out.2⟩, ⟨below_set HB.out GT.out⟩⟩
                    · rw [if_neg c7] at H
                      have H' := Aside0.mk H
                      clear H
                      have c7b : decide (xi < 15) = false := decide_eq_false c7
                      clear c7
                      have q1 : (0 : Int) < (l0.length : Int) := by have := H0.out; omega
                      have q3 : (0 : Int) < (nx.length : Int) := by have := HN.out; omega
                      obtain ⟨hx0, hf0⟩ := Kd.R_celln 0 HT.out (0 : Int) (by omega) q1
                      obtain ⟨hn0, _⟩ := Kd.R_celln 0 HX.out (0 : Int) (by omega) q3
                      have hx1 : wr.cell? ⟨gT, 0, none⟩ = some (.int .i64 (rd x 0)) := hx0
                      have hf1 : wr.frozen? ⟨gT, 0, none⟩ = false := hf0
                      have hn1 : wr.cell? ⟨gN, 0, none⟩ = some (.int .i64 (rd nx 0)) := hn0
                      clear hx0 hf0 hn0
                      have q2 := eq_true q1
                      have q4 := eq_true q3
                      go_wp2
                      go_roundg k1
                      case measure => have := HK1.out; omega
                      case rel => exact ⟨x.set 0 (rd nx 0), wrap64 (xi + 1), (by first | rfl | (simp; done) | (simp [*]; done) | (simp; unfold wrap64; omega)), ⟨by rw [List.length_set]; exact HXL.out⟩, H', ⟨by have := HK1.out; omega⟩, ⟨(Kd.R_putg HT.out (0 : Int) (rd nx 0)).1⟩, ⟨Kd.R_far (p := ⟨gT, 0, none⟩) HO.out (fun _ hk => hk) _⟩, ⟨Kd.R_far (p := ⟨gT, 0, none⟩) HX.out (fun _ hk => hk) _⟩, ⟨(World.cell?_of_block (Below.heap_setCell wr ⟨gT, 0, none⟩ _ gl NE.out)).trans HL.out.1, (World.cell?_of_block (Below.heap_setCell wr ⟨gT, 0, none⟩ _ gl NE.out)).trans HL.out.2⟩, ⟨below_set HB.out GT.out⟩⟩
                · rw [if_neg c5] at H
                  exact absurd H (by simp)
              · rw [if_neg c4] at H
                have c4b : decide (xi < a3) = false := decide_eq_false c4
                clear c4
                obtain rfl := Option.some.inj H
                clear H
                obtain ⟨hl0, hl1⟩ := HL.out
                go_wp2
                go_quiet (fail)
                go_wp2
                go_ret3
                exact ⟨_, _, rfl, Kd.R_drewN (Kd.R_mono (ok' := fun k_ => some k_ ≠ (.slice Ab l1.length cb : Value).ownBlock) (Kd.R_tight rfl HT.out) (fun k_ hk e_ => HO.out.1 k_ (Eq.symm e_) (Option.some.inj hk))) _, Kd.R_drewN (Kd.R_mono (ok' := fun k_ => some k_ ≠ (.slice (some ⟨gT, 0, none⟩) l0.length ca : Value).ownBlock) HO.out (fun k_ hk e_ => hk (Option.some.inj e_))) _, by repeat (first | (with_reducible first | exact HB.out | apply below_alloc | apply pw_below_drewN | apply below_drew1) | exact HB.out)⟩
      · rw [if_neg h1] at H
        exact absurd H (by simp)
    · rw [if_neg h0] at H
      exact absurd H (by simp)


/-! ### impl_CrashAt: function 29 -/
def impl_CrashAt.f (k : Nat) (l0 : List Int) (l1 : List Int) (l2 : List Int) (a3 : Int) : Option (List Int × List Int × Bool) := (impl_isArea.f k l0).bind fun t214 => (if t214 = true then ((impl_isArea.f k l1).bind fun t215 => (if t215 = true then ((impl_IsState.f k l2).bind fun t216 => (if t216 = true then (if a3 < 0 then (some (([] : List Int), ([] : List Int), false)) else (if a3 > 16 then (some (([] : List Int), ([] : List Int), false)) else ((impl_writeSteps.f k l0 l1 l2 a3).bind fun bt217 => (some (bt217.1, bt217.2.1, bt217.2.2))))) else (some (([] : List Int), ([] : List Int), false)))) else (some (([] : List Int), ([] : List Int), false)))) else (some (([] : List Int), ([] : List Int), false)))
theorem impl_CrashAt.mono : ∀ a0 a1 a2 a3 k, LeO (impl_CrashAt.f k a0 a1 a2 a3) (impl_CrashAt.f (k + 1) a0 a1 a2 a3) := by
  intro a0 a1 a2 a3 k
  unfold impl_CrashAt.f
  repeat' first
      | (with_reducible exact impl_IsState.mono _ _)
      | (with_reducible exact impl_isArea.mono _ _)
      | (with_reducible exact impl_writeSteps.mono _ _ _ _ _)
      | (with_reducible exact LeO.refl _)
      | (with_reducible exact LeO.none _)
      | (with_reducible refine LeO.ite ?_ ?_)
      | (with_reducible refine LeO.bind ?_ (fun _ => ?_))
      | exact impl_IsState.mono _ _
      | exact impl_isArea.mono _ _
      | exact impl_writeSteps.mono _ _ _ _ _
      | exact LeO.none _
      | refine LeO.ite ?_ ?_
      | refine LeO.bind ?_ (fun _ => ?_)
set_option maxHeartbeats 8000000 in
set_option maxRecDepth 100000 in
theorem impl_CrashAt.calls (k : Nat) (A0 : Option Addr) (c0 : Nat) (l0 : List Int) (A1 : Option Addr) (c1 : Nat) (l1 : List Int) (A2 : Option Addr) (c2 : Nat) (l2 : List Int) (a3 : Int) (r1 : List Int) (r2 : List Int) (r3 : Bool) (w : World) (hr0 : Kd.C (Kd.int .i64) w A0 l0.length l0) (hc0 : l0.length ≤ c0) (hr1 : Kd.C (Kd.int .i64) w A1 l1.length l1) (hc1 : l1.length ≤ c1) (hr2 : Kd.C (Kd.int .i64) w A2 l2.length l2) (hc2 : l2.length ≤ c2) (h : impl_CrashAt.f k l0 l1 l2 a3 = some (r1, r2, r3)) :
    Calls Try.prog 29 #[.slice A0 l0.length c0, .slice A1 l1.length c1, .slice A2 l2.length c2, .int .i64 a3] w fun e w' => ∃ v0_ v1_ : Value, e = .returned (.tuple #[v0_, v1_, .bool r3]) ∧ Kd.R (Kd.int .i64) 3 w' w.heap.size (fun k_ => some k_ ≠ (v1_ : Value).ownBlock) v0_ r1 ∧ Kd.R (Kd.int .i64) 3 w' w.heap.size (fun k_ => some k_ ≠ (v0_ : Value).ownBlock) v1_ r2 ∧ Below w.heap.size w w' := by
  have HR0 := Aside0.mk hr0
  have HC0 := Aside0.mk hc0
  clear hr0 hc0
  have HR1 := Aside0.mk hr1
  have HC1 := Aside0.mk hc1
  clear hr1 hc1
  have HR2 := Aside0.mk hr2
  have HC2 := Aside0.mk hc2
  clear hr2 hc2
  have HB := Aside0.mk (Below.refl w.heap.size w)
  have H : ((impl_isArea.f k l0).bind fun t214 => (if t214 = true then ((impl_isArea.f k l1).bind fun t215 => (if t215 = true then ((impl_IsState.f k l2).bind fun t216 => (if t216 = true then (if a3 < 0 then (some (([] : List Int), ([] : List Int), false)) else (if a3 > 16 then (some (([] : List Int), ([] : List Int), false)) else ((impl_writeSteps.f k l0 l1 l2 a3).bind fun bt217 => (some (bt217.1, bt217.2.1, bt217.2.2))))) else (some (([] : List Int), ([] : List Int), false)))) else (some (([] : List Int), ([] : List Int), false)))) else (some (([] : List Int), ([] : List Int), false)))) = some (r1, r2, r3) := h
  clear h
  replace H := Option.bind_eq_some_iff.mp H
  obtain ⟨t214, A50, H⟩ := H
  replace H : (if t214 = true then ((impl_isArea.f k l1).bind fun t215 => (if t215 = true then ((impl_IsState.f k l2).bind fun t216 => (if t216 = true then (if a3 < 0 then (some (([] : List Int), ([] : List Int), false)) else (if a3 > 16 then (some (([] : List Int), ([] : List Int), false)) else ((impl_writeSteps.f k l0 l1 l2 a3).bind fun bt217 => (some (bt217.1, bt217.2.1, bt217.2.2))))) else (some (([] : List Int), ([] : List Int), false)))) else (some (([] : List Int), ([] : List Int), false)))) else (some (([] : List Int), ([] : List Int), false))) = some (r1, r2, r3) := H
  have A5 := Aside0.mk A50
  clear A50
  by_cases c6 : t214 = true
  · subst c6
    have H1 : ((impl_isArea.f k l1).bind fun t215 => (if t215 = true then ((impl_IsState.f k l2).bind fun t216 => (if t216 = true then (if a3 < 0 then (some (([] : List Int), ([] : List Int), false)) else (if a3 > 16 then (some (([] : List Int), ([] : List Int), false)) else ((impl_writeSteps.f k l0 l1 l2 a3).bind fun bt217 => (some (bt217.1, bt217.2.1, bt217.2.2))))) else (some (([] : List Int), ([] : List Int), false)))) else (some (([] : List Int), ([] : List Int), false)))) = some (r1, r2, r3) := by rw [if_pos rfl] at H; exact H
    clear H
    have H := H1
    clear H1
    replace H := Option.bind_eq_some_iff.mp H
    obtain ⟨t215, A70, H⟩ := H
    replace H : (if t215 = true then ((impl_IsState.f k l2).bind fun t216 => (if t216 = true then (if a3 < 0 then (some (([] : List Int), ([] : List Int), false)) else (if a3 > 16 then (some (([] : List Int), ([] : List Int), false)) else ((impl_writeSteps.f k l0 l1 l2 a3).bind fun bt217 => (some (bt217.1, bt217.2.1, bt217.2.2))))) else (some (([] : List Int), ([] : List Int), false)))) else (some (([] : List Int), ([] : List Int), false))) = some (r1, r2, r3) := H
    have A7 := Aside0.mk A70
    clear A70
    by_cases c8 : t215 = true
    · subst c8
      have H1 : ((impl_IsState.f k l2).bind fun t216 => (if t216 = true then (if a3 < 0 then (some (([] : List Int), ([] : List Int), false)) else (if a3 > 16 then (some (([] : List Int), ([] : List Int), false)) else ((impl_writeSteps.f k l0 l1 l2 a3).bind fun bt217 => (some (bt217.1, bt217.2.1, bt217.2.2))))) else (some (([] : List Int), ([] : List Int), false)))) = some (r1, r2, r3) := by rw [if_pos rfl] at H; exact H
      clear H
      have H := H1
      clear H1
      replace H := Option.bind_eq_some_iff.mp H
      obtain ⟨t216, A90, H⟩ := H
      replace H : (if t216 = true then (if a3 < 0 then (some (([] : List Int), ([] : List Int), false)) else (if a3 > 16 then (some (([] : List Int), ([] : List Int), false)) else ((impl_writeSteps.f k l0 l1 l2 a3).bind fun bt217 => (some (bt217.1, bt217.2.1, bt217.2.2))))) else (some (([] : List Int), ([] : List Int), false))) = some (r1, r2, r3) := H
      have A9 := Aside0.mk A90
      clear A90
      by_cases c10 : t216 = true
      · subst c10
        have H1 : (if a3 < 0 then (some (([] : List Int), ([] : List Int), false)) else (if a3 > 16 then (some (([] : List Int), ([] : List Int), false)) else ((impl_writeSteps.f k l0 l1 l2 a3).bind fun bt217 => (some (bt217.1, bt217.2.1, bt217.2.2))))) = some (r1, r2, r3) := by rw [if_pos rfl] at H; exact H
        clear H
        have H := H1
        clear H1
        by_cases c11 : a3 < 0
        · rw [if_pos c11] at H
          have c11b0 : decide (a3 < 0) = true := decide_eq_true c11
          clear c11
          simp only [Option.some.injEq, Prod.mk.injEq] at H
          obtain ⟨rfl, rfl, rfl⟩ := H
          go_enter Try.func29, Try.ntmps29
          go_wp2_with (first | ((with_reducible refine gate_callee (f := 52) rfl ?_); refine goesL_ (some 12) rfl rfl Try.func52 (by kernel_rfl) rfl #[.slice A0 l0.length c0] rfl (by (try simp only [List.map_toArray, List.map_cons, List.map_nil]); first | done | rfl | (simp only [List.length_drop, List.length_take]; rfl)) ?_; (with_reducible refine (impl_isArea.calls k _ _ l0 true _ ?side1 ?side2 A5.out).mono ?_); (case side1 => repeat (first | exact HR0.out | (with_reducible refine Kd.C_alloc ?_ _) | (with_reducible refine Kd.C_drewN ?_ _) | (with_reducible refine Kd.C_drew ?_))); (case side2 => exact HC0.out); rintro e w' ⟨rfl, ⟨nd, rfl⟩⟩; refine ⟨_, rfl, ?_⟩) | (go_at_call 52; (with_reducible refine (impl_isArea.calls k _ _ l1 true _ ?side1 ?side2 A7.out).mono ?_); (case side1 => repeat (first | exact HR1.out | (with_reducible refine Kd.C_alloc ?_ _) | (with_reducible refine Kd.C_drewN ?_ _) | (with_reducible refine Kd.C_drew ?_))); (case side2 => exact HC1.out); rintro e w' ⟨rfl, ⟨nd, rfl⟩⟩) | (go_at_call 57; (with_reducible refine (impl_IsState.calls k _ _ l2 true _ ?side1 ?side2 A9.out).mono ?_); (case side1 => repeat (first | exact HR2.out | (with_reducible refine Kd.C_alloc ?_ _) | (with_reducible refine Kd.C_drewN ?_ _) | (with_reducible refine Kd.C_drew ?_))); (case side2 => exact HC2.out); rintro e w' ⟨rfl, ⟨nd, rfl⟩⟩))
          go_ret3
          exact ⟨_, _, by first | rfl | (simp [errW_none, errW_some] <;> rfl) | (simp [*, errW_none, errW_some] <;> rfl), by first | exact Kd.R_nil _ _ _ _ _ | exact Kd.N_nil _ _ _ _ _ | exact Kd.V_nil _ _ _ _ _ | exact Kd.Q_nil _ _ _ _ _ | exact Kd.S_nil _ _ _ _ _, by first | exact Kd.R_nil _ _ _ _ _ | exact Kd.N_nil _ _ _ _ _ | exact Kd.V_nil _ _ _ _ _ | exact Kd.Q_nil _ _ _ _ _ | exact Kd.S_nil _ _ _ _ _, by repeat (first | (with_reducible first | exact HB.out | apply below_alloc | apply pw_below_drewN | apply below_drew1) | exact HB.out)⟩
        · rw [if_neg c11] at H
          have c11b0 : decide (a3 < 0) = false := decide_eq_false c11
          clear c11
          by_cases c12 : a3 > 16
          · rw [if_pos c12] at H
            have c12b0 : decide (16 < a3) = true := decide_eq_true c12
            clear c12
            simp only [Option.some.injEq, Prod.mk.injEq] at H
            obtain ⟨rfl, rfl, rfl⟩ := H
            go_enter Try.func29, Try.ntmps29
            go_wp2_with (first | ((with_reducible refine gate_callee (f := 52) rfl ?_); refine goesL_ (some 12) rfl rfl Try.func52 (by kernel_rfl) rfl #[.slice A0 l0.length c0] rfl (by (try simp only [List.map_toArray, List.map_cons, List.map_nil]); first | done | rfl | (simp only [List.length_drop, List.length_take]; rfl)) ?_; (with_reducible refine (impl_isArea.calls k _ _ l0 true _ ?side1 ?side2 A5.out).mono ?_); (case side1 => repeat (first | exact HR0.out | (with_reducible refine Kd.C_alloc ?_ _) | (with_reducible refine Kd.C_drewN ?_ _) | (with_reducible refine Kd.C_drew ?_))); (case side2 => exact HC0.out); rintro e w' ⟨rfl, ⟨nd, rfl⟩⟩; refine ⟨_, rfl, ?_⟩) | (go_at_call 52; (with_reducible refine (impl_isArea.calls k _ _ l1 true _ ?side1 ?side2 A7.out).mono ?_); (case side1 => repeat (first | exact HR1.out | (with_reducible refine Kd.C_alloc ?_ _) | (with_reducible refine Kd.C_drewN ?_ _) | (with_reducible refine Kd.C_drew ?_))); (case side2 => exact HC1.out); rintro e w' ⟨rfl, ⟨nd, rfl⟩⟩) | (go_at_call 57; (with_reducible refine (impl_IsState.calls k _ _ l2 true _ ?side1 ?side2 A9.out).mono ?_); (case side1 => repeat (first | exact HR2.out | (with_reducible refine Kd.C_alloc ?_ _) | (with_reducible refine Kd.C_drewN ?_ _) | (with_reducible refine Kd.C_drew ?_))); (case side2 => exact HC2.out); rintro e w' ⟨rfl, ⟨nd, rfl⟩⟩))
            go_ret3
            exact ⟨_, _, by first | rfl | (simp [errW_none, errW_some] <;> rfl) | (simp [*, errW_none, errW_some] <;> rfl), by first | exact Kd.R_nil _ _ _ _ _ | exact Kd.N_nil _ _ _ _ _ | exact Kd.V_nil _ _ _ _ _ | exact Kd.Q_nil _ _ _ _ _ | exact Kd.S_nil _ _ _ _ _, by first | exact Kd.R_nil _ _ _ _ _ | exact Kd.N_nil _ _ _ _ _ | exact Kd.V_nil _ _ _ _ _ | exact Kd.Q_nil _ _ _ _ _ | exact Kd.S_nil _ _ _ _ _, by repeat (first | (with_reducible first | exact HB.out | apply below_alloc | apply pw_below_drewN | apply below_drew1) | exact HB.out)⟩
          · rw [if_neg c12] at H
            have c12b0 : decide (16 < a3) = false := decide_eq_false c12
            clear c12
            replace H := Option.bind_eq_some_iff.mp H
            obtain ⟨⟨t217, t218, t219⟩, A130, H⟩ := H
            replace H : (some (t217, t218, t219)) = some (r1, r2, r3) := H
            have A13 := Aside0.mk A130
            clear A130
            simp only [Option.some.injEq, Prod.mk.injEq] at H
            obtain ⟨rfl, rfl, rfl⟩ := H
            go_enter Try.func29, Try.ntmps29
            go_wp2_with (first | ((with_reducible refine gate_callee (f := 52) rfl ?_); refine goesL_ (some 12) rfl rfl Try.func52 (by kernel_rfl) rfl #[.slice A0 l0.length c0] rfl (by (try simp only [List.map_toArray, List.map_cons, List.map_nil]); first | done | rfl | (simp only [List.length_drop, List.length_take]; rfl)) ?_; (with_reducible refine (impl_isArea.calls k _ _ l0 true _ ?side1 ?side2 A5.out).mono ?_); (case side1 => repeat (first | exact HR0.out | (with_reducible refine Kd.C_alloc ?_ _) | (with_reducible refine Kd.C_drewN ?_ _) | (with_reducible refine Kd.C_drew ?_))); (case side2 => exact HC0.out); rintro e w' ⟨rfl, ⟨nd, rfl⟩⟩; refine ⟨_, rfl, ?_⟩) | (go_at_call 52; (with_reducible refine (impl_isArea.calls k _ _ l1 true _ ?side1 ?side2 A7.out).mono ?_); (case side1 => repeat (first | exact HR1.out | (with_reducible refine Kd.C_alloc ?_ _) | (with_reducible refine Kd.C_drewN ?_ _) | (with_reducible refine Kd.C_drew ?_))); (case side2 => exact HC1.out); rintro e w' ⟨rfl, ⟨nd, rfl⟩⟩) | (go_at_call 57; (with_reducible refine (impl_IsState.calls k _ _ l2 true _ ?side1 ?side2 A9.out).mono ?_); (case side1 => repeat (first | exact HR2.out | (with_reducible refine Kd.C_alloc ?_ _) | (with_reducible refine Kd.C_drewN ?_ _) | (with_reducible refine Kd.C_drew ?_))); (case side2 => exact HC2.out); rintro e w' ⟨rfl, ⟨nd, rfl⟩⟩) | ((with_reducible refine gate_callee (f := 58) rfl ?_); refine goesL_ (some 36) rfl rfl Try.func58 (by kernel_rfl) rfl #[.slice A0 l0.length c0, .slice A1 l1.length c1, .slice A2 l2.length c2, .int .i64 a3] rfl (by (try simp only [List.map_toArray, List.map_cons, List.map_nil]); first | done | rfl | (simp only [List.length_drop, List.length_take]; rfl)) ?_; (with_reducible refine (impl_writeSteps.calls k _ _ l0 _ _ l1 _ _ l2 a3 t217 t218 t219 _ ?side1 ?side2 ?side3 ?side4 ?side5 ?side6 A13.out).mono ?_); (case side1 => repeat (first | exact HR0.out | (with_reducible refine Kd.C_alloc ?_ _) | (with_reducible refine Kd.C_drewN ?_ _) | (with_reducible refine Kd.C_drew ?_))); (case side2 => exact HC0.out); (case side3 => repeat (first | exact HR1.out | (with_reducible refine Kd.C_alloc ?_ _) | (with_reducible refine Kd.C_drewN ?_ _) | (with_reducible refine Kd.C_drew ?_))); (case side4 => exact HC1.out); (case side5 => repeat (first | exact HR2.out | (with_reducible refine Kd.C_alloc ?_ _) | (with_reducible refine Kd.C_drewN ?_ _) | (with_reducible refine Kd.C_drew ?_))); (case side6 => exact HC2.out); rintro e w14 ⟨v220, v222, rfl, ho0, ho1, hb⟩; refine ⟨_, rfl, ?_⟩; have n0_ := Aside0.mk (Kd.R_lower ho0 (below_size (by repeat (first | (with_reducible first | exact HB.out | apply below_alloc | apply pw_below_drewN | apply below_drew1) | exact HB.out)))); have n1_ := Aside0.mk (Kd.R_lower ho1 (below_size (by repeat (first | (with_reducible first | exact HB.out | apply below_alloc | apply pw_below_drewN | apply below_drew1) | exact HB.out)))); have n2_ := Aside0.mk (below_step (by repeat (first | (with_reducible first | exact HB.out | apply below_alloc | apply pw_below_drewN | apply below_drew1) | exact HB.out)) hb); clear HB; have HO221 := n0_; have HO223 := n1_; have HB := n2_; clear n0_ n1_ n2_; (try clear hb); (try clear hb2); (try clear hk); (try clear hi); (try clear ho0); (try clear ho1)))
            go_ret3
            exact ⟨_, _, by first | rfl | (simp [errW_none, errW_some] <;> rfl) | (simp [*, errW_none, errW_some] <;> rfl), by (with_reducible repeat (first | apply Kd.R_alloc | apply Kd.R_drewN | apply Kd.R_drew)); exact HO221.out, by (with_reducible repeat (first | apply Kd.R_alloc | apply Kd.R_drewN | apply Kd.R_drew)); exact HO223.out, by repeat (first | (with_reducible first | exact HB.out | apply below_alloc | apply pw_below_drewN | apply below_drew1) | exact HB.out)⟩
      · replace c10 := Bool.eq_false_iff.mpr c10
        subst c10
        have H1 : (some (([] : List Int), ([] : List Int), false)) = some (r1, r2, r3) := by rw [if_neg (show ¬ (false = true) by decide)] at H; exact H
        clear H
        have H := H1
        clear H1
        simp only [Option.some.injEq, Prod.mk.injEq] at H
        obtain ⟨rfl, rfl, rfl⟩ := H
        go_enter Try.func29, Try.ntmps29
        go_wp2_with (first | ((with_reducible refine gate_callee (f := 52) rfl ?_); refine goesL_ (some 12) rfl rfl Try.func52 (by kernel_rfl) rfl #[.slice A0 l0.length c0] rfl (by (try simp only [List.map_toArray, List.map_cons, List.map_nil]); first | done | rfl | (simp only [List.length_drop, List.length_take]; rfl)) ?_; (with_reducible refine (impl_isArea.calls k _ _ l0 true _ ?side1 ?side2 A5.out).mono ?_); (case side1 => repeat (first | exact HR0.out | (with_reducible refine Kd.C_alloc ?_ _) | (with_reducible refine Kd.C_drewN ?_ _) | (with_reducible refine Kd.C_drew ?_))); (case side2 => exact HC0.out); rintro e w' ⟨rfl, ⟨nd, rfl⟩⟩; refine ⟨_, rfl, ?_⟩) | (go_at_call 52; (with_reducible refine (impl_isArea.calls k _ _ l1 true _ ?side1 ?side2 A7.out).mono ?_); (case side1 => repeat (first | exact HR1.out | (with_reducible refine Kd.C_alloc ?_ _) | (with_reducible refine Kd.C_drewN ?_ _) | (with_reducible refine Kd.C_drew ?_))); (case side2 => exact HC1.out); rintro e w' ⟨rfl, ⟨nd, rfl⟩⟩) | (go_at_call 57; (with_reducible refine (impl_IsState.calls k _ _ l2 false _ ?side1 ?side2 A9.out).mono ?_); (case side1 => repeat (first | exact HR2.out | (with_reducible refine Kd.C_alloc ?_ _) | (with_reducible refine Kd.C_drewN ?_ _) | (with_reducible refine Kd.C_drew ?_))); (case side2 => exact HC2.out); rintro e w' ⟨rfl, ⟨nd, rfl⟩⟩))
        go_ret3
        exact ⟨_, _, by first | rfl | (simp [errW_none, errW_some] <;> rfl) | (simp [*, errW_none, errW_some] <;> rfl), by first | exact Kd.R_nil _ _ _ _ _ | exact Kd.N_nil _ _ _ _ _ | exact Kd.V_nil _ _ _ _ _ | exact Kd.Q_nil _ _ _ _ _ | exact Kd.S_nil _ _ _ _ _, by first | exact Kd.R_nil _ _ _ _ _ | exact Kd.N_nil _ _ _ _ _ | exact Kd.V_nil _ _ _ _ _ | exact Kd.Q_nil _ _ _ _ _ | exact Kd.S_nil _ _ _ _ _, by repeat (first | (with_reducible first | exact HB.out | apply below_alloc | apply pw_below_drewN | apply below_drew1) | exact HB.out)⟩
    · replace c8 := Bool.eq_false_iff.mpr c8
      subst c8
      have H1 : (some (([] : List Int), ([] : List Int), false)) = some (r1, r2, r3) := by rw [if_neg (show ¬ (false = true) by decide)] at H; exact H
      clear H
      have H := H1
      clear H1
      simp only [Option.some.injEq, Prod.mk.injEq] at H
      obtain ⟨rfl, rfl, rfl⟩ := H
      go_enter Try.func29, Try.ntmps29
      go_wp2_with (first | ((with_reducible refine gate_callee (f := 52) rfl ?_); refine goesL_ (some 12) rfl rfl Try.func52 (by kernel_rfl) rfl #[.slice A0 l0.length c0] rfl (by (try simp only [List.map_toArray, List.map_cons, List.map_nil]); first | done | rfl | (simp only [List.length_drop, List.length_take]; rfl)) ?_; (with_reducible refine (impl_isArea.calls k _ _ l0 true _ ?side1 ?side2 A5.out).mono ?_); (case side1 => repeat (first | exact HR0.out | (with_reducible refine Kd.C_alloc ?_ _) | (with_reducible refine Kd.C_drewN ?_ _) | (with_reducible refine Kd.C_drew ?_))); (case side2 => exact HC0.out); rintro e w' ⟨rfl, ⟨nd, rfl⟩⟩; refine ⟨_, rfl, ?_⟩) | (go_at_call 52; (with_reducible refine (impl_isArea.calls k _ _ l1 false _ ?side1 ?side2 A7.out).mono ?_); (case side1 => repeat (first | exact HR1.out | (with_reducible refine Kd.C_alloc ?_ _) | (with_reducible refine Kd.C_drewN ?_ _) | (with_reducible refine Kd.C_drew ?_))); (case side2 => exact HC1.out); rintro e w' ⟨rfl, ⟨nd, rfl⟩⟩))
      go_ret3
      exact ⟨_, _, by first | rfl | (simp [errW_none, errW_some] <;> rfl) | (simp [*, errW_none, errW_some] <;> rfl), by first | exact Kd.R_nil _ _ _ _ _ | exact Kd.N_nil _ _ _ _ _ | exact Kd.V_nil _ _ _ _ _ | exact Kd.Q_nil _ _ _ _ _ | exact Kd.S_nil _ _ _ _ _, by first | exact Kd.R_nil _ _ _ _ _ | exact Kd.N_nil _ _ _ _ _ | exact Kd.V_nil _ _ _ _ _ | exact Kd.Q_nil _ _ _ _ _ | exact Kd.S_nil _ _ _ _ _, by repeat (first | (with_reducible first | exact HB.out | apply below_alloc | apply pw_below_drewN | apply below_drew1) | exact HB.out)⟩
  · replace c6 := Bool.eq_false_iff.mpr c6
    subst c6
    have H1 : (some (([] : List Int), ([] : List Int), false)) = some (r1, r2, r3) := by rw [if_neg (show ¬ (false = true) by decide)] at H; exact H
    clear H
    have H := H1
    clear H1
    simp only [Option.some.injEq, Prod.mk.injEq] at H
    obtain ⟨rfl, rfl, rfl⟩ := H
    go_enter Try.func29, Try.ntmps29
    go_wp2_with (first | ((with_reducible refine gate_callee (f := 52) rfl ?_); refine goesL_ (some 12) rfl rfl Try.func52 (by kernel_rfl) rfl #[.slice A0 l0.length c0] rfl (by (try simp only [List.map_toArray, List.map_cons, List.map_nil]); first | done | rfl | (simp only [List.length_drop, List.length_take]; rfl)) ?_; (with_reducible refine (impl_isArea.calls k _ _ l0 false _ ?side1 ?side2 A5.out).mono ?_); (case side1 => repeat (first | exact HR0.out | (with_reducible refine Kd.C_alloc ?_ _) | (with_reducible refine Kd.C_drewN ?_ _) | (with_reducible refine Kd.C_drew ?_))); (case side2 => exact HC0.out); rintro e w' ⟨rfl, ⟨nd, rfl⟩⟩; refine ⟨_, rfl, ?_⟩))
    go_ret3
    exact ⟨_, _, by first | rfl | (simp [errW_none, errW_some] <;> rfl) | (simp [*, errW_none, errW_some] <;> rfl), by first | exact Kd.R_nil _ _ _ _ _ | exact Kd.N_nil _ _ _ _ _ | exact Kd.V_nil _ _ _ _ _ | exact Kd.Q_nil _ _ _ _ _ | exact Kd.S_nil _ _ _ _ _, by first | exact Kd.R_nil _ _ _ _ _ | exact Kd.N_nil _ _ _ _ _ | exact Kd.V_nil _ _ _ _ _ | exact Kd.Q_nil _ _ _ _ _ | exact Kd.S_nil _ _ _ _ _, by repeat (first | (with_reducible first | exact HB.out | apply below_alloc | apply pw_below_drewN | apply below_drew1) | exact HB.out)⟩

/-! ### impl_WriteState: function 31 -/
def impl_WriteState.f (k : Nat) (l0 : List Int) (l1 : List Int) (l2 : List Int) : Option (List Int × List Int × Bool) := (impl_CrashAt.f k l0 l1 l2 16).bind fun bt224 => (some (bt224.1, bt224.2.1, bt224.2.2))
theorem impl_WriteState.mono : ∀ a0 a1 a2 k, LeO (impl_WriteState.f k a0 a1 a2) (impl_WriteState.f (k + 1) a0 a1 a2) := by
  intro a0 a1 a2 k
  unfold impl_WriteState.f
  repeat' first
      | (with_reducible exact impl_CrashAt.mono _ _ _ _ _)
      | (with_reducible exact LeO.refl _)
      | (with_reducible exact LeO.none _)
      | (with_reducible refine LeO.ite ?_ ?_)
      | (with_reducible refine LeO.bind ?_ (fun _ => ?_))
      | exact impl_CrashAt.mono _ _ _ _ _
      | exact LeO.none _
      | refine LeO.ite ?_ ?_
      | refine LeO.bind ?_ (fun _ => ?_)
set_option maxHeartbeats 8000000 in
set_option maxRecDepth 100000 in
theorem impl_WriteState.calls (k : Nat) (A0 : Option Addr) (c0 : Nat) (l0 : List Int) (A1 : Option Addr) (c1 : Nat) (l1 : List Int) (A2 : Option Addr) (c2 : Nat) (l2 : List Int) (r1 : List Int) (r2 : List Int) (r3 : Bool) (w : World) (hr0 : Kd.C (Kd.int .i64) w A0 l0.length l0) (hc0 : l0.length ≤ c0) (hr1 : Kd.C (Kd.int .i64) w A1 l1.length l1) (hc1 : l1.length ≤ c1) (hr2 : Kd.C (Kd.int .i64) w A2 l2.length l2) (hc2 : l2.length ≤ c2) (h : impl_WriteState.f k l0 l1 l2 = some (r1, r2, r3)) :
    Calls Try.prog 31 #[.slice A0 l0.length c0, .slice A1 l1.length c1, .slice A2 l2.length c2] w fun e w' => ∃ v0_ v1_ : Value, e = .returned (.tuple #[v0_, v1_, .bool r3]) ∧ Kd.R (Kd.int .i64) 3 w' w.heap.size (fun k_ => some k_ ≠ (v1_ : Value).ownBlock) v0_ r1 ∧ Kd.R (Kd.int .i64) 3 w' w.heap.size (fun k_ => some k_ ≠ (v0_ : Value).ownBlock) v1_ r2 ∧ Below w.heap.size w w' := by
  have HR0 := Aside0.mk hr0
  have HC0 := Aside0.mk hc0
  clear hr0 hc0
  have HR1 := Aside0.mk hr1
  have HC1 := Aside0.mk hc1
  clear hr1 hc1
  have HR2 := Aside0.mk hr2
  have HC2 := Aside0.mk hc2
  clear hr2 hc2
  have HB := Aside0.mk (Below.refl w.heap.size w)
  have H : ((impl_CrashAt.f k l0 l1 l2 16).bind fun bt224 => (some (bt224.1, bt224.2.1, bt224.2.2))) = some (r1, r2, r3) := h
  clear h
  replace H := Option.bind_eq_some_iff.mp H
  obtain ⟨⟨t224, t225, t226⟩, A40, H⟩ := H
  replace H : (some (t224, t225, t226)) = some (r1, r2, r3) := H
  have A4 := Aside0.mk A40
  clear A40
  simp only [Option.some.injEq, Prod.mk.injEq] at H
  obtain ⟨rfl, rfl, rfl⟩ := H
  go_enter Try.func31, Try.ntmps31
  go_wp2_with (first | ((with_reducible refine gate_callee (f := 29) rfl ?_); refine goesL_ (some 12) rfl rfl Try.func29 (by kernel_rfl) rfl #[.slice A0 l0.length c0, .slice A1 l1.length c1, .slice A2 l2.length c2, .int .i64 16] rfl (by (try simp only [List.map_toArray, List.map_cons, List.map_nil]); first | done | rfl | (simp only [List.length_drop, List.length_take]; rfl)) ?_; (with_reducible refine (impl_CrashAt.calls k _ _ l0 _ _ l1 _ _ l2 16 t224 t225 t226 _ ?side1 ?side2 ?side3 ?side4 ?side5 ?side6 A4.out).mono ?_); (case side1 => repeat (first | exact HR0.out | (with_reducible refine Kd.C_alloc ?_ _) | (with_reducible refine Kd.C_drewN ?_ _) | (with_reducible refine Kd.C_drew ?_))); (case side2 => exact HC0.out); (case side3 => repeat (first | exact HR1.out | (with_reducible refine Kd.C_alloc ?_ _) | (with_reducible refine Kd.C_drewN ?_ _) | (with_reducible refine Kd.C_drew ?_))); (case side4 => exact HC1.out); (case side5 => repeat (first | exact HR2.out | (with_reducible refine Kd.C_alloc ?_ _) | (with_reducible refine Kd.C_drewN ?_ _) | (with_reducible refine Kd.C_drew ?_))); (case side6 => exact HC2.out); rintro e w5 ⟨v227, v229, rfl, ho0, ho1, hb⟩; refine ⟨_, rfl, ?_⟩; have n0_ := Aside0.mk (Kd.R_lower ho0 (below_size (by repeat (first | (with_reducible first | exact HB.out | apply below_alloc | apply pw_below_drewN | apply below_drew1) | exact HB.out)))); have n1_ := Aside0.mk (Kd.R_lower ho1 (below_size (by repeat (first | (with_reducible first | exact HB.out | apply below_alloc | apply pw_below_drewN | apply below_drew1) | exact HB.out)))); have n2_ := Aside0.mk (below_step (by repeat (first | (with_reducible first | exact HB.out | apply below_alloc | apply pw_below_drewN | apply below_drew1) | exact HB.out)) hb); clear HB; have HO228 := n0_; have HO230 := n1_; have HB := n2_; clear n0_ n1_ n2_; (try clear hb); (try clear hb2); (try clear hk); (try clear hi); (try clear ho0); (try clear ho1)))
  go_ret3
  exact ⟨_, _, by first | rfl | (simp [errW_none, errW_some] <;> rfl) | (simp [*, errW_none, errW_some] <;> rfl), by (with_reducible repeat (first | apply Kd.R_alloc | apply Kd.R_drewN | apply Kd.R_drew)); exact HO228.out, by (with_reducible repeat (first | apply Kd.R_alloc | apply Kd.R_drewN | apply Kd.R_drew)); exact HO230.out, by repeat (first | (with_reducible first | exact HB.out | apply below_alloc | apply pw_below_drewN | apply below_drew1) | exact HB.out)⟩

end Go.Proofs.Ytockbgeloiekdaa.QFnExactWriteState
