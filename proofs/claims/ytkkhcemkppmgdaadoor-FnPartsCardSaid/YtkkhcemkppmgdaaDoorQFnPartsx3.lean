/- Written by a program of this session (the kit's printer, with leaf contracts proved by hand put in): what each Go function computes, and that the call computes it. No condition but those that each theorem names. -/
import Derived.Test.YtkkhcemkppmgdaaDoorQFnPartsx0
import Derived.Test.YtkkhcemkppmgdaaDoorQFnPartsx2
namespace Go.Proofs.YtkkhcemkppmgdaaDoor.QFnParts
open Go.RowKit Go.Proofs.YtkkhcemkppmgdaaDoorW.PrintWords Go.Proofs.YtkkhcemkppmgdaaDoorW.PrintLast Go.Proofs.YtkkhcemkppmgdaaDoorW.PrintMore
attribute [local go_sem] max2_int min2_int max_two min_two max_three min_three max_four min_four   -- for this text's walks alone
set_option linter.unusedVariables false
set_option linter.unusedSimpArgs false

/-! ### spec_l1Cur_parts: function 79 -/
mutual
def spec_l1Cur_parts.j0 : Nat → Int → List (S93) → Int → List Int → Int → Int → Option ((List (S93)) × Int × Int)
 | 0, _, _, _, _, _, _ => none
 | k + 1, x1, x5, x6, x1000, x1001, x1002 => spec_l1Cur_parts.l0 k x1 x5 x6 x1000 x1001 x1002
def spec_l1Cur_parts.l0 : Nat → Int → List (S93) → Int → List Int → Int → Int → Option ((List (S93)) × Int × Int)
 | 0, _, _, _, _, _, _ => none
 | k + 1, x1, x5, x6, x1000, x1001, x1002 => if (x5.length : Int) < x6 then ((spec_l1Cur_splicePart.f x1000 x1001 x1002 x1).bind fun bt146 => (if (x5.length : Int) > 0 then ((spec_l1Cur_one.f x1000 bt146.2.2.2.1 bt146.2.2.2.2 4).bind fun bt152 => (if bt152.1 = true then (if 0 ≤ (wrap64 ((x5.length : Int) - 1)) then (if (wrap64 ((x5.length : Int) - 1)) < (x5.length : Int) then ((spec_l1Cur_pick.f x1000 bt152.2.1 bt152.2.2 9).bind fun bt157 => (if x5.length < 5864062014805 then (spec_l1Cur_parts.l0 k x1 (x5 ++ [(⟨(rd_T93 x5 (wrap64 ((x5.length : Int) - 1))).f0, (rd_T93 x5 (wrap64 ((x5.length : Int) - 1))).f2, wrap64 ((wrap64 (((rd_T93 x5 (wrap64 ((x5.length : Int) - 1))).f2) + 1)) + bt157.1)⟩ : S93)]) x6 x1000 bt157.2.1 bt157.2.2) else (none))) else (none)) else (none)) else (if x5.length < 5864062014805 then (spec_l1Cur_parts.l0 k x1 (x5 ++ [(⟨bt146.1, bt146.2.1, bt146.2.2.1⟩ : S93)]) x6 x1000 bt152.2.1 bt152.2.2) else (none)))) else (if x5.length < 5864062014805 then (spec_l1Cur_parts.l0 k x1 (x5 ++ [(⟨bt146.1, bt146.2.1, bt146.2.2.1⟩ : S93)]) x6 x1000 bt146.2.2.2.1 bt146.2.2.2.2) else (none)))) else (if (x5.length : Int) > 0 then ((spec_l1Cur_pick.f x1000 x1001 x1002 (x5.length : Int)).bind fun bt169 => (if 0 ≤ bt169.1 then (if bt169.1 < (x5.length : Int) then ((spec_l1Cur_pick.f x1000 bt169.2.1 bt169.2.2 30).bind fun bt172 => (if bt172.1 = 0 then ((spec_l1Cur_among.f x1000 bt172.2.1 bt172.2.2 (([(-1), 3, 4] : List Int))).bind fun bt178 => (some ((x5.set (bt169.1 : Int).toNat (⟨bt178.1, (rd_T93 x5 bt169.1).f1, (rd_T93 x5 bt169.1).f2⟩ : S93)), bt178.2.1, bt178.2.2))) else (if bt172.1 = 1 then ((spec_l1Cur_among.f x1000 bt172.2.1 bt172.2.2 (([(-1), (rd_T93 x5 bt169.1).f2] : List Int))).bind fun bt185 => (some ((x5.set (bt169.1 : Int).toNat (⟨(rd_T93 x5 bt169.1).f0, bt185.1, (rd_T93 x5 bt169.1).f2⟩ : S93)), bt185.2.1, bt185.2.2))) else (if bt172.1 = 2 then ((spec_l1Cur_among.f x1000 bt172.2.1 bt172.2.2 (([(rd_T93 x5 bt169.1).f1, 2000, 2001] : List Int))).bind fun bt192 => (some ((x5.set (bt169.1 : Int).toNat (⟨(rd_T93 x5 bt169.1).f0, (rd_T93 x5 bt169.1).f1, bt192.1⟩ : S93)), bt192.2.1, bt192.2.2))) else (if bt172.1 = 3 then ((spec_l1Cur_pick.f x1000 bt172.2.1 bt172.2.2 2).bind fun bt196 => (some ((([(⟨0, 0, 1000⟩ : S93), (⟨0, 500, wrap64 (1500 + bt196.1)⟩ : S93)] : List (S93))), bt196.2.1, bt196.2.2))) else (some (x5, bt172.2.1, bt172.2.2))))))) else (none)) else (none))) else (some (x5, x1001, x1002)))
end
def spec_l1Cur_parts.f (k : Nat) (s0_0 : List Int) (s0_1 : Int) (s0_2 : Int) (a1 : Int) : Option ((List (S93)) × Int × Int) := (spec_l1Cur_pick.f s0_0 s0_1 s0_2 6).bind fun bt137 => ((spec_l1Cur_one.f s0_0 bt137.2.1 bt137.2.2 20).bind fun bt140 => (if bt140.1 = true then ((spec_l1Cur_pick.f s0_0 bt140.2.1 bt140.2.2 2).bind fun bt143 => (spec_l1Cur_parts.j0 k a1 ([] : List (S93)) (wrap64 (12 + bt143.1)) s0_0 bt143.2.1 bt143.2.2)) else (spec_l1Cur_parts.j0 k a1 ([] : List (S93)) bt137.1 s0_0 bt140.2.1 bt140.2.2)))
theorem spec_l1Cur_parts.mono_l : ∀ k, (∀ y0 y1 y2 y3 y4 y5, LeO (spec_l1Cur_parts.j0 k y0 y1 y2 y3 y4 y5) (spec_l1Cur_parts.j0 (k + 1) y0 y1 y2 y3 y4 y5)) ∧ (∀ y0 y1 y2 y3 y4 y5, LeO (spec_l1Cur_parts.l0 k y0 y1 y2 y3 y4 y5) (spec_l1Cur_parts.l0 (k + 1) y0 y1 y2 y3 y4 y5))
 | 0 => ⟨fun _ _ _ _ _ _ r h => by simp [spec_l1Cur_parts.j0] at h, fun _ _ _ _ _ _ r h => by simp [spec_l1Cur_parts.l0] at h⟩
 | k + 1 => by
  obtain ⟨ih0, ih1⟩ := spec_l1Cur_parts.mono_l k
  refine ⟨?_, ?_⟩
  ·intro y0 y1 y2 y3 y4 y5
   unfold spec_l1Cur_parts.j0
   repeat' first
   |(with_reducible exact ih0 _ _ _ _ _ _)
   |(with_reducible exact ih1 _ _ _ _ _ _)
   |(with_reducible exact LeO.refl _)
   |(with_reducible exact LeO.none _)
   |(with_reducible refine LeO.ite ?_ ?_)
   |(with_reducible refine LeO.bind ?_ (fun _ => ?_))
   |exact ih0 _ _ _ _ _ _
   |exact ih1 _ _ _ _ _ _
   |exact LeO.none _
    | refine LeO.ite ?_ ?_
    | refine LeO.bind ?_ (fun _ => ?_)
  ·intro y0 y1 y2 y3 y4 y5
   unfold spec_l1Cur_parts.l0
   repeat' first
   |(with_reducible exact ih0 _ _ _ _ _ _)
   |(with_reducible exact ih1 _ _ _ _ _ _)
   |(with_reducible exact LeO.refl _)
   |(with_reducible exact LeO.none _)
   |(with_reducible refine LeO.ite ?_ ?_)
   |(with_reducible refine LeO.bind ?_ (fun _ => ?_))
   |exact ih0 _ _ _ _ _ _
   |exact ih1 _ _ _ _ _ _
   |exact LeO.none _
    | refine LeO.ite ?_ ?_
    | refine LeO.bind ?_ (fun _ => ?_)
theorem spec_l1Cur_parts.mono : ∀ a0 a1 a2 a3 k, LeO (spec_l1Cur_parts.f k a0 a1 a2 a3) (spec_l1Cur_parts.f (k + 1) a0 a1 a2 a3) := by
 intro a0 a1 a2 a3 k
 obtain ⟨ih0, ih1⟩ := spec_l1Cur_parts.mono_l k
 unfold spec_l1Cur_parts.f
 repeat' first
  |(with_reducible exact ih0 _ _ _ _ _ _)
  |(with_reducible exact ih1 _ _ _ _ _ _)
  |(with_reducible exact LeO.refl _)
  |(with_reducible exact LeO.none _)
  |(with_reducible refine LeO.ite ?_ ?_)
  |(with_reducible refine LeO.bind ?_ (fun _ => ?_))
  |exact ih0 _ _ _ _ _ _
  |exact ih1 _ _ _ _ _ _
  |exact LeO.none _
   | refine LeO.ite ?_ ?_
   | refine LeO.bind ?_ (fun _ => ?_)
def spec_l1Cur_parts.T9 : Bool × List (List Nat × List Nat) := (true, [([], []), ([0], [0]), ([], []), ([2], [2]), ([], []), ([4], [4]), ([5], [5]), ([], []), ([7], [7]), ([6, 8], [6, 8]), ([1, 3, 9], [1, 3, 9]), ([10, 8, 0, 1, 2, 3, 4, 5, 6, 7, 8, 9, 10], [10])])
def spec_l1Cur_parts.B9 : List Nat := [0, 1, 0, 4, 0, 16, 48, 0, 128, 496, 1023, 2047]
theorem spec_l1Cur_parts.tab9 : rtab .any (opsOf Tryd.f79 9) = spec_l1Cur_parts.T9 := by kernel_rfl
theorem spec_l1Cur_parts.bits9 : waitsOk spec_l1Cur_parts.T9.2 spec_l1Cur_parts.B9 = true := by kernel_rfl
set_option maxHeartbeats 8000000 in
set_option maxRecDepth 100000 in
theorem spec_l1Cur_parts.calls (k : Nat) (g : Nat) (s0_0 : List Int) (s0_1 : Int) (s0_2 : Int) (a1 : Int) (r1 : List (S93)) (r2 : Int) (r3 : Int) (w0 w : World) (hI : IsS66 w0 w g s0_0 s0_1 s0_2) (hB : Below w0.heap.size w0 w) (h : spec_l1Cur_parts.f k s0_0 s0_1 s0_2 a1 = some (r1, r2, r3)) :
 Calls Tryd.prog 79 #[.pointer (some ⟨g, 0, none⟩), .int .i64 a1] w fun e w' => ∃ v0_ : Value, e = .returned (v0_) ∧ Kd.R k93 93 w' w.heap.size (fun _ => True) v0_ r1 ∧ IsS66 w0 w' g s0_0 r2 r3 ∧ Below w0.heap.size w0 w' ∧ KeepBut w w' g none := by
 have hu93 := Tryd.underlying93
 have HI0 := Aside0.mk hI
 have HK := Aside0.mk (KeepBut.refl w g none)
 have HL := Aside0.mk hB.size
 clear hI
 have HW0 := Aside0.mk hB.size
 have HB := Aside0.mk hB
 clear hB
 have H : ((spec_l1Cur_pick.f s0_0 s0_1 s0_2 6).bind fun bt137 => ((spec_l1Cur_one.f s0_0 bt137.2.1 bt137.2.2 20).bind fun bt140 => (if bt140.1 = true then ((spec_l1Cur_pick.f s0_0 bt140.2.1 bt140.2.2 2).bind fun bt143 => (spec_l1Cur_parts.j0 k a1 ([] : List (S93)) (wrap64 (12 + bt143.1)) s0_0 bt143.2.1 bt143.2.2)) else (spec_l1Cur_parts.j0 k a1 ([] : List (S93)) bt137.1 s0_0 bt140.2.1 bt140.2.2)))) = some (r1, r2, r3) := h
 clear h
 replace H := Option.bind_eq_some_iff.mp H
 obtain ⟨⟨t137, t138, t139⟩, A30, H⟩ := H
 try dsimp only at H
 have A3 := Aside0.mk A30
 clear A30
 replace H := Option.bind_eq_some_iff.mp H
 obtain ⟨⟨t140, t141, t142⟩, A40, H⟩ := H
 try dsimp only at H
 have A4 := Aside0.mk A40
 clear A40
 have HC5 := Aside0.mk H
 clear H
 go_enter Tryd.func79, Tryd.ntmps79
 go_upto_if 13 with (first|((with_reducible refine gate_callee (f := 70) rfl ?_); refine goesL_ (some 11) rfl rfl Tryd.func70 (by kernel_rfl) rfl #[.pointer (some ⟨g, 0, none⟩), .int .i64 6] rfl (by (try simp only [List.map_toArray, List.map_cons, List.map_nil]); first | done | rfl|(simp only [List.length_drop, List.length_take]; rfl)) ?_; (with_reducible refine (spec_l1Cur_pick.calls g s0_0 s0_1 s0_2 6 t137 t138 t139 w0 _ ?side1 ?side2 A3.out).mono ?_);(case side1 => exact (a1_ HI0.out));(case side2 => exact (a3_ HI0.out)); rintro e w6 ⟨rfl, hi, hb, hk⟩; refine ⟨_, rfl, ?_⟩; have n0_ := Aside0.mk (KeepBut.trans (a4_) hk (.inl rfl)); have n1_ := Aside0.mk (hb); have n2_ := Aside0.mk (hi); clear HK; clear HB; clear HI0; have HK := n0_; have HB := n1_; have HI0 := n2_; clear n0_ n1_ n2_; (try clear hb); (try clear hb2); (try clear hk); (try clear hi))|((with_reducible refine gate_callee (f := 77) rfl ?_); refine goesL_ (some 13) rfl rfl Tryd.func77 (by kernel_rfl) rfl #[.pointer (some ⟨g, 0, none⟩), .int .i64 20] rfl (by (try simp only [List.map_toArray, List.map_cons, List.map_nil]); first | done | rfl|(simp only [List.length_drop, List.length_take]; rfl)) ?_; (with_reducible refine (spec_l1Cur_one.calls g s0_0 t138 t139 20 t140 t141 t142 w0 _ ?side1 ?side2 A4.out).mono ?_);(case side1 => exact (a1_ HI0.out));(case side2 => exact (a3_ HI0.out)); rintro e w7 ⟨rfl, hi, hb, hk⟩; refine ⟨_, rfl, ?_⟩; have n0_ := Aside0.mk (KeepBut.trans (a4_) hk (.inl rfl)); have n1_ := Aside0.mk (hb); have n2_ := Aside0.mk (hi); clear HK; clear HB; clear HI0; have HK := n0_; have HB := n1_; have HI0 := n2_; clear n0_ n1_ n2_; (try clear hb); (try clear hb2); (try clear hk); (try clear hi)))
 (try simp only [Act.put, List.setIfInBounds_toArray, List.set_cons_zero, List.set_cons_succ])
 go_cut [6] (fun v6 wc => ∃ (kq : Nat) (x6_4 : Int) (x1001_4 : Int) (x1002_4 : Int), v6 = .int .i64 x6_4 ∧ Aside0 (spec_l1Cur_parts.j0 kq a1 ([] : List (S93)) x6_4 s0_0 x1001_4 x1002_4 = some (r1, r2, r3)) ∧ Aside0 (kq ≤ k) ∧ Aside0 (Kd.R k93 93 wc w.heap.size (fun _ => True) (.slice none 0 0) ([] : List (S93))) ∧ Aside0 (IsS66 w0 wc g s0_0 x1001_4 x1002_4) ∧ Aside0 (KeepBut w wc g none) ∧ Aside0 (Below w0.heap.size w0 wc))
 case first =>
  have H := HC5.out
  clear HC5
  by_cases c8 : t140 = true
  ·subst c8
   have H1 : ((spec_l1Cur_pick.f s0_0 t141 t142 2).bind fun bt143 => (spec_l1Cur_parts.j0 k a1 ([] : List (S93)) (wrap64 (12 + bt143.1)) s0_0 bt143.2.1 bt143.2.2)) = some (r1, r2, r3) := by rw [if_pos rfl] at H; exact H
   clear H
   have H := H1
   clear H1
   replace H := Option.bind_eq_some_iff.mp H
   obtain ⟨⟨t143, t144, t145⟩, A90, H⟩ := H
   try dsimp only at H
   have A9 := Aside0.mk A90
   clear A90
   have H' := Aside0.mk H
   clear H
   go_wp2_with (first|((with_reducible refine gate_callee (f := 70) rfl ?_); refine goesL_ (some 15) rfl rfl Tryd.func70 (by kernel_rfl) rfl #[.pointer (some ⟨g, 0, none⟩), .int .i64 2] rfl (by (try simp only [List.map_toArray, List.map_cons, List.map_nil]); first | done | rfl|(simp only [List.length_drop, List.length_take]; rfl)) ?_; (with_reducible refine (spec_l1Cur_pick.calls g s0_0 t141 t142 2 t143 t144 t145 w0 _ ?side1 ?side2 A9.out).mono ?_);(case side1 => exact (a1_ HI0.out));(case side2 => exact (a3_ HI0.out)); rintro e w10 ⟨rfl, hi, hb, hk⟩; refine ⟨_, rfl, ?_⟩; have n0_ := Aside0.mk (KeepBut.trans (a4_) hk (.inl rfl)); have n1_ := Aside0.mk (hb); have n2_ := Aside0.mk (hi); clear HK; clear HB; clear HI0; have HK := n0_; have HB := n1_; have HI0 := n2_; clear n0_ n1_ n2_; (try clear hb); (try clear hb2); (try clear hk); (try clear hi)))
   go_meet
   case rel => exact ⟨_, (wrap64 (12 + t143)), (t144), (t145), (by first | rfl|(simp;done)|(simp [*];done)), H', ⟨by first | omega|exact Nat.le_refl _⟩, ⟨a19_⟩, ⟨(a1_ HI0.out)⟩, ⟨a4_⟩, ⟨(a3_ HI0.out)⟩⟩
  ·replace c8 := Bool.eq_false_iff.mpr c8
   subst c8
   have H1 : (spec_l1Cur_parts.j0 k a1 ([] : List (S93)) t137 s0_0 t141 t142) = some (r1, r2, r3) := by rw [if_neg (show ¬ (false = true) by decide)] at H; exact H
   clear H
   have H := H1
   clear H1
   have H' := Aside0.mk H
   clear H
   go_wp2
   go_meet
   case rel => exact ⟨_, (t137), (t141), (t142), (by first | rfl|(simp;done)|(simp [*];done)), H', ⟨by first | omega|exact Nat.le_refl _⟩, ⟨a19_⟩, ⟨(a1_ HI0.out)⟩, ⟨a4_⟩, ⟨(a3_ HI0.out)⟩⟩
 case rest =>
  clear HC5
  try clear p2
  try clear p6
  try clear c7
  try clear c8
  obtain ⟨kq, x6_4, x1001_4, x1002_4, rfl, HA, HJ4, HO_5, HI0, HK, HB⟩ := hcut
  cases kq with
  | zero => exact absurd HA.out (by simp [spec_l1Cur_parts.j0])
  | succ kj4 =>
   have H := HA.out
   clear HA
   simp only [spec_l1Cur_parts.j0] at H
   have H' := Aside0.mk H
   clear H
   go_wp2
   (try simp only [Act.put, List.setIfInBounds_toArray, List.set_cons_zero, List.set_cons_succ])
   go_loopg [5] kj4 (fun kq v5 w' => ∃ (x5_2 : List (S93)) (x1001_2 : Int) (x1002_2 : Int), Aside0 (spec_l1Cur_parts.l0 kq a1 x5_2 x6_4 s0_0 x1001_2 x1002_2 = some (r1, r2, r3)) ∧ Aside0 (kq ≤ kj4) ∧ Aside0 (Kd.R k93 93 w' w.heap.size (fun _ => True) v5 x5_2) ∧ Aside0 (IsS66 w0 w' g s0_0 x1001_2 x1002_2) ∧ Aside0 (KeepBut w w' g none) ∧ Aside0 (Below w0.heap.size w0 w'))
   case atStart => exact ⟨(([] : List (S93))), (x1001_4), (x1002_4), H', ⟨Nat.le_refl _⟩, ⟨(a2_ HO_5.out)⟩, ⟨(a1_ HI0.out)⟩, ⟨a4_⟩, ⟨(a3_ HI0.out)⟩⟩
   case round =>
    clear H'
    try clear p2
    try clear p6
    try clear c7
    try clear c8
    try clear p2
    try clear p6
    obtain ⟨x5_2, x1001_2, x1002_2, HA, HK2, HO_5, HI0, HK, HB⟩ := hrel
    cases gk with
    | zero => exact absurd HA.out (by simp [spec_l1Cur_parts.l0])
    | succ k2 =>
     have H := HA.out
     clear HA
     simp only [spec_l1Cur_parts.l0] at H
     by_cases c11 : (x5_2.length : Int) < x6_4
     ·rw [if_pos c11] at H
      have c11b0 : decide ((x5_2.length : Int) < x6_4) = true := decide_eq_true c11
      clear c11
      replace H := Option.bind_eq_some_iff.mp H
      obtain ⟨⟨t146, t147, t148, t149, t150⟩, A120, H⟩ := H
      try dsimp only at H
      have A12 := Aside0.mk A120
      clear A120
      by_cases c13 : (x5_2.length : Int) > 0
      ·rw [if_pos c13] at H
       have c13b0 : decide (0 < (x5_2.length : Int)) = true := decide_eq_true c13
       have c13b1 : decide (0 < x5_2.length) = true := decide_eq_true (by omega)
       clear c13
       replace H := Option.bind_eq_some_iff.mp H
       obtain ⟨⟨t152, t153, t154⟩, A140, H⟩ := H
       try dsimp only at H
       have A14 := Aside0.mk A140
       clear A140
       by_cases c15 : t152 = true
       ·subst c15
        have H1 : (if 0 ≤ (wrap64 ((x5_2.length : Int) - 1)) then (if (wrap64 ((x5_2.length : Int) - 1)) < (x5_2.length : Int) then ((spec_l1Cur_pick.f s0_0 t153 t154 9).bind fun bt157 => (if x5_2.length < 5864062014805 then (spec_l1Cur_parts.l0 k2 a1 (x5_2 ++ [(⟨(rd_T93 x5_2 (wrap64 ((x5_2.length : Int) - 1))).f0, (rd_T93 x5_2 (wrap64 ((x5_2.length : Int) - 1))).f2, wrap64 ((wrap64 (((rd_T93 x5_2 (wrap64 ((x5_2.length : Int) - 1))).f2) + 1)) + bt157.1)⟩ : S93)]) x6_4 s0_0 bt157.2.1 bt157.2.2) else (none))) else (none)) else (none)) = some (r1, r2, r3) := by rw [if_pos rfl] at H; exact H
        clear H
        have H := H1
        clear H1
        obtain ⟨ji16, hji16⟩ : ∃ j_ : Int, (wrap64 ((x5_2.length : Int) - 1)) = j_ := ⟨_, rfl⟩
        replace H : (if 0 ≤ (ji16) then (if (ji16) < (x5_2.length : Int) then ((spec_l1Cur_pick.f s0_0 t153 t154 9).bind fun bt157 => (if x5_2.length < 5864062014805 then (spec_l1Cur_parts.l0 k2 a1 (x5_2 ++ [(⟨(rd_T93 x5_2 (ji16)).f0, (rd_T93 x5_2 (ji16)).f2, wrap64 ((wrap64 (((rd_T93 x5_2 (ji16)).f2) + 1)) + bt157.1)⟩ : S93)]) x6_4 s0_0 bt157.2.1 bt157.2.2) else (none))) else (none)) else (none)) = some (r1, r2, r3) := by first|(rw [hji16] at H; exact H)|(simp only [hji16] at H ⊢; exact H)
        (try rw [hji16] at A12)
        (try rw [hji16] at A14)
        have hji16w : (IntKind.i64.wrap ((x5_2.length : Int) - 1)) = ji16 := (i64_w _).trans hji16
        by_cases c17 : 0 ≤ (ji16)
        ·rw [if_pos c17] at H
         have c17b0 : decide (0 ≤ (ji16)) = true := decide_eq_true c17
         clear c17
         by_cases c18 : (ji16) < (x5_2.length : Int)
         ·rw [if_pos c18] at H
          have c18b0 : decide ((ji16) < (x5_2.length : Int)) = true := decide_eq_true c18
          clear c18
          replace H := Option.bind_eq_some_iff.mp H
          obtain ⟨⟨t157, t158, t159⟩, A190, H⟩ := H
          try dsimp only at H
          have A19 := Aside0.mk A190
          clear A190
          by_cases c20 : x5_2.length < 5864062014805
          ·rw [if_pos c20] at H
           have LMc20 := Aside0.mk c20
           clear c20
           obtain ⟨y160, hy160⟩ : ∃ y_ : List (S93), y_ = (x5_2 ++ [(⟨(rd_T93 x5_2 (ji16)).f0, (rd_T93 x5_2 (ji16)).f2, wrap64 ((wrap64 (((rd_T93 x5_2 (ji16)).f2) + 1)) + t157)⟩ : S93)]) := ⟨_, rfl⟩
           replace H : (spec_l1Cur_parts.l0 k2 a1 y160 x6_4 s0_0 t158 t159) = some (r1, r2, r3) := by first|(rw [hy160]; with_reducible exact H)|(have H2_ := (Option.bind_some _ _).symm.trans H; rw [hy160]; with_reducible exact H2_)|(have H2_ := (Option.bind_some _ _).symm.trans H; with_reducible exact H2_) | with_reducible exact H|(rw [hy160]; exact H)|exact H
           have Ny160 := Aside0.mk hy160
           clear hy160
           have H' := Aside0.mk H
           clear H
           obtain ⟨Ao21, co21, eo21⟩ := Kd.R_slice HO_5.out
           subst eo21
           try go_wp2_with (first|((with_reducible refine gate_callee (f := 112) rfl ?_); refine goesL_ (some 23) rfl rfl Tryd.func112 (by kernel_rfl) rfl #[.pointer (some ⟨g, 0, none⟩), .int .i64 a1] rfl (by (try simp only [List.map_toArray, List.map_cons, List.map_nil]); first | done | rfl|(simp only [List.length_drop, List.length_take]; rfl)) ?_; (with_reducible refine (spec_l1Cur_splicePart.calls g s0_0 x1001_2 x1002_2 a1 t146 t147 t148 t149 t150 w0 _ ?side1 ?side2 A12.out).mono ?_);(case side1 => exact (a1_ HI0.out));(case side2 => exact (a3_ HI0.out)); rintro e w22 ⟨rfl, hi, hb, hk⟩; refine ⟨_, rfl, ?_⟩; have n0_ := Aside0.mk (Kd.R_mono (Kd.R_keep (IsS66.apart (show IsS66 w0 _ g s0_0 x1001_2 x1002_2 from (a1_ HI0.out)) ((a2_ HO_5.out)) (by decide)) hk (fun _ h => h.2)) (fun _ h => h.1)); have n1_ := Aside0.mk (KeepBut.trans (a4_) hk (.inl rfl)); have n2_ := Aside0.mk (hb); have n3_ := Aside0.mk (hi); clear HO_5; clear HK; clear HB; clear HI0; have HO_5 := n0_; have HK := n1_; have HB := n2_; have HI0 := n3_; clear n0_ n1_ n2_ n3_; (try clear hb); (try clear hb2); (try clear hk); (try clear hi))|((with_reducible refine gate_dst (N := 7) rfl ?_); refine box_event ?hg (N := 7) ?hd (cs := #[.int .i64 0, .int .i64 0, .int .i64 0]) (t := 93) ?hr ?_;(case hd => rfl);(case hg => rfl);(case hr => first|(go_simp;done)|(go_simp; rfl)); intro gb151 hg w23 hbox hb; have n0_ := Aside0.mk (Kd.R_below (Kd.R_elderB ((a2_ HO_5.out)) gb151 (Nat.le_of_eq hg.symm)) hb); have n1_ := Aside0.mk (IsS66.below ((a1_ HI0.out)) hb); have n2_ := Aside0.mk (KeepBut.trans (a4_) (KeepBut.of_below hb g none) (.inl rfl)); have n3_ := Aside0.mk (below_step ((a3_ HI0.out)) hb); have n4_ := Aside0.mk (hbox); have n5_ := Aside0.mk ((by rw [hg]; exact (keep_size (w := w) (g := g) (row := none) (a4_)) : w.heap.size ≤ gb151)); have n6_ := Aside0.mk ((Nat.le_trans HW0.out (by rw [hg]; exact (keep_size (w := w) (g := g) (row := none) (a4_)) : w.heap.size ≤ gb151) : w0.heap.size ≤ gb151)); have n7_ := Aside0.mk ((by rw [hg]; exact Nat.ne_of_lt (IsS66.lt (show IsS66 w0 _ g s0_0 t149 t150 from (a1_ HI0.out))) : g ≠ gb151)); have n8_ := Aside0.mk ((by rw [hg]; exact Nat.ne_of_gt (IsS66.lt (show IsS66 w0 _ g s0_0 t149 t150 from (a1_ HI0.out))) : gb151 ≠ g)); clear HO_5; clear HI0; clear HK; clear HB; have HO_5 := n0_; have HI0 := n1_; have HK := n2_; have HB := n3_; have BK151 := n4_; have GW151 := n5_; have GE151 := n6_; have NB0_151 := n7_; have NB151_0 := n8_; clear n0_ n1_ n2_ n3_ n4_ n5_ n6_ n7_ n8_; clear hb hbox hg; have hnb24 := NB151_0.out; have hnc24 := NB0_151.out; have hcz25_0 : w23.cell? ⟨gb151, 0, none⟩ = some (.int .i64 0) := (blk_cell BK151.out 0).trans rfl; have hcz25_1 : w23.cell? ⟨gb151, 1, none⟩ = some (.int .i64 0) := (blk_cell BK151.out 1).trans rfl; have hcz25_2 : w23.cell? ⟨gb151, 2, none⟩ = some (.int .i64 0) := (blk_cell BK151.out 2).trans rfl; have hfz25_0 := blk_frozen BK151.out 0; have hfz25_1 := blk_frozen BK151.out 1; have hfz25_2 := blk_frozen BK151.out 2)|(go_at_call 77; (with_reducible refine (spec_l1Cur_one.calls g s0_0 t149 t150 4 true t153 t154 w0 _ ?side1 ?side2 A14.out).mono ?_);(case side1 => exact (a6_ HI0.out NB0_151.out));(case side2 => exact (a13_ HI0.out GE151.out)); rintro e w26 ⟨rfl, hi, hb, hk⟩; have n0_ := Aside0.mk (Kd.R_mono (Kd.R_keep (IsS66.apart (show IsS66 w0 _ g s0_0 t149 t150 from (a6_ HI0.out NB0_151.out)) ((a31_ HO_5.out)) (by decide)) hk (fun _ h => h.2)) (fun _ h => h.1)); have n1_ := Aside0.mk (KeepBut.blk hk (g' := gb151) (o := .cells #[.int .i64 t146, .int .i64 t147, .int .i64 t148] 93 (0, 0)) ((a14_ BK151.out)) NB151_0.out (by simp)); have n2_ := Aside0.mk (KeepBut.trans ((a12_ GW151.out)) hk (.inl rfl)); have n3_ := Aside0.mk (hb); have n4_ := Aside0.mk (hi); clear HO_5; clear BK151; clear HK; clear HB; clear HI0; have HO_5 := n0_; have BK151 := n1_; have HK := n2_; have HB := n3_; have HI0 := n4_; clear n0_ n1_ n2_ n3_ n4_; (try clear hb); (try clear hb2); (try clear hk); (try clear hi); have p155 : 0 ≤ ((ji16) : Int) := of_decide_eq_true (a7_); have q155 : (ji16) < (x5_2.length : Int) := of_decide_eq_true (a7_); obtain ⟨ad155, e155, hx155_0, hx155_1, hx155_2⟩ := at_T93 (Kd.R_reads' HO_5.out).2.2 (ji16) p155 q155; cases e155; replace p155 := eq_true p155; replace q155 := eq_true q155)|((with_reducible refine gate_dst (N := 8) rfl ?_); refine box_event ?hg (N := 8) ?hd (cs := #[.int .i64 0, .int .i64 0, .int .i64 0]) (t := 93) ?hr ?_;(case hd => rfl);(case hg => rfl);(case hr => first|(go_simp;done)|(go_simp; rfl)); intro gb156 hg w27 hbox hb; have n0_ := Aside0.mk (Kd.R_below (Kd.R_elderB ((a2_ HO_5.out)) gb156 (Nat.le_of_eq hg.symm)) hb); have n1_ := Aside0.mk (IsS66.below ((a6_ HI0.out NB0_151.out)) hb); have n2_ := Aside0.mk (blk_below (g := gb151) (o := .cells #[.int .i64 t146, .int .i64 t147, .int .i64 t148] 93 (0, 0)) ((a17_ BK151.out)) hb); have n3_ := Aside0.mk (KeepBut.trans ((a12_ GW151.out)) (KeepBut.of_below hb g none) (.inl rfl)); have n4_ := Aside0.mk (below_step ((a13_ HI0.out GE151.out)) hb); have n5_ := Aside0.mk (hbox); have n6_ := Aside0.mk ((by rw [hg]; exact (keep_size (w := w) (g := g) (row := none) ((a12_ GW151.out))) : w.heap.size ≤ gb156)); have n7_ := Aside0.mk ((Nat.le_trans HW0.out (by rw [hg]; exact (keep_size (w := w) (g := g) (row := none) ((a12_ GW151.out))) : w.heap.size ≤ gb156) : w0.heap.size ≤ gb156)); have n8_ := Aside0.mk ((by rw [hg]; exact Nat.ne_of_lt (blk_lt (g := gb151) (o := .cells #[.int .i64 t146, .int .i64 t147, .int .i64 t148] 93 (0, 0)) ((a17_ BK151.out))) : gb151 ≠ gb156)); have n9_ := Aside0.mk ((by rw [hg]; exact Nat.ne_of_gt (blk_lt (g := gb151) (o := .cells #[.int .i64 t146, .int .i64 t147, .int .i64 t148] 93 (0, 0)) ((a17_ BK151.out))) : gb156 ≠ gb151)); have n10_ := Aside0.mk ((by rw [hg]; exact Nat.ne_of_lt (IsS66.lt (show IsS66 w0 _ g s0_0 t153 t154 from (a6_ HI0.out NB0_151.out))) : g ≠ gb156)); have n11_ := Aside0.mk ((by rw [hg]; exact Nat.ne_of_gt (IsS66.lt (show IsS66 w0 _ g s0_0 t153 t154 from (a6_ HI0.out NB0_151.out))) : gb156 ≠ g)); clear HO_5; clear HI0; clear BK151; clear HK; clear HB; have HO_5 := n0_; have HI0 := n1_; have BK151 := n2_; have HK := n3_; have HB := n4_; have BK156 := n5_; have GW156 := n6_; have GE156 := n7_; have NB151_156 := n8_; have NB156_151 := n9_; have NB0_156 := n10_; have NB156_0 := n11_; clear n0_ n1_ n2_ n3_ n4_ n5_ n6_ n7_ n8_ n9_ n10_ n11_; clear hb hbox hg; have hnb28 := NB156_151.out; have hnc28 := NB151_156.out; have hnb29 := NB156_0.out; have hnc29 := NB0_156.out; have hcz30_0 : w27.cell? ⟨gb156, 0, none⟩ = some (.int .i64 0) := (blk_cell BK156.out 0).trans rfl; have hcz30_1 : w27.cell? ⟨gb156, 1, none⟩ = some (.int .i64 0) := (blk_cell BK156.out 1).trans rfl; have hcz30_2 : w27.cell? ⟨gb156, 2, none⟩ = some (.int .i64 0) := (blk_cell BK156.out 2).trans rfl; have hfz30_0 := blk_frozen BK156.out 0; have hfz30_1 := blk_frozen BK156.out 1; have hfz30_2 := blk_frozen BK156.out 2))
           have n0_ : Aside0 (Kd.R k93 93 (((w27.setCell ⟨gb156, 0, none⟩ (.int .i64 ((rd_T93 x5_2 (ji16)).f0))).setCell ⟨gb156, 1, none⟩ (.int .i64 ((rd_T93 x5_2 (ji16)).f1))).setCell ⟨gb156, 2, none⟩ (.int .i64 ((rd_T93 x5_2 (ji16)).f2))) w.heap.size (fun k_ => k_ ≠ gb151 ∧ k_ ≠ gb156) (.slice (some ad155) x5_2.length co21) x5_2) := ⟨by (with_reducible repeat (first|apply Kd.R_alloc|apply Kd.R_drewN|apply Kd.R_drew)); exact Kd.R_mono (Kd.R_far (p := ⟨gb156, 2, none⟩) (Kd.R_far (p := ⟨gb156, 1, none⟩) (Kd.R_far (p := ⟨gb156, 0, none⟩) (Kd.R_mono HO_5.out (fun k_ hk => (⟨hk, hk.2⟩ : _ ∧ k_ ≠ gb156))) (fun _ hk => hk.2) (.int .i64 ((rd_T93 x5_2 (ji16)).f0))) (fun _ hk => hk.2) (.int .i64 ((rd_T93 x5_2 (ji16)).f1))) (fun _ hk => hk.2) (.int .i64 ((rd_T93 x5_2 (ji16)).f2))) (fun _ hk => ⟨hk.1.1.2, hk.1.2⟩)⟩
           have n1_ : Aside0 ((((w27.setCell ⟨gb156, 0, none⟩ (.int .i64 ((rd_T93 x5_2 (ji16)).f0))).setCell ⟨gb156, 1, none⟩ (.int .i64 ((rd_T93 x5_2 (ji16)).f1))).setCell ⟨gb156, 2, none⟩ (.int .i64 ((rd_T93 x5_2 (ji16)).f2))).heap[gb151]? = some (.cells #[.int .i64 t146, .int .i64 t147, .int .i64 t148] 93 (0, 0))) := ⟨(a22_ NB151_156.out BK151.out)⟩
           have n2_ : Aside0 ((((w27.setCell ⟨gb156, 0, none⟩ (.int .i64 ((rd_T93 x5_2 (ji16)).f0))).setCell ⟨gb156, 1, none⟩ (.int .i64 ((rd_T93 x5_2 (ji16)).f1))).setCell ⟨gb156, 2, none⟩ (.int .i64 ((rd_T93 x5_2 (ji16)).f2))).heap[gb156]? = some (.cells #[.int .i64 ((rd_T93 x5_2 (ji16)).f0), .int .i64 ((rd_T93 x5_2 (ji16)).f1), .int .i64 ((rd_T93 x5_2 (ji16)).f2)] 93 (0, 0))) := ⟨by (with_reducible repeat (first|refine blk_drewN ?_ _ | refine blk_drew ?_ | refine blk_alloc ?_ _)); refine blk_put (cs := #[.int .i64 ((rd_T93 x5_2 (ji16)).f0), .int .i64 ((rd_T93 x5_2 (ji16)).f1), .int .i64 0]) ?_ 2 _ rfl; (with_reducible repeat (first|refine blk_drewN ?_ _ | refine blk_drew ?_ | refine blk_alloc ?_ _)); refine blk_put (cs := #[.int .i64 ((rd_T93 x5_2 (ji16)).f0), .int .i64 0, .int .i64 0]) ?_ 1 _ rfl; (with_reducible repeat (first|refine blk_drewN ?_ _ | refine blk_drew ?_ | refine blk_alloc ?_ _)); refine blk_put (cs := #[.int .i64 0, .int .i64 0, .int .i64 0]) ?_ 0 _ rfl; (with_reducible repeat (first|refine blk_drewN ?_ _ | refine blk_drew ?_ | refine blk_alloc ?_ _)); exact BK156.out⟩
           have n3_ : Aside0 (IsS66 w0 (((w27.setCell ⟨gb156, 0, none⟩ (.int .i64 ((rd_T93 x5_2 (ji16)).f0))).setCell ⟨gb156, 1, none⟩ (.int .i64 ((rd_T93 x5_2 (ji16)).f1))).setCell ⟨gb156, 2, none⟩ (.int .i64 ((rd_T93 x5_2 (ji16)).f2))) g s0_0 t153 t154) := ⟨(a16_ HI0.out NB0_151.out NB0_156.out)⟩
           have n4_ : Aside0 (KeepBut w (((w27.setCell ⟨gb156, 0, none⟩ (.int .i64 ((rd_T93 x5_2 (ji16)).f0))).setCell ⟨gb156, 1, none⟩ (.int .i64 ((rd_T93 x5_2 (ji16)).f1))).setCell ⟨gb156, 2, none⟩ (.int .i64 ((rd_T93 x5_2 (ji16)).f2))) g none) := ⟨(a28_ GW151.out GW156.out)⟩
           have n5_ : Aside0 (Below w0.heap.size w0 (((w27.setCell ⟨gb156, 0, none⟩ (.int .i64 ((rd_T93 x5_2 (ji16)).f0))).setCell ⟨gb156, 1, none⟩ (.int .i64 ((rd_T93 x5_2 (ji16)).f1))).setCell ⟨gb156, 2, none⟩ (.int .i64 ((rd_T93 x5_2 (ji16)).f2)))) := ⟨(a30_ HI0.out GE151.out GE156.out)⟩
           (try clear HO_5)
           (try clear BK151)
           (try clear BK156)
           (try clear HI0)
           (try clear HK)
           (try clear HB)
           generalize (((w27.setCell ⟨gb156, 0, none⟩ (.int .i64 ((rd_T93 x5_2 (ji16)).f0))).setCell ⟨gb156, 1, none⟩ (.int .i64 ((rd_T93 x5_2 (ji16)).f1))).setCell ⟨gb156, 2, none⟩ (.int .i64 ((rd_T93 x5_2 (ji16)).f2))) = w31 at n0_ n1_ n2_ n3_ n4_ n5_ ⊢
           have HO_5 := n0_
           have BK151 := n1_
           have BK156 := n2_
           have HI0 := n3_
           have HK := n4_
           have HB := n5_
           clear n0_ n1_ n2_ n3_ n4_ n5_
           have n0_ := Aside0.mk (Kd.R_drew HO_5.out)
           have n1_ := Aside0.mk (blk_drew BK151.out)
           have n2_ := Aside0.mk (blk_drew BK156.out)
           have n3_ := Aside0.mk (IsS66.drew HI0.out)
           have n4_ := Aside0.mk (keep_drew HK.out)
           have n5_ := Aside0.mk (below_drew1 HB.out)
           clear HO_5
           clear BK151
           clear BK156
           clear HI0
           clear HK
           clear HB
           have HO_5 := n0_
           have BK151 := n1_
           have BK156 := n2_
           have HI0 := n3_
           have HK := n4_
           have HB := n5_
           clear n0_ n1_ n2_ n3_ n4_ n5_
           refine start_ (n := 12) (S := fun w' => w'.cell? ⟨gb156, 0, none⟩ = some (.int .i64 ((rd_T93 x5_2 (ji16)).f0)) ∧ w'.cell? ⟨gb156, 1, none⟩ = some (.int .i64 ((rd_T93 x5_2 (ji16)).f1)) ∧ w'.cell? ⟨gb156, 2, none⟩ = some (.int .i64 ((rd_T93 x5_2 (ji16)).f2))) (ds := []) #[false, false, false, false, false, false, false, false, false, false, false, false] (by kernel_rfl) rfl rfl ⟨(blk_cell BK156.out 0).trans rfl, (blk_cell BK156.out 1).trans rfl, (blk_cell BK156.out 2).trans rfl⟩ (fun hHeld => ?_); refine with_tabW spec_l1Cur_parts.tab9 spec_l1Cur_parts.bits9 (fun HT_ HW_ => ?_)
           generalize w31.drew = w32 at HO_5 BK151 BK156 HI0 HK HB hHeld ⊢
           refine pure_ (i := 0) (N := some 37) (v := ?_) (a' := ?_) #[true, false, false, false, false, false, false, false, false, false, false, false] rfl rfl (any_of HT_.out (by kernel_rfl)) (fun _ _ _ h => h) (Or.inl ⟨by rfl, ?_⟩) ?_ ?_
           rotate_left
           ·intro w'
            go_simp
            with_reducible rfl
           rotate_left
           ·simp only [Act.put, List.setIfInBounds_toArray, List.set_cons_zero, List.set_cons_succ, i64_w, i32_w]
            rfl
           refine pure_ (i := 2) (N := some 39) (v := ?_) (a' := ?_) #[true, false, true, false, false, false, false, false, false, false, false, false] rfl rfl (any_of HT_.out (by kernel_rfl)) (fun _ _ _ h => h) (Or.inl ⟨by rfl, ?_⟩) ?_ ?_
           rotate_left
           ·intro w'
            go_simp
            with_reducible rfl
           rotate_left
           ·simp only [Act.put, List.setIfInBounds_toArray, List.set_cons_zero, List.set_cons_succ, i64_w, i32_w]
            rfl
           refine pure_ (i := 4) (N := some 41) (v := ?_) (a' := ?_) #[true, false, true, false, true, false, false, false, false, false, false, false] rfl rfl (any_of HT_.out (by kernel_rfl)) (fun _ _ _ h => h) (Or.inl ⟨by rfl, ?_⟩) ?_ ?_
           rotate_left
           ·intro w'
            go_simp
            with_reducible rfl
           rotate_left
           ·simp only [Act.put, List.setIfInBounds_toArray, List.set_cons_zero, List.set_cons_succ, i64_w, i32_w]
            rfl
           refine pure_ (i := 7) (N := some 44) (v := ?_) (a' := ?_) #[true, false, true, false, true, false, false, true, false, false, false, false] rfl rfl (any_of HT_.out (by kernel_rfl)) (fun _ _ _ h => h) (Or.inl ⟨by rfl, ?_⟩) ?_ ?_
           rotate_left
           ·intro w'
            go_simp
            with_reducible rfl
           rotate_left
           ·simp only [Act.put, List.setIfInBounds_toArray, List.set_cons_zero, List.set_cons_succ, i64_w, i32_w]
            rfl
           refine take_ (i := 1) (N := some 38) (v := ?_) (a' := ?_) #[true, true, true, false, true, false, false, true, false, false, false, false] rfl rfl (take_ofW HT_.out HW_.out (by kernel_rfl)) (fun _ _ _ h => h) (Or.inl ⟨by rfl, ?_⟩) hHeld ?_ ?_
           rotate_left
           ·rintro w' ⟨s0, s1, s2⟩
            go_simp
            with_reducible rfl
           rotate_left
           ·simp only [Act.put, List.setIfInBounds_toArray, List.set_cons_zero, List.set_cons_succ, i64_w, i32_w]
            rfl
           refine take_ (i := 3) (N := some 40) (v := ?_) (a' := ?_) #[true, true, true, true, true, false, false, true, false, false, false, false] rfl rfl (take_ofW HT_.out HW_.out (by kernel_rfl)) (fun _ _ _ h => h) (Or.inl ⟨by rfl, ?_⟩) hHeld ?_ ?_
           rotate_left
           ·rintro w' ⟨s0, s1, s2⟩
            go_simp
            with_reducible rfl
           rotate_left
           ·simp only [Act.put, List.setIfInBounds_toArray, List.set_cons_zero, List.set_cons_succ, i64_w, i32_w]
            rfl
           refine take_ (i := 5) (N := some 42) (v := ?_) (a' := ?_) #[true, true, true, true, true, true, false, true, false, false, false, false] rfl rfl (take_ofW HT_.out HW_.out (by kernel_rfl)) (fun _ _ _ h => h) (Or.inl ⟨by rfl, ?_⟩) hHeld ?_ ?_
           rotate_left
           ·rintro w' ⟨s0, s1, s2⟩
            go_simp
            with_reducible rfl
           rotate_left
           ·simp only [Act.put, List.setIfInBounds_toArray, List.set_cons_zero, List.set_cons_succ, i64_w, i32_w]
            rfl
           refine pure_ (i := 6) (N := some 43) (v := ?_) (a' := ?_) #[true, true, true, true, true, true, true, true, false, false, false, false] rfl rfl (any_of HT_.out (by kernel_rfl)) (fun _ _ _ h => h) (Or.inl ⟨by rfl, ?_⟩) ?_ ?_
           rotate_left
           ·intro w'
            go_simp
            with_reducible rfl
           rotate_left
           ·simp only [Act.put, List.setIfInBounds_toArray, List.set_cons_zero, List.set_cons_succ, i64_w, i32_w]
            rfl
           refine one_ (i := 8) (N := some 45) #[true, true, true, true, true, true, true, true, true, false, false, false] rfl rfl (one_of HT_.out (by kernel_rfl)) (by decide) (fun K hK => ?_)
           refine goes_ Tryd.func70 (by kernel_rfl) rfl #[.pointer (some ⟨g, 0, none⟩), .int .i64 9] (by rfl) rfl rfl (by (try simp only [List.map_toArray, List.map_cons, List.map_nil]); first | done | rfl|(simp only [List.length_drop, List.length_take]; rfl)) ?_
           with_reducible refine (spec_l1Cur_pick.calls g s0_0 t153 t154 9 t157 t158 t159 w0 _ ?side1 ?side2 A19.out).mono ?_
           (case side1 => exact (a16_ HI0.out NB0_151.out NB0_156.out))
           (case side2 => exact (a30_ HI0.out GE151.out GE156.out))
           rintro e w33 ⟨rfl, hi, hb, hk⟩
           refine ⟨_, rfl, ?_⟩
           have n0_ := Aside0.mk (Kd.R_mono (Kd.R_keep (IsS66.apart (show IsS66 w0 _ g s0_0 t153 t154 from (a16_ HI0.out NB0_151.out NB0_156.out)) ((a2_ HO_5.out)) (by decide)) hk (fun _ h => h.2)) (fun _ h => h.1))
           have n1_ := Aside0.mk (KeepBut.blk hk (g' := gb151) (o := .cells #[.int .i64 t146, .int .i64 t147, .int .i64 t148] 93 (0, 0)) ((a17_ BK151.out)) NB151_0.out (by simp))
           have n2_ := Aside0.mk (KeepBut.blk hk (g' := gb156) (o := .cells #[.int .i64 ((rd_T93 x5_2 (ji16)).f0), .int .i64 ((rd_T93 x5_2 (ji16)).f1), .int .i64 ((rd_T93 x5_2 (ji16)).f2)] 93 (0, 0)) ((a17_ BK156.out)) NB156_0.out (by simp))
           have n3_ := Aside0.mk (KeepBut.trans ((a28_ GW151.out GW156.out)) hk (.inl rfl))
           have n4_ := Aside0.mk (hb)
           have n5_ := Aside0.mk (hi)
           clear HO_5
           clear BK151
           clear BK156
           clear HK
           clear HB
           clear HI0
           have HO_5 := n0_
           have BK151 := n1_
           have BK156 := n2_
           have HK := n3_
           have HB := n4_
           have HI0 := n5_
           clear n0_ n1_ n2_ n3_ n4_ n5_
           (try clear hb)
           (try clear hb2)
           (try clear hk)
           (try clear hi)
           refine hK.out _ _ ⟨(blk_cell BK156.out 0).trans rfl, (blk_cell BK156.out 1).trans rfl, (blk_cell BK156.out 2).trans rfl⟩ (fun hHeld => ?_)
           clear hK K
           refine norm_ (a' := ?_) ?_ ?_
           rotate_left
           ·show Act.put _ (some 45) _ = _
            simp only [Act.put, List.setIfInBounds_toArray, List.set_cons_zero, List.set_cons_succ, i64_w, i32_w]
            rfl
           refine pure_ (i := 9) (N := some 46) (v := ?_) (a' := ?_) #[true, true, true, true, true, true, true, true, true, true, false, false] rfl rfl (any_of HT_.out (by kernel_rfl)) (fun _ _ _ h => h) (Or.inl ⟨by rfl, ?_⟩) ?_ ?_
           rotate_left
           ·intro w'
            go_simp
            with_reducible rfl
           rotate_left
           ·simp only [Act.put, List.setIfInBounds_toArray, List.set_cons_zero, List.set_cons_succ, i64_w, i32_w]
            rfl
           refine pure_ (i := 10) (N := some 47) (v := ?_) (a' := ?_) #[true, true, true, true, true, true, true, true, true, true, true, false] rfl rfl (any_of HT_.out (by kernel_rfl)) (fun _ _ _ h => h) (Or.inl ⟨by rfl, ?_⟩) ?_ ?_
           rotate_left
           ·intro w'
            go_simp
            with_reducible rfl
           rotate_left
           ·simp only [Act.put, List.setIfInBounds_toArray, List.set_cons_zero, List.set_cons_succ, i64_w, i32_w]
            rfl
           refine one_ (i := 11) (N := none) #[true, true, true, true, true, true, true, true, true, true, true, true] rfl rfl (one_of HT_.out (by kernel_rfl)) (by decide) (fun K hK => ?_)
           have hs34 : w33.cell? ⟨gb151, 0, none⟩ = some (.int .i64 t146) := (blk_cell BK151.out 0).trans rfl
           have hfs34 := blk_frozen BK151.out 0
           have hns34_1 := NB156_151.out
           have hms34_1 := NB151_156.out
           have hs35 : w33.cell? ⟨gb151, 1, none⟩ = some (.int .i64 t147) := (blk_cell BK151.out 1).trans rfl
           have hfs35 := blk_frozen BK151.out 1
           have hns35_1 := NB156_151.out
           have hms35_1 := NB151_156.out
           have hs36 : w33.cell? ⟨gb151, 2, none⟩ = some (.int .i64 t148) := (blk_cell BK151.out 2).trans rfl
           have hfs36 := blk_frozen BK151.out 2
           have hns36_1 := NB156_151.out
           have hms36_1 := NB151_156.out
           refine skip_ (w1 := ?_) (by rfl) rfl ?_ ?_
           rotate_left
           ·go_simp
            rfl
           refine hK.out _ _ ⟨((cell_far (p := ⟨gb151, _, none⟩) NB156_151.out _).trans (((cell_far (p := ⟨gb151, _, none⟩) NB156_151.out _).trans (((cell_far (p := ⟨gb151, _, none⟩) NB156_151.out _).trans (hHeld.1)))))), ((cell_far (p := ⟨gb151, _, none⟩) NB156_151.out _).trans (((cell_far (p := ⟨gb151, _, none⟩) NB156_151.out _).trans (((cell_far (p := ⟨gb151, _, none⟩) NB156_151.out _).trans (hHeld.2.1)))))), ((cell_far (p := ⟨gb151, _, none⟩) NB156_151.out _).trans (((cell_far (p := ⟨gb151, _, none⟩) NB156_151.out _).trans (((cell_far (p := ⟨gb151, _, none⟩) NB156_151.out _).trans (hHeld.2.2))))))⟩ (fun hHeld => ?_)
           clear hK K
           refine done_ (done_of HT_.out (by kernel_rfl)) ?_
           have hcz37_0 : w33.cell? ⟨gb151, 0, none⟩ = some (.int .i64 t146) := (blk_cell BK151.out 0).trans rfl
           have hcz37_1 : w33.cell? ⟨gb151, 1, none⟩ = some (.int .i64 t147) := (blk_cell BK151.out 1).trans rfl
           have hcz37_2 : w33.cell? ⟨gb151, 2, none⟩ = some (.int .i64 t148) := (blk_cell BK151.out 2).trans rfl
           have hfz37_0 := blk_frozen BK151.out 0
           have hfz37_1 := blk_frozen BK151.out 1
           have hfz37_2 := blk_frozen BK151.out 2
           try go_wp2_with (first|((with_reducible refine gate_builtin (b := .append) (xs := #[.tmp 48, .tmp 50]) rfl ?_); at_builtin; refine Kd.R_append k93 w.heap.size rfl (.tmp 48) (.tmp 50) 46 93 (.agg #[(.int .i64 0), (.int .i64 0), (.int .i64 0)]) 24 rfl Tryd.underlying46 info93 rfl (by decide) (by omega) (.slice (some ad155) x5_2.length co21) x5_2 (⟨(rd_T93 x5_2 (ji16)).f0, (rd_T93 x5_2 (ji16)).f2, wrap64 ((wrap64 (((rd_T93 x5_2 (ji16)).f2) + 1)) + t157)⟩ : S93) [.int .i64 ((rd_T93 x5_2 (ji16)).f0), .int .i64 ((rd_T93 x5_2 (ji16)).f2), .int .i64 (wrap64 ((wrap64 (((rd_T93 x5_2 (ji16)).f2) + 1)) + t157))] (fun k_ => k_ ≠ gb151 ∧ k_ ≠ gb156) (fun _ => False) rfl (by first|(go_simp;done)|(go_simp; rfl)) ?aP (fun _ hk => hk.elim) ?aF ?aO (Below.refl _ _) ?aS ?aL ?_;(case aP => exact k93_mkM _ _ _ (⟨(rd_T93 x5_2 (ji16)).f0, (rd_T93 x5_2 (ji16)).f2, wrap64 ((wrap64 (((rd_T93 x5_2 (ji16)).f2) + 1)) + t157)⟩ : S93));(case aF => exact (fun k_ hk => ⟨Kd.freshB (g := gb151) (o := .cells #[.int .i64 ((rd_T93 x5_2 (ji16)).f0), .int .i64 ((rd_T93 x5_2 (ji16)).f2), .int .i64 (wrap64 ((wrap64 (((rd_T93 x5_2 (ji16)).f2) + 1)) + t157))] 93 (0, 0)) ((a21_ BK151.out)) k_ hk, Kd.freshB (g := gb156) (o := .cells #[.int .i64 ((rd_T93 x5_2 (ji16)).f0), .int .i64 ((rd_T93 x5_2 (ji16)).f1), .int .i64 ((rd_T93 x5_2 (ji16)).f2)] 93 (0, 0)) ((a22_ NB156_151.out BK156.out)) k_ hk⟩));(case aO => exact (by (with_reducible repeat (first|apply Kd.R_alloc|apply Kd.R_drewN|apply Kd.R_drew)); exact Kd.R_mono (Kd.R_far (p := ⟨gb151, 2, none⟩) (Kd.R_far (p := ⟨gb151, 1, none⟩) (Kd.R_far (p := ⟨gb151, 0, none⟩) (Kd.R_mono HO_5.out (fun k_ hk => (⟨hk, hk.1⟩ : _ ∧ k_ ≠ gb151))) (fun _ hk => hk.2) (.int .i64 ((rd_T93 x5_2 (ji16)).f0))) (fun _ hk => hk.2) (.int .i64 ((rd_T93 x5_2 (ji16)).f2))) (fun _ hk => hk.2) (.int .i64 (wrap64 ((wrap64 (((rd_T93 x5_2 (ji16)).f2) + 1)) + t157)))) (fun _ hk => ⟨hk.1.1, hk.1.2⟩)));(case aS => exact (keep_size (w := w) (g := g) (row := none) ((a28_ GW151.out GW156.out))));(case aL => have := LMc20.out; omega); intro v161 w38 ho hb hg hat; rw [← Ny160.out] at ho; have n0_ := Aside0.mk (IsS66.grown ((a16_ HI0.out NB0_151.out NB0_156.out)) hg (IsS66.own_ne HI0.out HO_5.out (by decide))); have n1_ := Aside0.mk (blk_grown (g := gb151) (o := .cells #[.int .i64 ((rd_T93 x5_2 (ji16)).f0), .int .i64 ((rd_T93 x5_2 (ji16)).f2), .int .i64 (wrap64 ((wrap64 (((rd_T93 x5_2 (ji16)).f2) + 1)) + t157))] 93 (0, 0)) ((a21_ BK151.out)) hg (Kd.R_away HO_5.out (fun _ hk => hk.1))); have n2_ := Aside0.mk (blk_grown (g := gb156) (o := .cells #[.int .i64 ((rd_T93 x5_2 (ji16)).f0), .int .i64 ((rd_T93 x5_2 (ji16)).f1), .int .i64 ((rd_T93 x5_2 (ji16)).f2)] 93 (0, 0)) ((a22_ NB156_151.out BK156.out)) hg (Kd.R_away HO_5.out (fun _ hk => hk.2))); have n3_ := Aside0.mk (below_weaken ((a30_ HI0.out GE151.out GE156.out)) HL.out hb); have n4_ := Aside0.mk (KeepBut.trans ((a28_ GW151.out GW156.out)) (KeepBut.of_grown hg g) (Kd.R_base2 HO_5.out)); have n5_ := Aside0.mk (ho); clear HI0; clear BK151; clear BK156; clear HB; clear HK; clear HO_5; have HI0 := n0_; have BK151 := n1_; have BK156 := n2_; have HB := n3_; have HK := n4_; have HO162 := n5_; clear n0_ n1_ n2_ n3_ n4_ n5_; clear ho hb hg hat))
           go_roundg k2
           case measure => have := HJ4.out; have := HK2.out; omega
           case rel => exact ⟨(y160), (t158), (t159), H', ⟨by have := HJ4.out; have := HK2.out; omega⟩, ⟨(a29_ HO162.out)⟩, ⟨(a16_ HI0.out NB0_151.out NB0_156.out)⟩, ⟨(a28_ GW151.out GW156.out)⟩, ⟨(a30_ HI0.out GE151.out GE156.out)⟩⟩
          ·rw [if_neg c20] at H
           exact absurd H (by simp)
         ·rw [if_neg c18] at H
          exact absurd H (by simp)
        ·rw [if_neg c17] at H
         exact absurd H (by simp)
       ·replace c15 := Bool.eq_false_iff.mpr c15
        subst c15
        have H1 : (if x5_2.length < 5864062014805 then (spec_l1Cur_parts.l0 k2 a1 (x5_2 ++ [(⟨t146, t147, t148⟩ : S93)]) x6_4 s0_0 t153 t154) else (none)) = some (r1, r2, r3) := by rw [if_neg (show ¬ (false = true) by decide)] at H; exact H
        clear H
        have H := H1
        clear H1
        by_cases c39 : x5_2.length < 5864062014805
        ·rw [if_pos c39] at H
         have LMc39 := Aside0.mk c39
         clear c39
         obtain ⟨y163, hy163⟩ : ∃ y_ : List (S93), y_ = (x5_2 ++ [(⟨t146, t147, t148⟩ : S93)]) := ⟨_, rfl⟩
         replace H : (spec_l1Cur_parts.l0 k2 a1 y163 x6_4 s0_0 t153 t154) = some (r1, r2, r3) := by first|(rw [hy163]; with_reducible exact H)|(have H2_ := (Option.bind_some _ _).symm.trans H; rw [hy163]; with_reducible exact H2_)|(have H2_ := (Option.bind_some _ _).symm.trans H; with_reducible exact H2_) | with_reducible exact H|(rw [hy163]; exact H)|exact H
         have Ny163 := Aside0.mk hy163
         clear hy163
         have H' := Aside0.mk H
         clear H
         obtain ⟨Ao40, co40, eo40⟩ := Kd.R_slice HO_5.out
         subst eo40
         go_wp2_with (first|((with_reducible refine gate_callee (f := 112) rfl ?_); refine goesL_ (some 23) rfl rfl Tryd.func112 (by kernel_rfl) rfl #[.pointer (some ⟨g, 0, none⟩), .int .i64 a1] rfl (by (try simp only [List.map_toArray, List.map_cons, List.map_nil]); first | done | rfl|(simp only [List.length_drop, List.length_take]; rfl)) ?_; (with_reducible refine (spec_l1Cur_splicePart.calls g s0_0 x1001_2 x1002_2 a1 t146 t147 t148 t149 t150 w0 _ ?side1 ?side2 A12.out).mono ?_);(case side1 => exact (a1_ HI0.out));(case side2 => exact (a3_ HI0.out)); rintro e w41 ⟨rfl, hi, hb, hk⟩; refine ⟨_, rfl, ?_⟩; have n0_ := Aside0.mk (Kd.R_mono (Kd.R_keep (IsS66.apart (show IsS66 w0 _ g s0_0 x1001_2 x1002_2 from (a1_ HI0.out)) ((a2_ HO_5.out)) (by decide)) hk (fun _ h => h.2)) (fun _ h => h.1)); have n1_ := Aside0.mk (KeepBut.trans (a4_) hk (.inl rfl)); have n2_ := Aside0.mk (hb); have n3_ := Aside0.mk (hi); clear HO_5; clear HK; clear HB; clear HI0; have HO_5 := n0_; have HK := n1_; have HB := n2_; have HI0 := n3_; clear n0_ n1_ n2_ n3_; (try clear hb); (try clear hb2); (try clear hk); (try clear hi))|((with_reducible refine gate_dst (N := 7) rfl ?_); refine box_event ?hg (N := 7) ?hd (cs := #[.int .i64 0, .int .i64 0, .int .i64 0]) (t := 93) ?hr ?_;(case hd => rfl);(case hg => rfl);(case hr => first|(go_simp;done)|(go_simp; rfl)); intro gb151 hg w42 hbox hb; have n0_ := Aside0.mk (Kd.R_below (Kd.R_elderB ((a2_ HO_5.out)) gb151 (Nat.le_of_eq hg.symm)) hb); have n1_ := Aside0.mk (IsS66.below ((a1_ HI0.out)) hb); have n2_ := Aside0.mk (KeepBut.trans (a4_) (KeepBut.of_below hb g none) (.inl rfl)); have n3_ := Aside0.mk (below_step ((a3_ HI0.out)) hb); have n4_ := Aside0.mk (hbox); have n5_ := Aside0.mk ((by rw [hg]; exact (keep_size (w := w) (g := g) (row := none) (a4_)) : w.heap.size ≤ gb151)); have n6_ := Aside0.mk ((Nat.le_trans HW0.out (by rw [hg]; exact (keep_size (w := w) (g := g) (row := none) (a4_)) : w.heap.size ≤ gb151) : w0.heap.size ≤ gb151)); have n7_ := Aside0.mk ((by rw [hg]; exact Nat.ne_of_lt (IsS66.lt (show IsS66 w0 _ g s0_0 t149 t150 from (a1_ HI0.out))) : g ≠ gb151)); have n8_ := Aside0.mk ((by rw [hg]; exact Nat.ne_of_gt (IsS66.lt (show IsS66 w0 _ g s0_0 t149 t150 from (a1_ HI0.out))) : gb151 ≠ g)); clear HO_5; clear HI0; clear HK; clear HB; have HO_5 := n0_; have HI0 := n1_; have HK := n2_; have HB := n3_; have BK151 := n4_; have GW151 := n5_; have GE151 := n6_; have NB0_151 := n7_; have NB151_0 := n8_; clear n0_ n1_ n2_ n3_ n4_ n5_ n6_ n7_ n8_; clear hb hbox hg; have hnb43 := NB151_0.out; have hnc43 := NB0_151.out; have hcz44_0 : w42.cell? ⟨gb151, 0, none⟩ = some (.int .i64 0) := (blk_cell BK151.out 0).trans rfl; have hcz44_1 : w42.cell? ⟨gb151, 1, none⟩ = some (.int .i64 0) := (blk_cell BK151.out 1).trans rfl; have hcz44_2 : w42.cell? ⟨gb151, 2, none⟩ = some (.int .i64 0) := (blk_cell BK151.out 2).trans rfl; have hfz44_0 := blk_frozen BK151.out 0; have hfz44_1 := blk_frozen BK151.out 1; have hfz44_2 := blk_frozen BK151.out 2)|(go_at_call 77; (with_reducible refine (spec_l1Cur_one.calls g s0_0 t149 t150 4 false t153 t154 w0 _ ?side1 ?side2 A14.out).mono ?_);(case side1 => exact (a6_ HI0.out NB0_151.out));(case side2 => exact (a13_ HI0.out GE151.out)); rintro e w45 ⟨rfl, hi, hb, hk⟩; have n0_ := Aside0.mk (Kd.R_mono (Kd.R_keep (IsS66.apart (show IsS66 w0 _ g s0_0 t149 t150 from (a6_ HI0.out NB0_151.out)) ((a31_ HO_5.out)) (by decide)) hk (fun _ h => h.2)) (fun _ h => h.1)); have n1_ := Aside0.mk (KeepBut.blk hk (g' := gb151) (o := .cells #[.int .i64 t146, .int .i64 t147, .int .i64 t148] 93 (0, 0)) ((a14_ BK151.out)) NB151_0.out (by simp)); have n2_ := Aside0.mk (KeepBut.trans ((a12_ GW151.out)) hk (.inl rfl)); have n3_ := Aside0.mk (hb); have n4_ := Aside0.mk (hi); clear HO_5; clear BK151; clear HK; clear HB; clear HI0; have HO_5 := n0_; have BK151 := n1_; have HK := n2_; have HB := n3_; have HI0 := n4_; clear n0_ n1_ n2_ n3_ n4_; (try clear hb); (try clear hb2); (try clear hk); (try clear hi); have hcz46_0 : w45.cell? ⟨gb151, 0, none⟩ = some (.int .i64 t146) := (blk_cell BK151.out 0).trans rfl; have hcz46_1 : w45.cell? ⟨gb151, 1, none⟩ = some (.int .i64 t147) := (blk_cell BK151.out 1).trans rfl; have hcz46_2 : w45.cell? ⟨gb151, 2, none⟩ = some (.int .i64 t148) := (blk_cell BK151.out 2).trans rfl; have hfz46_0 := blk_frozen BK151.out 0; have hfz46_1 := blk_frozen BK151.out 1; have hfz46_2 := blk_frozen BK151.out 2)|((with_reducible refine gate_builtin (b := .append) (xs := #[.tmp 48, .tmp 50]) rfl ?_); at_builtin; refine Kd.R_append k93 w.heap.size rfl (.tmp 48) (.tmp 50) 46 93 (.agg #[(.int .i64 0), (.int .i64 0), (.int .i64 0)]) 24 rfl Tryd.underlying46 info93 rfl (by decide) (by omega) (.slice Ao40 x5_2.length co40) x5_2 (⟨t146, t147, t148⟩ : S93) [.int .i64 t146, .int .i64 t147, .int .i64 t148] (fun k_ => k_ ≠ gb151) (fun _ => False) rfl rfl ?aP (fun _ hk => hk.elim) ?aF ?aO (Below.refl _ _) ?aS ?aL ?_;(case aP => exact k93_mkM _ _ _ (⟨t146, t147, t148⟩ : S93));(case aF => exact (fun k_ hk => Kd.freshB (g := gb151) (o := .cells #[.int .i64 t146, .int .i64 t147, .int .i64 t148] 93 (0, 0)) ((a17_ BK151.out)) k_ hk));(case aO => exact (by (with_reducible repeat (first|apply Kd.R_alloc|apply Kd.R_drewN|apply Kd.R_drew)); exact Kd.R_mono HO_5.out (fun _ hk => hk.2)));(case aS => exact (keep_size (w := w) (g := g) (row := none) ((a12_ GW151.out))));(case aL => have := LMc39.out; omega); intro v164 w47 ho hb hg hat; rw [← Ny163.out] at ho; have n0_ := Aside0.mk (IsS66.grown ((a6_ HI0.out NB0_151.out)) hg (IsS66.own_ne HI0.out HO_5.out (by decide))); have n1_ := Aside0.mk (blk_grown (g := gb151) (o := .cells #[.int .i64 t146, .int .i64 t147, .int .i64 t148] 93 (0, 0)) ((a17_ BK151.out)) hg (Kd.R_away HO_5.out (fun _ hk => hk.2))); have n2_ := Aside0.mk (below_weaken ((a13_ HI0.out GE151.out)) HL.out hb); have n3_ := Aside0.mk (KeepBut.trans ((a12_ GW151.out)) (KeepBut.of_grown hg g) (Kd.R_base2 HO_5.out)); have n4_ := Aside0.mk (ho); clear HI0; clear BK151; clear HB; clear HK; clear HO_5; have HI0 := n0_; have BK151 := n1_; have HB := n2_; have HK := n3_; have HO165 := n4_; clear n0_ n1_ n2_ n3_ n4_; clear ho hb hg hat))
         go_roundg k2
         case measure => have := HJ4.out; have := HK2.out; omega
         case rel => exact ⟨(y163), (t153), (t154), H', ⟨by have := HJ4.out; have := HK2.out; omega⟩, ⟨(a29_ HO165.out)⟩, ⟨(a6_ HI0.out NB0_151.out)⟩, ⟨(a12_ GW151.out)⟩, ⟨(a13_ HI0.out GE151.out)⟩⟩
        ·rw [if_neg c39] at H
         exact absurd H (by simp)
      ·rw [if_neg c13] at H
       have c13b0 : decide (0 < (x5_2.length : Int)) = false := decide_eq_false c13
       have c13b1 : decide (0 < x5_2.length) = false := decide_eq_false (by omega)
       clear c13
       by_cases c48 : x5_2.length < 5864062014805
       ·rw [if_pos c48] at H
        have LMc48 := Aside0.mk c48
        clear c48
        obtain ⟨y166, hy166⟩ : ∃ y_ : List (S93), y_ = (x5_2 ++ [(⟨t146, t147, t148⟩ : S93)]) := ⟨_, rfl⟩
        replace H : (spec_l1Cur_parts.l0 k2 a1 y166 x6_4 s0_0 t149 t150) = some (r1, r2, r3) := by first|(rw [hy166]; with_reducible exact H)|(have H2_ := (Option.bind_some _ _).symm.trans H; rw [hy166]; with_reducible exact H2_)|(have H2_ := (Option.bind_some _ _).symm.trans H; with_reducible exact H2_) | with_reducible exact H|(rw [hy166]; exact H)|exact H
        have Ny166 := Aside0.mk hy166
        clear hy166
        have H' := Aside0.mk H
        clear H
        obtain ⟨Ao49, co49, eo49⟩ := Kd.R_slice HO_5.out
        subst eo49
        go_wp2_with (first|((with_reducible refine gate_callee (f := 112) rfl ?_); refine goesL_ (some 23) rfl rfl Tryd.func112 (by kernel_rfl) rfl #[.pointer (some ⟨g, 0, none⟩), .int .i64 a1] rfl (by (try simp only [List.map_toArray, List.map_cons, List.map_nil]); first | done | rfl|(simp only [List.length_drop, List.length_take]; rfl)) ?_; (with_reducible refine (spec_l1Cur_splicePart.calls g s0_0 x1001_2 x1002_2 a1 t146 t147 t148 t149 t150 w0 _ ?side1 ?side2 A12.out).mono ?_);(case side1 => exact (a1_ HI0.out));(case side2 => exact (a3_ HI0.out)); rintro e w50 ⟨rfl, hi, hb, hk⟩; refine ⟨_, rfl, ?_⟩; have n0_ := Aside0.mk (Kd.R_mono (Kd.R_keep (IsS66.apart (show IsS66 w0 _ g s0_0 x1001_2 x1002_2 from (a1_ HI0.out)) ((a2_ HO_5.out)) (by decide)) hk (fun _ h => h.2)) (fun _ h => h.1)); have n1_ := Aside0.mk (KeepBut.trans (a4_) hk (.inl rfl)); have n2_ := Aside0.mk (hb); have n3_ := Aside0.mk (hi); clear HO_5; clear HK; clear HB; clear HI0; have HO_5 := n0_; have HK := n1_; have HB := n2_; have HI0 := n3_; clear n0_ n1_ n2_ n3_; (try clear hb); (try clear hb2); (try clear hk); (try clear hi))|((with_reducible refine gate_dst (N := 7) rfl ?_); refine box_event ?hg (N := 7) ?hd (cs := #[.int .i64 0, .int .i64 0, .int .i64 0]) (t := 93) ?hr ?_;(case hd => rfl);(case hg => rfl);(case hr => first|(go_simp;done)|(go_simp; rfl)); intro gb151 hg w51 hbox hb; have n0_ := Aside0.mk (Kd.R_below (Kd.R_elderB ((a2_ HO_5.out)) gb151 (Nat.le_of_eq hg.symm)) hb); have n1_ := Aside0.mk (IsS66.below ((a1_ HI0.out)) hb); have n2_ := Aside0.mk (KeepBut.trans (a4_) (KeepBut.of_below hb g none) (.inl rfl)); have n3_ := Aside0.mk (below_step ((a3_ HI0.out)) hb); have n4_ := Aside0.mk (hbox); have n5_ := Aside0.mk ((by rw [hg]; exact (keep_size (w := w) (g := g) (row := none) (a4_)) : w.heap.size ≤ gb151)); have n6_ := Aside0.mk ((Nat.le_trans HW0.out (by rw [hg]; exact (keep_size (w := w) (g := g) (row := none) (a4_)) : w.heap.size ≤ gb151) : w0.heap.size ≤ gb151)); have n7_ := Aside0.mk ((by rw [hg]; exact Nat.ne_of_lt (IsS66.lt (show IsS66 w0 _ g s0_0 t149 t150 from (a1_ HI0.out))) : g ≠ gb151)); have n8_ := Aside0.mk ((by rw [hg]; exact Nat.ne_of_gt (IsS66.lt (show IsS66 w0 _ g s0_0 t149 t150 from (a1_ HI0.out))) : gb151 ≠ g)); clear HO_5; clear HI0; clear HK; clear HB; have HO_5 := n0_; have HI0 := n1_; have HK := n2_; have HB := n3_; have BK151 := n4_; have GW151 := n5_; have GE151 := n6_; have NB0_151 := n7_; have NB151_0 := n8_; clear n0_ n1_ n2_ n3_ n4_ n5_ n6_ n7_ n8_; clear hb hbox hg; have hnb52 := NB151_0.out; have hnc52 := NB0_151.out; have hcz53_0 : w51.cell? ⟨gb151, 0, none⟩ = some (.int .i64 0) := (blk_cell BK151.out 0).trans rfl; have hcz53_1 : w51.cell? ⟨gb151, 1, none⟩ = some (.int .i64 0) := (blk_cell BK151.out 1).trans rfl; have hcz53_2 : w51.cell? ⟨gb151, 2, none⟩ = some (.int .i64 0) := (blk_cell BK151.out 2).trans rfl; have hfz53_0 := blk_frozen BK151.out 0; have hfz53_1 := blk_frozen BK151.out 1; have hfz53_2 := blk_frozen BK151.out 2)|((with_reducible refine gate_builtin (b := .append) (xs := #[.tmp 48, .tmp 50]) rfl ?_); at_builtin; refine Kd.R_append k93 w.heap.size rfl (.tmp 48) (.tmp 50) 46 93 (.agg #[(.int .i64 0), (.int .i64 0), (.int .i64 0)]) 24 rfl Tryd.underlying46 info93 rfl (by decide) (by omega) (.slice Ao49 x5_2.length co49) x5_2 (⟨t146, t147, t148⟩ : S93) [.int .i64 t146, .int .i64 t147, .int .i64 t148] (fun k_ => k_ ≠ gb151) (fun _ => False) rfl (by first|(go_simp;done)|(go_simp; rfl)) ?aP (fun _ hk => hk.elim) ?aF ?aO (Below.refl _ _) ?aS ?aL ?_;(case aP => exact k93_mkM _ _ _ (⟨t146, t147, t148⟩ : S93));(case aF => exact (fun k_ hk => Kd.freshB (g := gb151) (o := .cells #[.int .i64 t146, .int .i64 t147, .int .i64 t148] 93 (0, 0)) ((a14_ BK151.out)) k_ hk));(case aO => exact (by (with_reducible repeat (first|apply Kd.R_alloc|apply Kd.R_drewN|apply Kd.R_drew)); exact Kd.R_mono (Kd.R_far (p := ⟨gb151, 2, none⟩) (Kd.R_far (p := ⟨gb151, 1, none⟩) (Kd.R_far (p := ⟨gb151, 0, none⟩) (Kd.R_mono HO_5.out (fun k_ hk => (⟨hk, hk.2⟩ : _ ∧ k_ ≠ gb151))) (fun _ hk => hk.2) (.int .i64 t146)) (fun _ hk => hk.2) (.int .i64 t147)) (fun _ hk => hk.2) (.int .i64 t148)) (fun _ hk => hk.1.2)));(case aS => exact (keep_size (w := w) (g := g) (row := none) ((a12_ GW151.out))));(case aL => have := LMc48.out; omega); intro v167 w54 ho hb hg hat; rw [← Ny166.out] at ho; have n0_ := Aside0.mk (IsS66.grown ((a6_ HI0.out NB0_151.out)) hg (IsS66.own_ne HI0.out HO_5.out (by decide))); have n1_ := Aside0.mk (blk_grown (g := gb151) (o := .cells #[.int .i64 t146, .int .i64 t147, .int .i64 t148] 93 (0, 0)) ((a14_ BK151.out)) hg (Kd.R_away HO_5.out (fun _ hk => hk.2))); have n2_ := Aside0.mk (below_weaken ((a13_ HI0.out GE151.out)) HL.out hb); have n3_ := Aside0.mk (KeepBut.trans ((a12_ GW151.out)) (KeepBut.of_grown hg g) (Kd.R_base2 HO_5.out)); have n4_ := Aside0.mk (ho); clear HI0; clear BK151; clear HB; clear HK; clear HO_5; have HI0 := n0_; have BK151 := n1_; have HB := n2_; have HK := n3_; have HO168 := n4_; clear n0_ n1_ n2_ n3_ n4_; clear ho hb hg hat))
        go_roundg k2
        case measure => have := HJ4.out; have := HK2.out; omega
        case rel => exact ⟨(y166), (t149), (t150), H', ⟨by have := HJ4.out; have := HK2.out; omega⟩, ⟨(a29_ HO168.out)⟩, ⟨(a6_ HI0.out NB0_151.out)⟩, ⟨(a12_ GW151.out)⟩, ⟨(a13_ HI0.out GE151.out)⟩⟩
       ·rw [if_neg c48] at H
        exact absurd H (by simp)
     ·rw [if_neg c11] at H
      have c11b0 : decide ((x5_2.length : Int) < x6_4) = false := decide_eq_false c11
      clear c11
      by_cases c55 : (x5_2.length : Int) > 0
      ·rw [if_pos c55] at H
       have c55b0 : decide (0 < (x5_2.length : Int)) = true := decide_eq_true c55
       have c55b1 : decide (0 < x5_2.length) = true := decide_eq_true (by omega)
       clear c55
       replace H := Option.bind_eq_some_iff.mp H
       obtain ⟨⟨t169, t170, t171⟩, A560, H⟩ := H
       try dsimp only at H
       have A56 := Aside0.mk A560
       clear A560
       by_cases c57 : 0 ≤ t169
       ·rw [if_pos c57] at H
        have c57b0 : decide (0 ≤ t169) = true := decide_eq_true c57
        clear c57
        by_cases c58 : t169 < (x5_2.length : Int)
        ·rw [if_pos c58] at H
         have c58b0 : decide (t169 < (x5_2.length : Int)) = true := decide_eq_true c58
         clear c58
         replace H := Option.bind_eq_some_iff.mp H
         obtain ⟨⟨t172, t173, t174⟩, A600, H⟩ := H
         try dsimp only at H
         have A60 := Aside0.mk A600
         clear A600
         by_cases c61 : t172 = 0
         ·rw [if_pos c61] at H
          have c61b0 : (t172 == 0) = true := beq_iff_eq.mpr c61
          have c61b1 : (t172 != 0) = false := bne_eq_false_iff_eq.mpr c61
          clear c61
          obtain ⟨y175, hy175⟩ : ∃ y_ : List Int, y_ = (([(-1), 3, 4] : List Int)) := ⟨_, rfl⟩
          replace H : ((spec_l1Cur_among.f s0_0 t173 t174 y175).bind fun bt178 => (some ((x5_2.set (t169 : Int).toNat (⟨bt178.1, (rd_T93 x5_2 t169).f1, (rd_T93 x5_2 t169).f2⟩ : S93)), bt178.2.1, bt178.2.2))) = some (r1, r2, r3) := by first|(rw [hy175]; with_reducible exact H)|(have H2_ := (Option.bind_some _ _).symm.trans H; rw [hy175]; with_reducible exact H2_)|(have H2_ := (Option.bind_some _ _).symm.trans H; with_reducible exact H2_) | with_reducible exact H|(rw [hy175]; exact H)|exact H
          have Ny175 := Aside0.mk hy175
          clear hy175
          replace H := Option.bind_eq_some_iff.mp H
          obtain ⟨⟨t178, t179, t180⟩, A620, H⟩ := H
          try dsimp only at H
          have A62 := Aside0.mk A620
          clear A620
          obtain ⟨y181, hy181⟩ : ∃ y_ : List (S93), y_ = (x5_2.set (t169 : Int).toNat (⟨t178, (rd_T93 x5_2 t169).f1, (rd_T93 x5_2 t169).f2⟩ : S93)) := ⟨_, rfl⟩
          replace H : (some (y181, t179, t180)) = some (r1, r2, r3) := by first|(rw [hy181]; with_reducible exact H)|(have H2_ := (Option.bind_some _ _).symm.trans H; rw [hy181]; with_reducible exact H2_)|(have H2_ := (Option.bind_some _ _).symm.trans H; with_reducible exact H2_) | with_reducible exact H|(rw [hy181]; exact H)|exact H
          have Ny181 := Aside0.mk hy181
          clear hy181
          simp only [Option.some.injEq, Prod.mk.injEq] at H
          obtain ⟨rfl, rfl, rfl⟩ := H
          obtain ⟨Ao63, co63, eo63⟩ := Kd.R_slice HO_5.out
          subst eo63
          go_wp2_with (first|((with_reducible refine gate_callee (f := 70) rfl ?_); refine goesL_ (some 59) rfl rfl Tryd.func70 (by kernel_rfl) rfl #[.pointer (some ⟨g, 0, none⟩), .int .i64 (x5_2.length : Int)] rfl (by (try simp only [List.map_toArray, List.map_cons, List.map_nil]); first | done | rfl|(simp only [List.length_drop, List.length_take]; rfl)) ?_; (with_reducible refine (spec_l1Cur_pick.calls g s0_0 x1001_2 x1002_2 (x5_2.length : Int) t169 t170 t171 w0 _ ?side1 ?side2 A56.out).mono ?_);(case side1 => exact (a1_ HI0.out));(case side2 => exact (a3_ HI0.out)); rintro e w64 ⟨rfl, hi, hb, hk⟩; refine ⟨_, rfl, ?_⟩; have n0_ := Aside0.mk (Kd.R_mono (Kd.R_keep (IsS66.apart (show IsS66 w0 _ g s0_0 x1001_2 x1002_2 from (a1_ HI0.out)) ((a2_ HO_5.out)) (by decide)) hk (fun _ h => h.2)) (fun _ h => h.1)); have n1_ := Aside0.mk (KeepBut.trans (a4_) hk (.inl rfl)); have n2_ := Aside0.mk (hb); have n3_ := Aside0.mk (hi); clear HO_5; clear HK; clear HB; clear HI0; have HO_5 := n0_; have HK := n1_; have HB := n2_; have HI0 := n3_; clear n0_ n1_ n2_ n3_; (try clear hb); (try clear hb2); (try clear hk); (try clear hi); have p59 : 0 ≤ (t169 : Int) := of_decide_eq_true (a7_); have q59 : (t169 : Int) < ((x5_2.length : Int) : Int) := of_decide_eq_true (a7_); obtain ⟨go59, co59, eo59, gb59, gl59, cl59, HG59⟩ := Kd.R_form HO_5.out (by omega); (first|cases eo59|(injection eo59 with ea_ en_ ec_; (first|subst ea_|(injection ea_ with ea_; subst ea_)); subst ec_; clear en_)); have GB59 := Aside0.mk gb59; have GG59 := Aside0.mk HG59; clear gb59 gl59 HG59; obtain ⟨ce59, hcl59, hM59, hcc59, hfr59⟩ := Kd.R_elem HO_5.out z93 (t169 : Int) p59 q59; obtain rfl := k93_openM hM59; have hx59_0 : w64.cell? ⟨go59, (t169 : Int).toNat * 3, none⟩ = some (.int .i64 ((rd_T93 x5_2 t169).f0)) := hcc59 0 _ rfl; have hx59_1 : w64.cell? ⟨go59, (t169 : Int).toNat * 3 + 1, none⟩ = some (.int .i64 ((rd_T93 x5_2 t169).f1)) := hcc59 1 _ rfl; have hx59_2 : w64.cell? ⟨go59, (t169 : Int).toNat * 3 + 2, none⟩ = some (.int .i64 ((rd_T93 x5_2 t169).f2)) := hcc59 2 _ rfl; have hf59_0 : w64.frozen? ⟨go59, (t169 : Int).toNat * 3, none⟩ = false := hfr59 0; have hf59_1 : w64.frozen? ⟨go59, (t169 : Int).toNat * 3 + 1, none⟩ = false := hfr59 1; have hf59_2 : w64.frozen? ⟨go59, (t169 : Int).toNat * 3 + 2, none⟩ = false := hfr59 2; clear hcl59 hcc59 hfr59; (try clear hM59); replace p59 := eq_true p59; replace q59 := eq_true q59)|((with_reducible refine gate_callee (f := 70) rfl ?_); refine goesL_ (some 62) rfl rfl Tryd.func70 (by kernel_rfl) rfl #[.pointer (some ⟨g, 0, none⟩), .int .i64 30] rfl (by (try simp only [List.map_toArray, List.map_cons, List.map_nil]); first | done | rfl|(simp only [List.length_drop, List.length_take]; rfl)) ?_; (with_reducible refine (spec_l1Cur_pick.calls g s0_0 t170 t171 30 t172 t173 t174 w0 _ ?side1 ?side2 A60.out).mono ?_);(case side1 => exact (a1_ HI0.out));(case side2 => exact (a3_ HI0.out)); rintro e w65 ⟨rfl, hi, hb, hk⟩; refine ⟨_, rfl, ?_⟩; have n0_ := Aside0.mk (Kd.R_mono (Kd.R_keep (IsS66.apart (show IsS66 w0 _ g s0_0 t170 t171 from (a1_ HI0.out)) ((a2_ HO_5.out)) (by decide)) hk (fun _ h => h.2)) (fun _ h => h.1)); have n1_ := Aside0.mk (KeepBut.trans (a4_) hk (.inl rfl)); have n2_ := Aside0.mk (hb); have n3_ := Aside0.mk (hi); clear HO_5; clear HK; clear HB; clear HI0; have HO_5 := n0_; have HK := n1_; have HB := n2_; have HI0 := n3_; clear n0_ n1_ n2_ n3_; (try clear hb); (try clear hb2); (try clear hk); (try clear hi); (try (obtain ⟨ce59b, hcl59b, hM59b, hcc59b, hfr59b⟩ := Kd.R_elem HO_5.out z93 (t169 : Int) (of_eq_true p59) (of_eq_true q59); obtain rfl := k93_openM hM59b; have hx59b_0 : w65.cell? ⟨go59, (t169 : Int).toNat * 3, none⟩ = some (.int .i64 ((rd_T93 x5_2 t169).f0)) := hcc59b 0 _ rfl; have hx59b_1 : w65.cell? ⟨go59, (t169 : Int).toNat * 3 + 1, none⟩ = some (.int .i64 ((rd_T93 x5_2 t169).f1)) := hcc59b 1 _ rfl; have hx59b_2 : w65.cell? ⟨go59, (t169 : Int).toNat * 3 + 2, none⟩ = some (.int .i64 ((rd_T93 x5_2 t169).f2)) := hcc59b 2 _ rfl; have hf59b_0 : w65.frozen? ⟨go59, (t169 : Int).toNat * 3, none⟩ = false := hfr59b 0; have hf59b_1 : w65.frozen? ⟨go59, (t169 : Int).toNat * 3 + 1, none⟩ = false := hfr59b 1; have hf59b_2 : w65.frozen? ⟨go59, (t169 : Int).toNat * 3 + 2, none⟩ = false := hfr59b 2; clear hcl59b hcc59b hfr59b)))|((with_reducible refine gate_dst (N := 67) rfl ?_); refine Kd.R_lit (Kd.int .i64) _ 3 ?hg (N := 67) ?hd (xs := ([(-1), 3, 4] : List Int)) (inner := [.int .i64 (-1), .int .i64 3, .int .i64 4]) (ok := fun _ => True) (okp := fun _ => True) ?hr ?hp (fun _ hk => hk) trivial (Below.refl _ _) (Nat.le_refl _) (by simp) ?_;(case hd => rfl);(case hg => rfl);(case hr => first|(go_simp;done)|(go_simp; rfl));(case hp => exact (Reps.one (show Kd.M (Kd.int .i64) _ _ _ (-1) [.int .i64 (-1)] from rfl) (Reps.one (show Kd.M (Kd.int .i64) _ _ _ 3 [.int .i64 3] from rfl) (Reps.one (show Kd.M (Kd.int .i64) _ _ _ 4 [.int .i64 4] from rfl) (Reps.none _ _))))); intro v176 w66 ho67 hb hg_ hnew_; clear hg_ hnew_; (first|rw [← Ny175.out] at ho67|(simp only [Int.reduceToNat] at ho67; rw [← Ny175.out] at ho67)); have n0_ := Aside0.mk (Kd.R_below ((a2_ HO_5.out)) hb); have n1_ := Aside0.mk (Kd.R_lower ho67 (keep_size (w := w) (g := g) (row := none) (a4_))); have n2_ := Aside0.mk (IsS66.below ((a1_ HI0.out)) hb); have n3_ := Aside0.mk (KeepBut.trans (a4_) (KeepBut.of_below hb g none) (.inl rfl)); have n4_ := Aside0.mk (below_step ((a3_ HI0.out)) hb); clear HO_5; clear HI0; clear HK; clear HB; have HO_5 := n0_; have HO177 := n1_; have HI0 := n2_; have HK := n3_; have HB := n4_; clear n0_ n1_ n2_ n3_ n4_; clear hb ho67; obtain ⟨Ao68, co68, eo68⟩ := Kd.R_slice HO177.out; subst eo68)|((with_reducible refine gate_callee (f := 74) rfl ?_); refine goesL_ (some 68) rfl rfl Tryd.func74 (by kernel_rfl) rfl #[.pointer (some ⟨g, 0, none⟩), .slice Ao68 y175.length co68] rfl (by (try simp only [List.map_toArray, List.map_cons, List.map_nil]); first | done | rfl|(simp only [List.length_drop, List.length_take]; rfl)) ?_; (with_reducible refine (spec_l1Cur_among.calls g s0_0 t173 t174 _ _ y175 t178 t179 t180 w0 _ ?side1 ?side2 ?side3 ?side4 ?side5 A62.out).mono ?_);(case side1 => exact (a1_ HI0.out));(case side2 => exact (a3_ HI0.out));(case side3 => exact (a9_ HO177.out));(case side4 => exact (Kd.R_reads' HO177.out).2.1);(case side5 => exact far_slice (IsS66.own_ne HI0.out HO177.out (by decide))); rintro e w69 ⟨rfl, hi, hb, hk⟩; refine ⟨_, rfl, ?_⟩; have n0_ := Aside0.mk (Kd.R_mono (Kd.R_keep (IsS66.apart (show IsS66 w0 _ g s0_0 t173 t174 from (a1_ HI0.out)) ((a2_ HO_5.out)) (by decide)) hk (fun _ h => h.2)) (fun _ h => h.1)); have n1_ := Aside0.mk (Kd.R_mono (Kd.R_keep (IsS66.apart (show IsS66 w0 _ g s0_0 t173 t174 from (a1_ HI0.out)) ((a2_ HO177.out)) (by decide)) hk (fun _ h => h.2)) (fun _ h => h.1)); have n2_ := Aside0.mk (KeepBut.trans (a4_) hk (.inl rfl)); have n3_ := Aside0.mk (hb); have n4_ := Aside0.mk (hi); clear HO_5; clear HO177; clear HK; clear HB; clear HI0; have HO_5 := n0_; have HO177 := n1_; have HK := n2_; have HB := n3_; have HI0 := n4_; clear n0_ n1_ n2_ n3_ n4_; (try clear hb); (try clear hb2); (try clear hk); (try clear hi); have HX70 := Aside0.mk (show Kd.R k93 93 w69 w.heap.size (fun _ => True) (.slice (some ⟨go59, 0, none⟩) x5_2.length co63) x5_2 from ((a2_ HO_5.out))); obtain ⟨ce70, hcl70, hM70, hcc70, hfr70⟩ := Kd.R_elem HX70.out z93 (t169 : Int) (of_decide_eq_true (a7_)) (by have h_ : (t169 : Int) < ((x5_2.length : Int) : Int) := of_decide_eq_true (a7_); first|exact h_|(have e_ := (Kd.R_reads' HO_5.out).1; omega) | simpa using h_); obtain rfl := k93_openM hM70; have HP70 := Kd.R_seg HX70.out (t169 : Int) (of_decide_eq_true (a7_)) (by have h_ : (t169 : Int) < ((x5_2.length : Int) : Int) := of_decide_eq_true (a7_); first|exact h_|(have e_ := (Kd.R_reads' HO_5.out).1; omega) | simpa using h_) (seg := [.int .i64 t178]) (j := 0) hcl70 hcc70 (show 1 ≤ 3 from by decide) (x' := (⟨t178, (rd_T93 x5_2 t169).f1, (rd_T93 x5_2 t169).f2⟩ : S93)) (k93_mkM _ _ _ (⟨t178, (rd_T93 x5_2 t169).f1, (rd_T93 x5_2 t169).f2⟩ : S93) ) (fun _ hk => hk); have hx70_0 := hcc70 0 _ rfl; (try simp only [show (k93).sz = 3 from rfl, Nat.mul_one, Nat.add_zero] at hx70_0); have hf70_0 := hfr70 0; (try simp only [show (k93).sz = 3 from rfl, Nat.mul_one, Nat.add_zero] at hf70_0); clear hcl70 hcc70 hfr70; (try clear hM70))|((with_reducible refine gate_store (t := 3) (p := 70) rfl ?_); refine store_event (t := 3) (p := 70) (v := ?vo_w71) (w1 := (w69.setCell ⟨go59, (t169 : Int).toNat * 3, none⟩ (.int .i64 t178))) ?hg ?ho ?hn ?hr ?_;(case ho => rfl);(case hg => rfl);(case hn => rfl);(case hr => first|(go_simp;done)|(go_simp; rfl)); intro w71 hw; have hg : w69.grownBy w71 (some go59) := (by rw [hw]; exact HP70.2); have hp_ : Kd.R k93 93 w71 w.heap.size (fun _ => True) (.slice (some ⟨go59, 0, none⟩) x5_2.length co63) y181 := (by rw [hw, Ny181.out]; exact HP70.1); clear HP70; have n0_ := Aside0.mk (hp_); have n1_ := Aside0.mk (IsS66.grown ((a1_ HI0.out)) hg (IsS66.own_ne HI0.out HO_5.out (by decide))); have n2_ := Aside0.mk (Kd.R_over' (v := (.slice (some ⟨go59, 0, none⟩) x5_2.length co63)) ((a2_ HO177.out)) (Kd.R_typed HO_5.out) (by decide) hg); have n3_ := Aside0.mk ((by rw [hw]; exact below_set (HB.out) (Nat.le_trans HL.out GB59.out) : Below w0.heap.size w0 w71)); have n4_ := Aside0.mk (KeepBut.trans (a4_) (KeepBut.of_grown hg g) (Kd.R_base2 HO_5.out)); clear HO_5; clear HI0; clear HO177; clear HB; clear HK; have HO_5 := n0_; have HI0 := n1_; have HO177 := n2_; have HB := n3_; have HK := n4_; clear n0_ n1_ n2_ n3_ n4_; clear hg hw hp_))
          go_ret
          exact ⟨_, a5_, (a2_ HO_5.out), (a1_ HI0.out), (a3_ HI0.out), a4_⟩
         ·rw [if_neg c61] at H
          have c61b0 : (t172 == 0) = false := beq_eq_false_iff_ne.mpr c61
          have c61b1 : (t172 != 0) = true := bne_iff_ne.mpr c61
          by_cases c72 : t172 = 1
          ·rw [if_pos c72] at H
           have c72b0 : (t172 == 1) = true := beq_iff_eq.mpr c72
           have c72b1 : (t172 != 1) = false := bne_eq_false_iff_eq.mpr c72
           clear c72
           obtain ⟨y182, hy182⟩ : ∃ y_ : List Int, y_ = (([(-1), (rd_T93 x5_2 t169).f2] : List Int)) := ⟨_, rfl⟩
           replace H : ((spec_l1Cur_among.f s0_0 t173 t174 y182).bind fun bt185 => (some ((x5_2.set (t169 : Int).toNat (⟨(rd_T93 x5_2 t169).f0, bt185.1, (rd_T93 x5_2 t169).f2⟩ : S93)), bt185.2.1, bt185.2.2))) = some (r1, r2, r3) := by first|(rw [hy182]; with_reducible exact H)|(have H2_ := (Option.bind_some _ _).symm.trans H; rw [hy182]; with_reducible exact H2_)|(have H2_ := (Option.bind_some _ _).symm.trans H; with_reducible exact H2_) | with_reducible exact H|(rw [hy182]; exact H)|exact H
           have Ny182 := Aside0.mk hy182
           clear hy182
           replace H := Option.bind_eq_some_iff.mp H
           obtain ⟨⟨t185, t186, t187⟩, A730, H⟩ := H
           try dsimp only at H
           have A73 := Aside0.mk A730
           clear A730
           obtain ⟨y188, hy188⟩ : ∃ y_ : List (S93), y_ = (x5_2.set (t169 : Int).toNat (⟨(rd_T93 x5_2 t169).f0, t185, (rd_T93 x5_2 t169).f2⟩ : S93)) := ⟨_, rfl⟩
           replace H : (some (y188, t186, t187)) = some (r1, r2, r3) := by first|(rw [hy188]; with_reducible exact H)|(have H2_ := (Option.bind_some _ _).symm.trans H; rw [hy188]; with_reducible exact H2_)|(have H2_ := (Option.bind_some _ _).symm.trans H; with_reducible exact H2_) | with_reducible exact H|(rw [hy188]; exact H)|exact H
           have Ny188 := Aside0.mk hy188
           clear hy188
           simp only [Option.some.injEq, Prod.mk.injEq] at H
           obtain ⟨rfl, rfl, rfl⟩ := H
           obtain ⟨Ao74, co74, eo74⟩ := Kd.R_slice HO_5.out
           subst eo74
           go_wp2_with (first|((with_reducible refine gate_callee (f := 70) rfl ?_); refine goesL_ (some 59) rfl rfl Tryd.func70 (by kernel_rfl) rfl #[.pointer (some ⟨g, 0, none⟩), .int .i64 (x5_2.length : Int)] rfl (by (try simp only [List.map_toArray, List.map_cons, List.map_nil]); first | done | rfl|(simp only [List.length_drop, List.length_take]; rfl)) ?_; (with_reducible refine (spec_l1Cur_pick.calls g s0_0 x1001_2 x1002_2 (x5_2.length : Int) t169 t170 t171 w0 _ ?side1 ?side2 A56.out).mono ?_);(case side1 => exact (a1_ HI0.out));(case side2 => exact (a3_ HI0.out)); rintro e w75 ⟨rfl, hi, hb, hk⟩; refine ⟨_, rfl, ?_⟩; have n0_ := Aside0.mk (Kd.R_mono (Kd.R_keep (IsS66.apart (show IsS66 w0 _ g s0_0 x1001_2 x1002_2 from (a1_ HI0.out)) ((a2_ HO_5.out)) (by decide)) hk (fun _ h => h.2)) (fun _ h => h.1)); have n1_ := Aside0.mk (KeepBut.trans (a4_) hk (.inl rfl)); have n2_ := Aside0.mk (hb); have n3_ := Aside0.mk (hi); clear HO_5; clear HK; clear HB; clear HI0; have HO_5 := n0_; have HK := n1_; have HB := n2_; have HI0 := n3_; clear n0_ n1_ n2_ n3_; (try clear hb); (try clear hb2); (try clear hk); (try clear hi); have p59 : 0 ≤ (t169 : Int) := of_decide_eq_true (a7_); have q59 : (t169 : Int) < ((x5_2.length : Int) : Int) := of_decide_eq_true (a7_); obtain ⟨go59, co59, eo59, gb59, gl59, cl59, HG59⟩ := Kd.R_form HO_5.out (by omega); (first|cases eo59|(injection eo59 with ea_ en_ ec_; (first|subst ea_|(injection ea_ with ea_; subst ea_)); subst ec_; clear en_)); have GB59 := Aside0.mk gb59; have GG59 := Aside0.mk HG59; clear gb59 gl59 HG59; obtain ⟨ce59, hcl59, hM59, hcc59, hfr59⟩ := Kd.R_elem HO_5.out z93 (t169 : Int) p59 q59; obtain rfl := k93_openM hM59; have hx59_0 : w75.cell? ⟨go59, (t169 : Int).toNat * 3, none⟩ = some (.int .i64 ((rd_T93 x5_2 t169).f0)) := hcc59 0 _ rfl; have hx59_1 : w75.cell? ⟨go59, (t169 : Int).toNat * 3 + 1, none⟩ = some (.int .i64 ((rd_T93 x5_2 t169).f1)) := hcc59 1 _ rfl; have hx59_2 : w75.cell? ⟨go59, (t169 : Int).toNat * 3 + 2, none⟩ = some (.int .i64 ((rd_T93 x5_2 t169).f2)) := hcc59 2 _ rfl; have hf59_0 : w75.frozen? ⟨go59, (t169 : Int).toNat * 3, none⟩ = false := hfr59 0; have hf59_1 : w75.frozen? ⟨go59, (t169 : Int).toNat * 3 + 1, none⟩ = false := hfr59 1; have hf59_2 : w75.frozen? ⟨go59, (t169 : Int).toNat * 3 + 2, none⟩ = false := hfr59 2; clear hcl59 hcc59 hfr59; (try clear hM59); replace p59 := eq_true p59; replace q59 := eq_true q59)|((with_reducible refine gate_callee (f := 70) rfl ?_); refine goesL_ (some 62) rfl rfl Tryd.func70 (by kernel_rfl) rfl #[.pointer (some ⟨g, 0, none⟩), .int .i64 30] rfl (by (try simp only [List.map_toArray, List.map_cons, List.map_nil]); first | done | rfl|(simp only [List.length_drop, List.length_take]; rfl)) ?_; (with_reducible refine (spec_l1Cur_pick.calls g s0_0 t170 t171 30 t172 t173 t174 w0 _ ?side1 ?side2 A60.out).mono ?_);(case side1 => exact (a1_ HI0.out));(case side2 => exact (a3_ HI0.out)); rintro e w76 ⟨rfl, hi, hb, hk⟩; refine ⟨_, rfl, ?_⟩; have n0_ := Aside0.mk (Kd.R_mono (Kd.R_keep (IsS66.apart (show IsS66 w0 _ g s0_0 t170 t171 from (a1_ HI0.out)) ((a2_ HO_5.out)) (by decide)) hk (fun _ h => h.2)) (fun _ h => h.1)); have n1_ := Aside0.mk (KeepBut.trans (a4_) hk (.inl rfl)); have n2_ := Aside0.mk (hb); have n3_ := Aside0.mk (hi); clear HO_5; clear HK; clear HB; clear HI0; have HO_5 := n0_; have HK := n1_; have HB := n2_; have HI0 := n3_; clear n0_ n1_ n2_ n3_; (try clear hb); (try clear hb2); (try clear hk); (try clear hi); (try (obtain ⟨ce59b, hcl59b, hM59b, hcc59b, hfr59b⟩ := Kd.R_elem HO_5.out z93 (t169 : Int) (of_eq_true p59) (of_eq_true q59); obtain rfl := k93_openM hM59b; have hx59b_0 : w76.cell? ⟨go59, (t169 : Int).toNat * 3, none⟩ = some (.int .i64 ((rd_T93 x5_2 t169).f0)) := hcc59b 0 _ rfl; have hx59b_1 : w76.cell? ⟨go59, (t169 : Int).toNat * 3 + 1, none⟩ = some (.int .i64 ((rd_T93 x5_2 t169).f1)) := hcc59b 1 _ rfl; have hx59b_2 : w76.cell? ⟨go59, (t169 : Int).toNat * 3 + 2, none⟩ = some (.int .i64 ((rd_T93 x5_2 t169).f2)) := hcc59b 2 _ rfl; have hf59b_0 : w76.frozen? ⟨go59, (t169 : Int).toNat * 3, none⟩ = false := hfr59b 0; have hf59b_1 : w76.frozen? ⟨go59, (t169 : Int).toNat * 3 + 1, none⟩ = false := hfr59b 1; have hf59b_2 : w76.frozen? ⟨go59, (t169 : Int).toNat * 3 + 2, none⟩ = false := hfr59b 2; clear hcl59b hcc59b hfr59b)))|((with_reducible refine gate_dst (N := 79) rfl ?_); refine Kd.R_lit (Kd.int .i64) _ 3 ?hg (N := 79) ?hd (xs := ([(-1), (rd_T93 x5_2 t169).f2] : List Int)) (inner := [.int .i64 (-1), .int .i64 ((rd_T93 x5_2 t169).f2)]) (ok := fun _ => True) (okp := fun _ => True) ?hr ?hp (fun _ hk => hk) trivial (Below.refl _ _) (Nat.le_refl _) (by simp) ?_;(case hd => rfl);(case hg => rfl);(case hr => first|(go_simp;done)|(go_simp; rfl));(case hp => exact (Reps.one (show Kd.M (Kd.int .i64) _ _ _ (-1) [.int .i64 (-1)] from rfl) (Reps.one (show Kd.M (Kd.int .i64) _ _ _ ((rd_T93 x5_2 t169).f2) [.int .i64 ((rd_T93 x5_2 t169).f2)] from rfl) (Reps.none _ _)))); intro v183 w77 ho78 hb hg_ hnew_; clear hg_ hnew_; (first|rw [← Ny182.out] at ho78|(simp only [Int.reduceToNat] at ho78; rw [← Ny182.out] at ho78)); have n0_ := Aside0.mk (Kd.R_below ((a2_ HO_5.out)) hb); have n1_ := Aside0.mk (Kd.R_lower ho78 (keep_size (w := w) (g := g) (row := none) (a4_))); have n2_ := Aside0.mk (IsS66.below ((a1_ HI0.out)) hb); have n3_ := Aside0.mk (KeepBut.trans (a4_) (KeepBut.of_below hb g none) (.inl rfl)); have n4_ := Aside0.mk (below_step ((a3_ HI0.out)) hb); clear HO_5; clear HI0; clear HK; clear HB; have HO_5 := n0_; have HO184 := n1_; have HI0 := n2_; have HK := n3_; have HB := n4_; clear n0_ n1_ n2_ n3_ n4_; clear hb ho78; obtain ⟨Ao79, co79, eo79⟩ := Kd.R_slice HO184.out; subst eo79)|((with_reducible refine gate_callee (f := 74) rfl ?_); refine goesL_ (some 80) rfl rfl Tryd.func74 (by kernel_rfl) rfl #[.pointer (some ⟨g, 0, none⟩), .slice Ao79 y182.length co79] rfl (by (try simp only [List.map_toArray, List.map_cons, List.map_nil]); first | done | rfl|(simp only [List.length_drop, List.length_take]; rfl)) ?_; (with_reducible refine (spec_l1Cur_among.calls g s0_0 t173 t174 _ _ y182 t185 t186 t187 w0 _ ?side1 ?side2 ?side3 ?side4 ?side5 A73.out).mono ?_);(case side1 => exact (a1_ HI0.out));(case side2 => exact (a3_ HI0.out));(case side3 => exact (a9_ HO184.out));(case side4 => exact (Kd.R_reads' HO184.out).2.1);(case side5 => exact far_slice (IsS66.own_ne HI0.out HO184.out (by decide))); rintro e w80 ⟨rfl, hi, hb, hk⟩; refine ⟨_, rfl, ?_⟩; have n0_ := Aside0.mk (Kd.R_mono (Kd.R_keep (IsS66.apart (show IsS66 w0 _ g s0_0 t173 t174 from (a1_ HI0.out)) ((a2_ HO_5.out)) (by decide)) hk (fun _ h => h.2)) (fun _ h => h.1)); have n1_ := Aside0.mk (Kd.R_mono (Kd.R_keep (IsS66.apart (show IsS66 w0 _ g s0_0 t173 t174 from (a1_ HI0.out)) ((a2_ HO184.out)) (by decide)) hk (fun _ h => h.2)) (fun _ h => h.1)); have n2_ := Aside0.mk (KeepBut.trans (a4_) hk (.inl rfl)); have n3_ := Aside0.mk (hb); have n4_ := Aside0.mk (hi); clear HO_5; clear HO184; clear HK; clear HB; clear HI0; have HO_5 := n0_; have HO184 := n1_; have HK := n2_; have HB := n3_; have HI0 := n4_; clear n0_ n1_ n2_ n3_ n4_; (try clear hb); (try clear hb2); (try clear hk); (try clear hi); have HX81 := Aside0.mk (show Kd.R k93 93 w80 w.heap.size (fun _ => True) (.slice (some ⟨go59, 0, none⟩) x5_2.length co74) x5_2 from ((a2_ HO_5.out))); obtain ⟨ce81, hcl81, hM81, hcc81, hfr81⟩ := Kd.R_elem HX81.out z93 (t169 : Int) (of_decide_eq_true (a7_)) (by have h_ : (t169 : Int) < ((x5_2.length : Int) : Int) := of_decide_eq_true (a7_); first|exact h_|(have e_ := (Kd.R_reads' HO_5.out).1; omega) | simpa using h_); obtain rfl := k93_openM hM81; have HP81 := Kd.R_seg HX81.out (t169 : Int) (of_decide_eq_true (a7_)) (by have h_ : (t169 : Int) < ((x5_2.length : Int) : Int) := of_decide_eq_true (a7_); first|exact h_|(have e_ := (Kd.R_reads' HO_5.out).1; omega) | simpa using h_) (seg := [.int .i64 t185]) (j := 1) hcl81 hcc81 (show 2 ≤ 3 from by decide) (x' := (⟨(rd_T93 x5_2 t169).f0, t185, (rd_T93 x5_2 t169).f2⟩ : S93)) (k93_mkM _ _ _ (⟨(rd_T93 x5_2 t169).f0, t185, (rd_T93 x5_2 t169).f2⟩ : S93) ) (fun _ hk => hk); have hx81_1 := hcc81 1 _ rfl; (try simp only [show (k93).sz = 3 from rfl, Nat.mul_one, Nat.add_zero] at hx81_1); have hf81_1 := hfr81 1; (try simp only [show (k93).sz = 3 from rfl, Nat.mul_one, Nat.add_zero] at hf81_1); clear hcl81 hcc81 hfr81; (try clear hM81))|((with_reducible refine gate_store (t := 3) (p := 82) rfl ?_); refine store_event (t := 3) (p := 82) (v := ?vo_w82) (w1 := (w80.setCell ⟨go59, (t169 : Int).toNat * 3 + 1, none⟩ (.int .i64 t185))) ?hg ?ho ?hn ?hr ?_;(case ho => rfl);(case hg => rfl);(case hn => rfl);(case hr => first|(go_simp;done)|(go_simp; rfl)); intro w82 hw; have hg : w80.grownBy w82 (some go59) := (by rw [hw]; exact HP81.2); have hp_ : Kd.R k93 93 w82 w.heap.size (fun _ => True) (.slice (some ⟨go59, 0, none⟩) x5_2.length co74) y188 := (by rw [hw, Ny188.out]; exact HP81.1); clear HP81; have n0_ := Aside0.mk (hp_); have n1_ := Aside0.mk (IsS66.grown ((a1_ HI0.out)) hg (IsS66.own_ne HI0.out HO_5.out (by decide))); have n2_ := Aside0.mk (Kd.R_over' (v := (.slice (some ⟨go59, 0, none⟩) x5_2.length co74)) ((a2_ HO184.out)) (Kd.R_typed HO_5.out) (by decide) hg); have n3_ := Aside0.mk ((by rw [hw]; exact below_set (HB.out) (Nat.le_trans HL.out GB59.out) : Below w0.heap.size w0 w82)); have n4_ := Aside0.mk (KeepBut.trans (a4_) (KeepBut.of_grown hg g) (Kd.R_base2 HO_5.out)); clear HO_5; clear HI0; clear HO184; clear HB; clear HK; have HO_5 := n0_; have HI0 := n1_; have HO184 := n2_; have HB := n3_; have HK := n4_; clear n0_ n1_ n2_ n3_ n4_; clear hg hw hp_))
           go_ret
           exact ⟨_, a5_, (a2_ HO_5.out), (a1_ HI0.out), (a3_ HI0.out), a4_⟩
          ·rw [if_neg c72] at H
           have c72b0 : (t172 == 1) = false := beq_eq_false_iff_ne.mpr c72
           have c72b1 : (t172 != 1) = true := bne_iff_ne.mpr c72
           by_cases c83 : t172 = 2
           ·rw [if_pos c83] at H
            have c83b0 : (t172 == 2) = true := beq_iff_eq.mpr c83
            have c83b1 : (t172 != 2) = false := bne_eq_false_iff_eq.mpr c83
            clear c83
            obtain ⟨y189, hy189⟩ : ∃ y_ : List Int, y_ = (([(rd_T93 x5_2 t169).f1, 2000, 2001] : List Int)) := ⟨_, rfl⟩
            replace H : ((spec_l1Cur_among.f s0_0 t173 t174 y189).bind fun bt192 => (some ((x5_2.set (t169 : Int).toNat (⟨(rd_T93 x5_2 t169).f0, (rd_T93 x5_2 t169).f1, bt192.1⟩ : S93)), bt192.2.1, bt192.2.2))) = some (r1, r2, r3) := by first|(rw [hy189]; with_reducible exact H)|(have H2_ := (Option.bind_some _ _).symm.trans H; rw [hy189]; with_reducible exact H2_)|(have H2_ := (Option.bind_some _ _).symm.trans H; with_reducible exact H2_) | with_reducible exact H|(rw [hy189]; exact H)|exact H
            have Ny189 := Aside0.mk hy189
            clear hy189
            replace H := Option.bind_eq_some_iff.mp H
            obtain ⟨⟨t192, t193, t194⟩, A840, H⟩ := H
            try dsimp only at H
            have A84 := Aside0.mk A840
            clear A840
            obtain ⟨y195, hy195⟩ : ∃ y_ : List (S93), y_ = (x5_2.set (t169 : Int).toNat (⟨(rd_T93 x5_2 t169).f0, (rd_T93 x5_2 t169).f1, t192⟩ : S93)) := ⟨_, rfl⟩
            replace H : (some (y195, t193, t194)) = some (r1, r2, r3) := by first|(rw [hy195]; with_reducible exact H)|(have H2_ := (Option.bind_some _ _).symm.trans H; rw [hy195]; with_reducible exact H2_)|(have H2_ := (Option.bind_some _ _).symm.trans H; with_reducible exact H2_) | with_reducible exact H|(rw [hy195]; exact H)|exact H
            have Ny195 := Aside0.mk hy195
            clear hy195
            simp only [Option.some.injEq, Prod.mk.injEq] at H
            obtain ⟨rfl, rfl, rfl⟩ := H
            obtain ⟨Ao85, co85, eo85⟩ := Kd.R_slice HO_5.out
            subst eo85
            go_wp2_with (first|((with_reducible refine gate_callee (f := 70) rfl ?_); refine goesL_ (some 59) rfl rfl Tryd.func70 (by kernel_rfl) rfl #[.pointer (some ⟨g, 0, none⟩), .int .i64 (x5_2.length : Int)] rfl (by (try simp only [List.map_toArray, List.map_cons, List.map_nil]); first | done | rfl|(simp only [List.length_drop, List.length_take]; rfl)) ?_; (with_reducible refine (spec_l1Cur_pick.calls g s0_0 x1001_2 x1002_2 (x5_2.length : Int) t169 t170 t171 w0 _ ?side1 ?side2 A56.out).mono ?_);(case side1 => exact (a1_ HI0.out));(case side2 => exact (a3_ HI0.out)); rintro e w86 ⟨rfl, hi, hb, hk⟩; refine ⟨_, rfl, ?_⟩; have n0_ := Aside0.mk (Kd.R_mono (Kd.R_keep (IsS66.apart (show IsS66 w0 _ g s0_0 x1001_2 x1002_2 from (a1_ HI0.out)) ((a2_ HO_5.out)) (by decide)) hk (fun _ h => h.2)) (fun _ h => h.1)); have n1_ := Aside0.mk (KeepBut.trans (a4_) hk (.inl rfl)); have n2_ := Aside0.mk (hb); have n3_ := Aside0.mk (hi); clear HO_5; clear HK; clear HB; clear HI0; have HO_5 := n0_; have HK := n1_; have HB := n2_; have HI0 := n3_; clear n0_ n1_ n2_ n3_; (try clear hb); (try clear hb2); (try clear hk); (try clear hi); have p59 : 0 ≤ (t169 : Int) := of_decide_eq_true (a7_); have q59 : (t169 : Int) < ((x5_2.length : Int) : Int) := of_decide_eq_true (a7_); obtain ⟨go59, co59, eo59, gb59, gl59, cl59, HG59⟩ := Kd.R_form HO_5.out (by omega); (first|cases eo59|(injection eo59 with ea_ en_ ec_; (first|subst ea_|(injection ea_ with ea_; subst ea_)); subst ec_; clear en_)); have GB59 := Aside0.mk gb59; have GG59 := Aside0.mk HG59; clear gb59 gl59 HG59; obtain ⟨ce59, hcl59, hM59, hcc59, hfr59⟩ := Kd.R_elem HO_5.out z93 (t169 : Int) p59 q59; obtain rfl := k93_openM hM59; have hx59_0 : w86.cell? ⟨go59, (t169 : Int).toNat * 3, none⟩ = some (.int .i64 ((rd_T93 x5_2 t169).f0)) := hcc59 0 _ rfl; have hx59_1 : w86.cell? ⟨go59, (t169 : Int).toNat * 3 + 1, none⟩ = some (.int .i64 ((rd_T93 x5_2 t169).f1)) := hcc59 1 _ rfl; have hx59_2 : w86.cell? ⟨go59, (t169 : Int).toNat * 3 + 2, none⟩ = some (.int .i64 ((rd_T93 x5_2 t169).f2)) := hcc59 2 _ rfl; have hf59_0 : w86.frozen? ⟨go59, (t169 : Int).toNat * 3, none⟩ = false := hfr59 0; have hf59_1 : w86.frozen? ⟨go59, (t169 : Int).toNat * 3 + 1, none⟩ = false := hfr59 1; have hf59_2 : w86.frozen? ⟨go59, (t169 : Int).toNat * 3 + 2, none⟩ = false := hfr59 2; clear hcl59 hcc59 hfr59; (try clear hM59); replace p59 := eq_true p59; replace q59 := eq_true q59)|((with_reducible refine gate_callee (f := 70) rfl ?_); refine goesL_ (some 62) rfl rfl Tryd.func70 (by kernel_rfl) rfl #[.pointer (some ⟨g, 0, none⟩), .int .i64 30] rfl (by (try simp only [List.map_toArray, List.map_cons, List.map_nil]); first | done | rfl|(simp only [List.length_drop, List.length_take]; rfl)) ?_; (with_reducible refine (spec_l1Cur_pick.calls g s0_0 t170 t171 30 t172 t173 t174 w0 _ ?side1 ?side2 A60.out).mono ?_);(case side1 => exact (a1_ HI0.out));(case side2 => exact (a3_ HI0.out)); rintro e w87 ⟨rfl, hi, hb, hk⟩; refine ⟨_, rfl, ?_⟩; have n0_ := Aside0.mk (Kd.R_mono (Kd.R_keep (IsS66.apart (show IsS66 w0 _ g s0_0 t170 t171 from (a1_ HI0.out)) ((a2_ HO_5.out)) (by decide)) hk (fun _ h => h.2)) (fun _ h => h.1)); have n1_ := Aside0.mk (KeepBut.trans (a4_) hk (.inl rfl)); have n2_ := Aside0.mk (hb); have n3_ := Aside0.mk (hi); clear HO_5; clear HK; clear HB; clear HI0; have HO_5 := n0_; have HK := n1_; have HB := n2_; have HI0 := n3_; clear n0_ n1_ n2_ n3_; (try clear hb); (try clear hb2); (try clear hk); (try clear hi); (try (obtain ⟨ce59b, hcl59b, hM59b, hcc59b, hfr59b⟩ := Kd.R_elem HO_5.out z93 (t169 : Int) (of_eq_true p59) (of_eq_true q59); obtain rfl := k93_openM hM59b; have hx59b_0 : w87.cell? ⟨go59, (t169 : Int).toNat * 3, none⟩ = some (.int .i64 ((rd_T93 x5_2 t169).f0)) := hcc59b 0 _ rfl; have hx59b_1 : w87.cell? ⟨go59, (t169 : Int).toNat * 3 + 1, none⟩ = some (.int .i64 ((rd_T93 x5_2 t169).f1)) := hcc59b 1 _ rfl; have hx59b_2 : w87.cell? ⟨go59, (t169 : Int).toNat * 3 + 2, none⟩ = some (.int .i64 ((rd_T93 x5_2 t169).f2)) := hcc59b 2 _ rfl; have hf59b_0 : w87.frozen? ⟨go59, (t169 : Int).toNat * 3, none⟩ = false := hfr59b 0; have hf59b_1 : w87.frozen? ⟨go59, (t169 : Int).toNat * 3 + 1, none⟩ = false := hfr59b 1; have hf59b_2 : w87.frozen? ⟨go59, (t169 : Int).toNat * 3 + 2, none⟩ = false := hfr59b 2; clear hcl59b hcc59b hfr59b)))|((with_reducible refine gate_dst (N := 91) rfl ?_); refine Kd.R_lit (Kd.int .i64) _ 3 ?hg (N := 91) ?hd (xs := ([(rd_T93 x5_2 t169).f1, 2000, 2001] : List Int)) (inner := [.int .i64 ((rd_T93 x5_2 t169).f1), .int .i64 2000, .int .i64 2001]) (ok := fun _ => True) (okp := fun _ => True) ?hr ?hp (fun _ hk => hk) trivial (Below.refl _ _) (Nat.le_refl _) (by simp) ?_;(case hd => rfl);(case hg => rfl);(case hr => first|(go_simp;done)|(go_simp; rfl));(case hp => exact (Reps.one (show Kd.M (Kd.int .i64) _ _ _ ((rd_T93 x5_2 t169).f1) [.int .i64 ((rd_T93 x5_2 t169).f1)] from rfl) (Reps.one (show Kd.M (Kd.int .i64) _ _ _ 2000 [.int .i64 2000] from rfl) (Reps.one (show Kd.M (Kd.int .i64) _ _ _ 2001 [.int .i64 2001] from rfl) (Reps.none _ _))))); intro v190 w88 ho89 hb hg_ hnew_; clear hg_ hnew_; (first|rw [← Ny189.out] at ho89|(simp only [Int.reduceToNat] at ho89; rw [← Ny189.out] at ho89)); have n0_ := Aside0.mk (Kd.R_below ((a2_ HO_5.out)) hb); have n1_ := Aside0.mk (Kd.R_lower ho89 (keep_size (w := w) (g := g) (row := none) (a4_))); have n2_ := Aside0.mk (IsS66.below ((a1_ HI0.out)) hb); have n3_ := Aside0.mk (KeepBut.trans (a4_) (KeepBut.of_below hb g none) (.inl rfl)); have n4_ := Aside0.mk (below_step ((a3_ HI0.out)) hb); clear HO_5; clear HI0; clear HK; clear HB; have HO_5 := n0_; have HO191 := n1_; have HI0 := n2_; have HK := n3_; have HB := n4_; clear n0_ n1_ n2_ n3_ n4_; clear hb ho89; obtain ⟨Ao90, co90, eo90⟩ := Kd.R_slice HO191.out; subst eo90)|((with_reducible refine gate_callee (f := 74) rfl ?_); refine goesL_ (some 92) rfl rfl Tryd.func74 (by kernel_rfl) rfl #[.pointer (some ⟨g, 0, none⟩), .slice Ao90 y189.length co90] rfl (by (try simp only [List.map_toArray, List.map_cons, List.map_nil]); first | done | rfl|(simp only [List.length_drop, List.length_take]; rfl)) ?_; (with_reducible refine (spec_l1Cur_among.calls g s0_0 t173 t174 _ _ y189 t192 t193 t194 w0 _ ?side1 ?side2 ?side3 ?side4 ?side5 A84.out).mono ?_);(case side1 => exact (a1_ HI0.out));(case side2 => exact (a3_ HI0.out));(case side3 => exact (a9_ HO191.out));(case side4 => exact (Kd.R_reads' HO191.out).2.1);(case side5 => exact far_slice (IsS66.own_ne HI0.out HO191.out (by decide))); rintro e w91 ⟨rfl, hi, hb, hk⟩; refine ⟨_, rfl, ?_⟩; have n0_ := Aside0.mk (Kd.R_mono (Kd.R_keep (IsS66.apart (show IsS66 w0 _ g s0_0 t173 t174 from (a1_ HI0.out)) ((a2_ HO_5.out)) (by decide)) hk (fun _ h => h.2)) (fun _ h => h.1)); have n1_ := Aside0.mk (Kd.R_mono (Kd.R_keep (IsS66.apart (show IsS66 w0 _ g s0_0 t173 t174 from (a1_ HI0.out)) ((a2_ HO191.out)) (by decide)) hk (fun _ h => h.2)) (fun _ h => h.1)); have n2_ := Aside0.mk (KeepBut.trans (a4_) hk (.inl rfl)); have n3_ := Aside0.mk (hb); have n4_ := Aside0.mk (hi); clear HO_5; clear HO191; clear HK; clear HB; clear HI0; have HO_5 := n0_; have HO191 := n1_; have HK := n2_; have HB := n3_; have HI0 := n4_; clear n0_ n1_ n2_ n3_ n4_; (try clear hb); (try clear hb2); (try clear hk); (try clear hi); have HX92 := Aside0.mk (show Kd.R k93 93 w91 w.heap.size (fun _ => True) (.slice (some ⟨go59, 0, none⟩) x5_2.length co85) x5_2 from ((a2_ HO_5.out))); obtain ⟨ce92, hcl92, hM92, hcc92, hfr92⟩ := Kd.R_elem HX92.out z93 (t169 : Int) (of_decide_eq_true (a7_)) (by have h_ : (t169 : Int) < ((x5_2.length : Int) : Int) := of_decide_eq_true (a7_); first|exact h_|(have e_ := (Kd.R_reads' HO_5.out).1; omega) | simpa using h_); obtain rfl := k93_openM hM92; have HP92 := Kd.R_seg HX92.out (t169 : Int) (of_decide_eq_true (a7_)) (by have h_ : (t169 : Int) < ((x5_2.length : Int) : Int) := of_decide_eq_true (a7_); first|exact h_|(have e_ := (Kd.R_reads' HO_5.out).1; omega) | simpa using h_) (seg := [.int .i64 t192]) (j := 2) hcl92 hcc92 (show 3 ≤ 3 from by decide) (x' := (⟨(rd_T93 x5_2 t169).f0, (rd_T93 x5_2 t169).f1, t192⟩ : S93)) (k93_mkM _ _ _ (⟨(rd_T93 x5_2 t169).f0, (rd_T93 x5_2 t169).f1, t192⟩ : S93) ) (fun _ hk => hk); have hx92_2 := hcc92 2 _ rfl; (try simp only [show (k93).sz = 3 from rfl, Nat.mul_one, Nat.add_zero] at hx92_2); have hf92_2 := hfr92 2; (try simp only [show (k93).sz = 3 from rfl, Nat.mul_one, Nat.add_zero] at hf92_2); clear hcl92 hcc92 hfr92; (try clear hM92))|((with_reducible refine gate_store (t := 3) (p := 94) rfl ?_); refine store_event (t := 3) (p := 94) (v := ?vo_w93) (w1 := (w91.setCell ⟨go59, (t169 : Int).toNat * 3 + 2, none⟩ (.int .i64 t192))) ?hg ?ho ?hn ?hr ?_;(case ho => rfl);(case hg => rfl);(case hn => rfl);(case hr => first|(go_simp;done)|(go_simp; rfl)); intro w93 hw; have hg : w91.grownBy w93 (some go59) := (by rw [hw]; exact HP92.2); have hp_ : Kd.R k93 93 w93 w.heap.size (fun _ => True) (.slice (some ⟨go59, 0, none⟩) x5_2.length co85) y195 := (by rw [hw, Ny195.out]; exact HP92.1); clear HP92; have n0_ := Aside0.mk (hp_); have n1_ := Aside0.mk (IsS66.grown ((a1_ HI0.out)) hg (IsS66.own_ne HI0.out HO_5.out (by decide))); have n2_ := Aside0.mk (Kd.R_over' (v := (.slice (some ⟨go59, 0, none⟩) x5_2.length co85)) ((a2_ HO191.out)) (Kd.R_typed HO_5.out) (by decide) hg); have n3_ := Aside0.mk ((by rw [hw]; exact below_set (HB.out) (Nat.le_trans HL.out GB59.out) : Below w0.heap.size w0 w93)); have n4_ := Aside0.mk (KeepBut.trans (a4_) (KeepBut.of_grown hg g) (Kd.R_base2 HO_5.out)); clear HO_5; clear HI0; clear HO191; clear HB; clear HK; have HO_5 := n0_; have HI0 := n1_; have HO191 := n2_; have HB := n3_; have HK := n4_; clear n0_ n1_ n2_ n3_ n4_; clear hg hw hp_))
            go_ret
            exact ⟨_, a5_, (a2_ HO_5.out), (a1_ HI0.out), (a3_ HI0.out), a4_⟩
           ·rw [if_neg c83] at H
            have c83b0 : (t172 == 2) = false := beq_eq_false_iff_ne.mpr c83
            have c83b1 : (t172 != 2) = true := bne_iff_ne.mpr c83
            by_cases c94 : t172 = 3
            ·rw [if_pos c94] at H
             have c94b0 : (t172 == 3) = true := beq_iff_eq.mpr c94
             have c94b1 : (t172 != 3) = false := bne_eq_false_iff_eq.mpr c94
             clear c94
             replace H := Option.bind_eq_some_iff.mp H
             obtain ⟨⟨t196, t197, t198⟩, A950, H⟩ := H
             try dsimp only at H
             have A95 := Aside0.mk A950
             clear A950
             obtain ⟨y199, hy199⟩ : ∃ y_ : List (S93), y_ = (([(⟨0, 0, 1000⟩ : S93), (⟨0, 500, wrap64 (1500 + t196)⟩ : S93)] : List (S93))) := ⟨_, rfl⟩
             replace H : (some (y199, t197, t198)) = some (r1, r2, r3) := by first|(rw [hy199]; with_reducible exact H)|(have H2_ := (Option.bind_some _ _).symm.trans H; rw [hy199]; with_reducible exact H2_)|(have H2_ := (Option.bind_some _ _).symm.trans H; with_reducible exact H2_) | with_reducible exact H|(rw [hy199]; exact H)|exact H
             have Ny199 := Aside0.mk hy199
             clear hy199
             simp only [Option.some.injEq, Prod.mk.injEq] at H
             obtain ⟨rfl, rfl, rfl⟩ := H
             obtain ⟨Ao96, co96, eo96⟩ := Kd.R_slice HO_5.out
             subst eo96
             go_wp2_with (first|((with_reducible refine gate_callee (f := 70) rfl ?_); refine goesL_ (some 59) rfl rfl Tryd.func70 (by kernel_rfl) rfl #[.pointer (some ⟨g, 0, none⟩), .int .i64 (x5_2.length : Int)] rfl (by (try simp only [List.map_toArray, List.map_cons, List.map_nil]); first | done | rfl|(simp only [List.length_drop, List.length_take]; rfl)) ?_; (with_reducible refine (spec_l1Cur_pick.calls g s0_0 x1001_2 x1002_2 (x5_2.length : Int) t169 t170 t171 w0 _ ?side1 ?side2 A56.out).mono ?_);(case side1 => exact (a1_ HI0.out));(case side2 => exact (a3_ HI0.out)); rintro e w97 ⟨rfl, hi, hb, hk⟩; refine ⟨_, rfl, ?_⟩; have n0_ := Aside0.mk (Kd.R_mono (Kd.R_keep (IsS66.apart (show IsS66 w0 _ g s0_0 x1001_2 x1002_2 from (a1_ HI0.out)) ((a2_ HO_5.out)) (by decide)) hk (fun _ h => h.2)) (fun _ h => h.1)); have n1_ := Aside0.mk (KeepBut.trans (a4_) hk (.inl rfl)); have n2_ := Aside0.mk (hb); have n3_ := Aside0.mk (hi); clear HO_5; clear HK; clear HB; clear HI0; have HO_5 := n0_; have HK := n1_; have HB := n2_; have HI0 := n3_; clear n0_ n1_ n2_ n3_; (try clear hb); (try clear hb2); (try clear hk); (try clear hi); have p59 : 0 ≤ (t169 : Int) := of_decide_eq_true (a7_); have q59 : (t169 : Int) < ((x5_2.length : Int) : Int) := of_decide_eq_true (a7_); obtain ⟨go59, co59, eo59, gb59, gl59, cl59, HG59⟩ := Kd.R_form HO_5.out (by omega); (first|cases eo59|(injection eo59 with ea_ en_ ec_; (first|subst ea_|(injection ea_ with ea_; subst ea_)); subst ec_; clear en_)); have GB59 := Aside0.mk gb59; have GG59 := Aside0.mk HG59; clear gb59 gl59 HG59; obtain ⟨ce59, hcl59, hM59, hcc59, hfr59⟩ := Kd.R_elem HO_5.out z93 (t169 : Int) p59 q59; obtain rfl := k93_openM hM59; have hx59_0 : w97.cell? ⟨go59, (t169 : Int).toNat * 3, none⟩ = some (.int .i64 ((rd_T93 x5_2 t169).f0)) := hcc59 0 _ rfl; have hx59_1 : w97.cell? ⟨go59, (t169 : Int).toNat * 3 + 1, none⟩ = some (.int .i64 ((rd_T93 x5_2 t169).f1)) := hcc59 1 _ rfl; have hx59_2 : w97.cell? ⟨go59, (t169 : Int).toNat * 3 + 2, none⟩ = some (.int .i64 ((rd_T93 x5_2 t169).f2)) := hcc59 2 _ rfl; have hf59_0 : w97.frozen? ⟨go59, (t169 : Int).toNat * 3, none⟩ = false := hfr59 0; have hf59_1 : w97.frozen? ⟨go59, (t169 : Int).toNat * 3 + 1, none⟩ = false := hfr59 1; have hf59_2 : w97.frozen? ⟨go59, (t169 : Int).toNat * 3 + 2, none⟩ = false := hfr59 2; clear hcl59 hcc59 hfr59; (try clear hM59); replace p59 := eq_true p59; replace q59 := eq_true q59)|((with_reducible refine gate_callee (f := 70) rfl ?_); refine goesL_ (some 62) rfl rfl Tryd.func70 (by kernel_rfl) rfl #[.pointer (some ⟨g, 0, none⟩), .int .i64 30] rfl (by (try simp only [List.map_toArray, List.map_cons, List.map_nil]); first | done | rfl|(simp only [List.length_drop, List.length_take]; rfl)) ?_; (with_reducible refine (spec_l1Cur_pick.calls g s0_0 t170 t171 30 t172 t173 t174 w0 _ ?side1 ?side2 A60.out).mono ?_);(case side1 => exact (a1_ HI0.out));(case side2 => exact (a3_ HI0.out)); rintro e w98 ⟨rfl, hi, hb, hk⟩; refine ⟨_, rfl, ?_⟩; have n0_ := Aside0.mk (Kd.R_mono (Kd.R_keep (IsS66.apart (show IsS66 w0 _ g s0_0 t170 t171 from (a1_ HI0.out)) ((a2_ HO_5.out)) (by decide)) hk (fun _ h => h.2)) (fun _ h => h.1)); have n1_ := Aside0.mk (KeepBut.trans (a4_) hk (.inl rfl)); have n2_ := Aside0.mk (hb); have n3_ := Aside0.mk (hi); clear HO_5; clear HK; clear HB; clear HI0; have HO_5 := n0_; have HK := n1_; have HB := n2_; have HI0 := n3_; clear n0_ n1_ n2_ n3_; (try clear hb); (try clear hb2); (try clear hk); (try clear hi); (try (obtain ⟨ce59b, hcl59b, hM59b, hcc59b, hfr59b⟩ := Kd.R_elem HO_5.out z93 (t169 : Int) (of_eq_true p59) (of_eq_true q59); obtain rfl := k93_openM hM59b; have hx59b_0 : w98.cell? ⟨go59, (t169 : Int).toNat * 3, none⟩ = some (.int .i64 ((rd_T93 x5_2 t169).f0)) := hcc59b 0 _ rfl; have hx59b_1 : w98.cell? ⟨go59, (t169 : Int).toNat * 3 + 1, none⟩ = some (.int .i64 ((rd_T93 x5_2 t169).f1)) := hcc59b 1 _ rfl; have hx59b_2 : w98.cell? ⟨go59, (t169 : Int).toNat * 3 + 2, none⟩ = some (.int .i64 ((rd_T93 x5_2 t169).f2)) := hcc59b 2 _ rfl; have hf59b_0 : w98.frozen? ⟨go59, (t169 : Int).toNat * 3, none⟩ = false := hfr59b 0; have hf59b_1 : w98.frozen? ⟨go59, (t169 : Int).toNat * 3 + 1, none⟩ = false := hfr59b 1; have hf59b_2 : w98.frozen? ⟨go59, (t169 : Int).toNat * 3 + 2, none⟩ = false := hfr59b 2; clear hcl59b hcc59b hfr59b)))|((with_reducible refine gate_callee (f := 70) rfl ?_); refine goesL_ (some 99) rfl rfl Tryd.func70 (by kernel_rfl) rfl #[.pointer (some ⟨g, 0, none⟩), .int .i64 2] rfl (by (try simp only [List.map_toArray, List.map_cons, List.map_nil]); first | done | rfl|(simp only [List.length_drop, List.length_take]; rfl)) ?_; (with_reducible refine (spec_l1Cur_pick.calls g s0_0 t173 t174 2 t196 t197 t198 w0 _ ?side1 ?side2 A95.out).mono ?_);(case side1 => exact (a1_ HI0.out));(case side2 => exact (a3_ HI0.out)); rintro e w99 ⟨rfl, hi, hb, hk⟩; refine ⟨_, rfl, ?_⟩; have n0_ := Aside0.mk (Kd.R_mono (Kd.R_keep (IsS66.apart (show IsS66 w0 _ g s0_0 t173 t174 from (a1_ HI0.out)) ((a2_ HO_5.out)) (by decide)) hk (fun _ h => h.2)) (fun _ h => h.1)); have n1_ := Aside0.mk (KeepBut.trans (a4_) hk (.inl rfl)); have n2_ := Aside0.mk (hb); have n3_ := Aside0.mk (hi); clear HO_5; clear HK; clear HB; clear HI0; have HO_5 := n0_; have HK := n1_; have HB := n2_; have HI0 := n3_; clear n0_ n1_ n2_ n3_; (try clear hb); (try clear hb2); (try clear hk); (try clear hi); (try (obtain ⟨ce59b, hcl59b, hM59b, hcc59b, hfr59b⟩ := Kd.R_elem HO_5.out z93 (t169 : Int) (of_eq_true p59) (of_eq_true q59); obtain rfl := k93_openM hM59b; have hx59b_0 : w99.cell? ⟨go59, (t169 : Int).toNat * 3, none⟩ = some (.int .i64 ((rd_T93 x5_2 t169).f0)) := hcc59b 0 _ rfl; have hx59b_1 : w99.cell? ⟨go59, (t169 : Int).toNat * 3 + 1, none⟩ = some (.int .i64 ((rd_T93 x5_2 t169).f1)) := hcc59b 1 _ rfl; have hx59b_2 : w99.cell? ⟨go59, (t169 : Int).toNat * 3 + 2, none⟩ = some (.int .i64 ((rd_T93 x5_2 t169).f2)) := hcc59b 2 _ rfl; have hf59b_0 : w99.frozen? ⟨go59, (t169 : Int).toNat * 3, none⟩ = false := hfr59b 0; have hf59b_1 : w99.frozen? ⟨go59, (t169 : Int).toNat * 3 + 1, none⟩ = false := hfr59b 1; have hf59b_2 : w99.frozen? ⟨go59, (t169 : Int).toNat * 3 + 2, none⟩ = false := hfr59b 2; clear hcl59b hcc59b hfr59b)))|((with_reducible refine gate_dst (N := 102) rfl ?_); refine Kd.R_lit k93 _ 93 ?hg (N := 102) ?hd (xs := ([(⟨0, 0, 1000⟩ : S93), (⟨0, 500, wrap64 (1500 + t196)⟩ : S93)] : List (S93))) (inner := [.int .i64 0, .int .i64 0, .int .i64 1000, .int .i64 0, .int .i64 500, .int .i64 (wrap64 (1500 + t196))]) (ok := fun _ => True) (okp := fun _ => True) ?hr ?hp (fun _ hk => hk) trivial (Below.refl _ _) (Nat.le_refl _) (by simp) ?_;(case hd => rfl);(case hg => rfl);(case hr => first|(go_simp;done)|(go_simp; rfl));(case hp => exact (Reps.c3 (show Kd.M k93 _ _ _ (⟨0, 0, 1000⟩ : S93) [.int .i64 0, .int .i64 0, .int .i64 1000] from (k93_mkM _ _ _ (⟨0, 0, 1000⟩ : S93) )) (Reps.c3 (show Kd.M k93 _ _ _ (⟨0, 500, wrap64 (1500 + t196)⟩ : S93) [.int .i64 0, .int .i64 500, .int .i64 (wrap64 (1500 + t196))] from (k93_mkM _ _ _ (⟨0, 500, wrap64 (1500 + t196)⟩ : S93) )) (Reps.none _ _)))); intro v200 w100 ho101 hb hg_ hnew_; clear hg_ hnew_; (first|rw [← Ny199.out] at ho101|(simp only [Int.reduceToNat] at ho101; rw [← Ny199.out] at ho101)); have n0_ := Aside0.mk (Kd.R_elder' ((a2_ HO_5.out)) (Kd.R_base ho101) hb); have n1_ := Aside0.mk (Kd.R_lower (Kd.R_new' ho101 (Kd.R_lt ((a2_ HO_5.out)))) (keep_size (w := w) (g := g) (row := none) (a4_))); have n2_ := Aside0.mk (IsS66.below ((a1_ HI0.out)) hb); have n3_ := Aside0.mk (KeepBut.trans (a4_) (KeepBut.of_below hb g none) (.inl rfl)); have n4_ := Aside0.mk (below_step ((a3_ HI0.out)) hb); clear HO_5; clear HI0; clear HK; clear HB; have HO_5 := n0_; have HO201 := n1_; have HI0 := n2_; have HK := n3_; have HB := n4_; clear n0_ n1_ n2_ n3_ n4_; clear hb ho101))
             go_ret
             exact ⟨_, a5_, (a29_ HO201.out), (a1_ HI0.out), (a3_ HI0.out), a4_⟩
            ·rw [if_neg c94] at H
             have c94b0 : (t172 == 3) = false := beq_eq_false_iff_ne.mpr c94
             have c94b1 : (t172 != 3) = true := bne_iff_ne.mpr c94
             simp only [Option.some.injEq, Prod.mk.injEq] at H
             obtain ⟨rfl, rfl, rfl⟩ := H
             obtain ⟨Ao102, co102, eo102⟩ := Kd.R_slice HO_5.out
             subst eo102
             go_wp2_with (first|((with_reducible refine gate_callee (f := 70) rfl ?_); refine goesL_ (some 59) rfl rfl Tryd.func70 (by kernel_rfl) rfl #[.pointer (some ⟨g, 0, none⟩), .int .i64 (x5_2.length : Int)] rfl (by (try simp only [List.map_toArray, List.map_cons, List.map_nil]); first | done | rfl|(simp only [List.length_drop, List.length_take]; rfl)) ?_; (with_reducible refine (spec_l1Cur_pick.calls g s0_0 x1001_2 x1002_2 (x5_2.length : Int) t169 t170 t171 w0 _ ?side1 ?side2 A56.out).mono ?_);(case side1 => exact (a1_ HI0.out));(case side2 => exact (a3_ HI0.out)); rintro e w103 ⟨rfl, hi, hb, hk⟩; refine ⟨_, rfl, ?_⟩; have n0_ := Aside0.mk (Kd.R_mono (Kd.R_keep (IsS66.apart (show IsS66 w0 _ g s0_0 x1001_2 x1002_2 from (a1_ HI0.out)) ((a2_ HO_5.out)) (by decide)) hk (fun _ h => h.2)) (fun _ h => h.1)); have n1_ := Aside0.mk (KeepBut.trans (a4_) hk (.inl rfl)); have n2_ := Aside0.mk (hb); have n3_ := Aside0.mk (hi); clear HO_5; clear HK; clear HB; clear HI0; have HO_5 := n0_; have HK := n1_; have HB := n2_; have HI0 := n3_; clear n0_ n1_ n2_ n3_; (try clear hb); (try clear hb2); (try clear hk); (try clear hi); have p59 : 0 ≤ (t169 : Int) := of_decide_eq_true (a7_); have q59 : (t169 : Int) < ((x5_2.length : Int) : Int) := of_decide_eq_true (a7_); obtain ⟨go59, co59, eo59, gb59, gl59, cl59, HG59⟩ := Kd.R_form HO_5.out (by omega); (first|cases eo59|(injection eo59 with ea_ en_ ec_; (first|subst ea_|(injection ea_ with ea_; subst ea_)); subst ec_; clear en_)); have GB59 := Aside0.mk gb59; have GG59 := Aside0.mk HG59; clear gb59 gl59 HG59; obtain ⟨ce59, hcl59, hM59, hcc59, hfr59⟩ := Kd.R_elem HO_5.out z93 (t169 : Int) p59 q59; obtain rfl := k93_openM hM59; have hx59_0 : w103.cell? ⟨go59, (t169 : Int).toNat * 3, none⟩ = some (.int .i64 ((rd_T93 x5_2 t169).f0)) := hcc59 0 _ rfl; have hx59_1 : w103.cell? ⟨go59, (t169 : Int).toNat * 3 + 1, none⟩ = some (.int .i64 ((rd_T93 x5_2 t169).f1)) := hcc59 1 _ rfl; have hx59_2 : w103.cell? ⟨go59, (t169 : Int).toNat * 3 + 2, none⟩ = some (.int .i64 ((rd_T93 x5_2 t169).f2)) := hcc59 2 _ rfl; have hf59_0 : w103.frozen? ⟨go59, (t169 : Int).toNat * 3, none⟩ = false := hfr59 0; have hf59_1 : w103.frozen? ⟨go59, (t169 : Int).toNat * 3 + 1, none⟩ = false := hfr59 1; have hf59_2 : w103.frozen? ⟨go59, (t169 : Int).toNat * 3 + 2, none⟩ = false := hfr59 2; clear hcl59 hcc59 hfr59; (try clear hM59); replace p59 := eq_true p59; replace q59 := eq_true q59)|((with_reducible refine gate_callee (f := 70) rfl ?_); refine goesL_ (some 62) rfl rfl Tryd.func70 (by kernel_rfl) rfl #[.pointer (some ⟨g, 0, none⟩), .int .i64 30] rfl (by (try simp only [List.map_toArray, List.map_cons, List.map_nil]); first | done | rfl|(simp only [List.length_drop, List.length_take]; rfl)) ?_; (with_reducible refine (spec_l1Cur_pick.calls g s0_0 t170 t171 30 t172 t173 t174 w0 _ ?side1 ?side2 A60.out).mono ?_);(case side1 => exact (a1_ HI0.out));(case side2 => exact (a3_ HI0.out)); rintro e w104 ⟨rfl, hi, hb, hk⟩; refine ⟨_, rfl, ?_⟩; have n0_ := Aside0.mk (Kd.R_mono (Kd.R_keep (IsS66.apart (show IsS66 w0 _ g s0_0 t170 t171 from (a1_ HI0.out)) ((a2_ HO_5.out)) (by decide)) hk (fun _ h => h.2)) (fun _ h => h.1)); have n1_ := Aside0.mk (KeepBut.trans (a4_) hk (.inl rfl)); have n2_ := Aside0.mk (hb); have n3_ := Aside0.mk (hi); clear HO_5; clear HK; clear HB; clear HI0; have HO_5 := n0_; have HK := n1_; have HB := n2_; have HI0 := n3_; clear n0_ n1_ n2_ n3_; (try clear hb); (try clear hb2); (try clear hk); (try clear hi); (try (obtain ⟨ce59b, hcl59b, hM59b, hcc59b, hfr59b⟩ := Kd.R_elem HO_5.out z93 (t169 : Int) (of_eq_true p59) (of_eq_true q59); obtain rfl := k93_openM hM59b; have hx59b_0 : w104.cell? ⟨go59, (t169 : Int).toNat * 3, none⟩ = some (.int .i64 ((rd_T93 x5_2 t169).f0)) := hcc59b 0 _ rfl; have hx59b_1 : w104.cell? ⟨go59, (t169 : Int).toNat * 3 + 1, none⟩ = some (.int .i64 ((rd_T93 x5_2 t169).f1)) := hcc59b 1 _ rfl; have hx59b_2 : w104.cell? ⟨go59, (t169 : Int).toNat * 3 + 2, none⟩ = some (.int .i64 ((rd_T93 x5_2 t169).f2)) := hcc59b 2 _ rfl; have hf59b_0 : w104.frozen? ⟨go59, (t169 : Int).toNat * 3, none⟩ = false := hfr59b 0; have hf59b_1 : w104.frozen? ⟨go59, (t169 : Int).toNat * 3 + 1, none⟩ = false := hfr59b 1; have hf59b_2 : w104.frozen? ⟨go59, (t169 : Int).toNat * 3 + 2, none⟩ = false := hfr59b 2; clear hcl59b hcc59b hfr59b))))
             go_ret
             exact ⟨_, a5_, (a2_ HO_5.out), (a1_ HI0.out), (a3_ HI0.out), a4_⟩
        ·rw [if_neg c58] at H
         exact absurd H (by simp)
       ·rw [if_neg c57] at H
        exact absurd H (by simp)
      ·rw [if_neg c55] at H
       have c55b0 : decide (0 < (x5_2.length : Int)) = false := decide_eq_false c55
       have c55b1 : decide (0 < x5_2.length) = false := decide_eq_false (by omega)
       clear c55
       simp only [Option.some.injEq, Prod.mk.injEq] at H
       obtain ⟨rfl, rfl, rfl⟩ := H
       obtain ⟨Ao105, co105, eo105⟩ := Kd.R_slice HO_5.out
       subst eo105
       go_wp2
       go_ret
       exact ⟨_, a5_, (a2_ HO_5.out), (a1_ HI0.out), (a3_ HI0.out), a4_⟩

/-! ### spec_edLength: function 88 -/
def spec_edLength.l0 : Nat → Int → List (S93) → Int → Int → Option (Int)
 | 0, _, _, _, _ => none
 | k + 1, x3, x6, x7, x8 => if x8 < x7 then (if 0 ≤ x8 then (if x8 < (x6.length : Int) then (spec_edLength.l0 k (wrap64 (x3 + (wrap64 (((rd_T93 x6 x8).f2) - ((rd_T93 x6 x8).f1))))) x6 x7 (wrap64 (x8 + 1))) else (none)) else (none)) else (some x3)
def spec_edLength.f (k : Nat) (l0 : List (S93)) : Option (Int) := spec_edLength.l0 k 0 l0 (l0.length : Int) 0
theorem spec_edLength.mono_l : ∀ k, (∀ y0 y1 y2 y3, LeO (spec_edLength.l0 k y0 y1 y2 y3) (spec_edLength.l0 (k + 1) y0 y1 y2 y3))
 | 0 => fun _ _ _ _ r h => by simp [spec_edLength.l0] at h
 | k + 1 => by
  have ih0 := spec_edLength.mono_l k
  ·intro y0 y1 y2 y3
   unfold spec_edLength.l0
   repeat' first
   |(with_reducible exact ih0 _ _ _ _)
   |(with_reducible exact LeO.refl _)
   |(with_reducible exact LeO.none _)
   |(with_reducible refine LeO.ite ?_ ?_)
   |(with_reducible refine LeO.bind ?_ (fun _ => ?_))
   |exact ih0 _ _ _ _
   |exact LeO.none _
    | refine LeO.ite ?_ ?_
    | refine LeO.bind ?_ (fun _ => ?_)
theorem spec_edLength.mono : ∀ a0 k, LeO (spec_edLength.f k a0) (spec_edLength.f (k + 1) a0) := by
 intro a0 k
 have ih0 := spec_edLength.mono_l k
 unfold spec_edLength.f
 repeat' first
  |(with_reducible exact ih0 _ _ _ _)
  |(with_reducible exact LeO.refl _)
  |(with_reducible exact LeO.none _)
  |(with_reducible refine LeO.ite ?_ ?_)
  |(with_reducible refine LeO.bind ?_ (fun _ => ?_))
  |exact ih0 _ _ _ _
  |exact LeO.none _
   | refine LeO.ite ?_ ?_
   | refine LeO.bind ?_ (fun _ => ?_)
set_option maxHeartbeats 8000000 in
set_option maxRecDepth 100000 in
theorem spec_edLength.calls (k : Nat) (A0 : Option Addr) (c0 : Nat) (l0 : List (S93)) (r : Int) (w : World) (hr0 : Kd.C k93 w A0 l0.length l0) (hc0 : l0.length ≤ c0) (h : spec_edLength.f k l0 = some r) :
 Calls Tryd.prog 88 #[.slice A0 l0.length c0] w fun e w' => e = .returned (.int .i64 r) ∧ Below w.heap.size w w' := by
 have hu93 := Tryd.underlying93
 have HR0 := Aside0.mk hr0
 have HC0 := Aside0.mk hc0
 clear hr0 hc0
 have HB := Aside0.mk (Below.refl w.heap.size w)
 have H : (spec_edLength.l0 k 0 l0 (l0.length : Int) 0) = some r := h
 clear h
 have H' := Aside0.mk H
 clear H
 go_enter Tryd.func88, Tryd.ntmps88
 go_wp2
 (try simp only [Act.put, List.setIfInBounds_toArray, List.set_cons_zero, List.set_cons_succ])
 go_loopg [3, 8] k (fun kq v3 v8 w' => ∃ (x3_1 : Int) (x8_1 : Int), v3 = .int .i64 x3_1 ∧ v8 = .int .i64 x8_1 ∧ Aside0 (spec_edLength.l0 kq x3_1 l0 (l0.length : Int) x8_1 = some r) ∧ Aside0 (kq ≤ k) ∧ Aside0 (Below w.heap.size w w'))
 case atStart => exact ⟨(0), (0), (by first | rfl|(simp;done)|(simp [*];done)), (by first | rfl|(simp;done)|(simp [*];done)), H', ⟨Nat.le_refl _⟩, ⟨a0_⟩⟩
 case round =>
  clear H'
  obtain ⟨x3_1, x8_1, rfl, rfl, HA, HK1, HB⟩ := hrel
  cases gk with
  | zero => exact absurd HA.out (by simp [spec_edLength.l0])
  | succ k1 =>
   have H := HA.out
   clear HA
   simp only [spec_edLength.l0] at H
   by_cases c2 : x8_1 < (l0.length : Int)
   ·rw [if_pos c2] at H
    have c2b0 : decide (x8_1 < (l0.length : Int)) = true := decide_eq_true c2
    clear c2
    by_cases c3 : 0 ≤ x8_1
    ·rw [if_pos c3] at H
     have c3b0 : decide (0 ≤ x8_1) = true := decide_eq_true c3
     clear c3
     by_cases c4 : x8_1 < (l0.length : Int)
     ·rw [if_pos c4] at H
      have c4b0 : decide (x8_1 < (l0.length : Int)) = true := decide_eq_true c4
      clear c4
      have H' := Aside0.mk H
      clear H
      have p202 : 0 ≤ (x8_1 : Int) := of_decide_eq_true (a7_)
      have q202 : x8_1 < (l0.length : Int) := of_decide_eq_true (a7_)
      obtain ⟨ad202, e202, hx202_0, hx202_1, hx202_2⟩ := at_T93 HR0.out x8_1 p202 q202
      cases e202
      replace hx202_0 := (HB.out.cell (World.block_lt_of_cell? w _ hx202_0)).trans hx202_0
      replace hx202_1 := (HB.out.cell (World.block_lt_of_cell? w _ hx202_1)).trans hx202_1
      replace hx202_2 := (HB.out.cell (World.block_lt_of_cell? w _ hx202_2)).trans hx202_2
      replace p202 := eq_true p202
      replace q202 := eq_true q202
      go_wp2_with (first|((with_reducible refine gate_dst (N := 5) rfl ?_); refine box_event ?hg (N := 5) ?hd (cs := #[.int .i64 0, .int .i64 0, .int .i64 0]) (t := 93) ?hr ?_;(case hd => rfl);(case hg => rfl);(case hr => first|(go_simp;done)|(go_simp; rfl)); intro gb203 hg w5 hbox hb; have n0_ := Aside0.mk (below_step (a0_) hb); have n1_ := Aside0.mk (hbox); have n2_ := Aside0.mk ((by rw [hg]; exact (below_size (a0_)) : w.heap.size ≤ gb203)); have n3_ := Aside0.mk ((by rw [hg]; exact (below_size (a0_)) : w.heap.size ≤ gb203)); clear HB; have HB := n0_; have BK203 := n1_; have GW203 := n2_; have GE203 := n3_; clear n0_ n1_ n2_ n3_; clear hb hbox hg; have hcz6_0 : w5.cell? ⟨gb203, 0, none⟩ = some (.int .i64 0) := (blk_cell BK203.out 0).trans rfl; have hcz6_1 : w5.cell? ⟨gb203, 1, none⟩ = some (.int .i64 0) := (blk_cell BK203.out 1).trans rfl; have hcz6_2 : w5.cell? ⟨gb203, 2, none⟩ = some (.int .i64 0) := (blk_cell BK203.out 2).trans rfl; have hfz6_0 := blk_frozen BK203.out 0; have hfz6_1 := blk_frozen BK203.out 1; have hfz6_2 := blk_frozen BK203.out 2))
      go_roundg k1
      case measure => have := HK1.out; omega
      case rel => exact ⟨(wrap64 (x3_1 + (wrap64 (((rd_T93 l0 x8_1).f2) - ((rd_T93 l0 x8_1).f1))))), (wrap64 (x8_1 + 1)), (by first | rfl|(simp;done)|(simp [*];done)), (by first | rfl|(simp;done)|(simp [*];done)), H', ⟨by have := HK1.out; omega⟩, ⟨(a8_ GE203.out)⟩⟩
     ·rw [if_neg c4] at H
      exact absurd H (by simp)
    ·rw [if_neg c3] at H
     exact absurd H (by simp)
   ·rw [if_neg c2] at H
    have c2b0 : decide (x8_1 < (l0.length : Int)) = false := decide_eq_false c2
    clear c2
    obtain rfl := Option.some.inj H
    go_wp2
    go_ret
    exact ⟨a5_, a0_⟩

/-! ### spec_l1In: function 87 -/
def spec_l1In.f (a0 : Int) (a1 : Int) (a2 : Int) : Option (Bool) := if a0 ≥ a1 then (some (decide (a0 ≤ a2))) else (some false)
set_option maxHeartbeats 8000000 in
set_option maxRecDepth 100000 in
theorem spec_l1In.calls (a0 : Int) (a1 : Int) (a2 : Int) (r : Bool) (w : World) (h : spec_l1In.f a0 a1 a2 = some r) :
 Calls Tryd.prog 87 #[.int .i64 a0, .int .i64 a1, .int .i64 a2] w fun e w' => e = .returned (.bool r) ∧ Drawn0 w w' := by
 have H : (if a0 ≥ a1 then (some (decide (a0 ≤ a2))) else (some false)) = some r := h
 clear h
 by_cases c4 : a0 ≥ a1
 ·rw [if_pos c4] at H
  have c4b0 : decide (a1 ≤ a0) = true := decide_eq_true c4
  clear c4
  obtain rfl := Option.some.inj H
  go_enter Tryd.func87, Tryd.ntmps87
  go_wp2
  go_ret
  exact ⟨by first | rfl|(simp;done)|(simp [*];done), a18_⟩
 ·rw [if_neg c4] at H
  have c4b0 : decide (a1 ≤ a0) = false := decide_eq_false c4
  clear c4
  obtain rfl := Option.some.inj H
  go_enter Tryd.func87, Tryd.ntmps87
  go_wp2
  go_ret
  exact ⟨by first | rfl|(simp;done)|(simp [*];done), a18_⟩

/-! ### spec_shStep: function 123 -/
def spec_shStep.f (a0 : Int) : Option (Bool) := (spec_l1In.f a0 0 1999).bind fun t204 => (some t204)
set_option maxHeartbeats 8000000 in
set_option maxRecDepth 100000 in
theorem spec_shStep.calls (a0 : Int) (r : Bool) (w : World) (h : spec_shStep.f a0 = some r) :
 Calls Tryd.prog 123 #[.int .i64 a0] w fun e w' => e = .returned (.bool r) ∧ Drawn0 w w' := by
 have H : ((spec_l1In.f a0 0 1999).bind fun t204 => (some t204)) = some r := h
 clear h
 replace H := Option.bind_eq_some_iff.mp H
 obtain ⟨t204, A20, H⟩ := H
 try dsimp only at H
 have A2 := Aside0.mk A20
 clear A20
 obtain rfl := Option.some.inj H
 go_enter Tryd.func123, Tryd.ntmps123
 go_wp2_with (first|((with_reducible refine gate_callee (f := 87) rfl ?_); refine goesL_ (some 4) rfl rfl Tryd.func87 (by kernel_rfl) rfl #[.int .i64 a0, .int .i64 0, .int .i64 1999] rfl (by (try simp only [List.map_toArray, List.map_cons, List.map_nil]); first | done | rfl|(simp only [List.length_drop, List.length_take]; rfl)) ?_; (with_reducible refine (spec_l1In.calls a0 0 1999 t204 _ A2.out).mono ?_); rintro e w' ⟨rfl, ⟨nd, rfl⟩⟩; refine ⟨_, rfl, ?_⟩))
 go_ret
 exact ⟨by first | rfl|(simp;done)|(simp [*];done), a18_⟩

/-! ### spec_edPart: function 116 -/
def spec_edPart.f (a0_0 : Int) (a0_1 : Int) (a0_2 : Int) : Option (Bool) := (spec_l1In.f a0_0 0 3).bind fun t206 => (if t206 = true then ((spec_shStep.f a0_1).bind fun t207 => (if t207 = true then ((spec_l1In.f a0_2 (wrap64 (a0_1 + 1)) 2000).bind fun t208 => (some t208)) else (some false))) else (some false))
set_option maxHeartbeats 8000000 in
set_option maxRecDepth 100000 in
theorem spec_edPart.calls (a0_0 : Int) (a0_1 : Int) (a0_2 : Int) (r : Bool) (w : World) (h : spec_edPart.f a0_0 a0_1 a0_2 = some r) :
 Calls Tryd.prog 116 #[.agg #[.int .i64 a0_0, .int .i64 a0_1, .int .i64 a0_2]] w fun e w' => e = .returned (.bool r) ∧ Below w.heap.size w w' := by
 have hu93 := Tryd.underlying93
 have HB := Aside0.mk (Below.refl w.heap.size w)
 have H : ((spec_l1In.f a0_0 0 3).bind fun t206 => (if t206 = true then ((spec_shStep.f a0_1).bind fun t207 => (if t207 = true then ((spec_l1In.f a0_2 (wrap64 (a0_1 + 1)) 2000).bind fun t208 => (some t208)) else (some false))) else (some false))) = some r := h
 clear h
 replace H := Option.bind_eq_some_iff.mp H
 obtain ⟨t206, A20, H⟩ := H
 try dsimp only at H
 have A2 := Aside0.mk A20
 clear A20
 by_cases c3 : t206 = true
 ·subst c3
  have H1 : ((spec_shStep.f a0_1).bind fun t207 => (if t207 = true then ((spec_l1In.f a0_2 (wrap64 (a0_1 + 1)) 2000).bind fun t208 => (some t208)) else (some false))) = some r := by rw [if_pos rfl] at H; exact H
  clear H
  have H := H1
  clear H1
  replace H := Option.bind_eq_some_iff.mp H
  obtain ⟨t207, A40, H⟩ := H
  try dsimp only at H
  have A4 := Aside0.mk A40
  clear A40
  by_cases c5 : t207 = true
  ·subst c5
   have H1 : ((spec_l1In.f a0_2 (wrap64 (a0_1 + 1)) 2000).bind fun t208 => (some t208)) = some r := by rw [if_pos rfl] at H; exact H
   clear H
   have H := H1
   clear H1
   replace H := Option.bind_eq_some_iff.mp H
   obtain ⟨t208, A60, H⟩ := H
   try dsimp only at H
   have A6 := Aside0.mk A60
   clear A60
   obtain rfl := Option.some.inj H
   go_enter Tryd.func116, Tryd.ntmps116
   go_wp2_with (first|((with_reducible refine gate_dst (N := 1) rfl ?_); refine box_event ?hg (N := 1) ?hd (cs := #[.int .i64 a0_0, .int .i64 a0_1, .int .i64 a0_2]) (t := 93) ?hr ?_;(case hd => rfl);(case hg => rfl);(case hr => first|(go_simp;done)|(go_simp; rfl)); intro gb205 hg w7 hbox hb; have n0_ := Aside0.mk (below_step (a0_) hb); have n1_ := Aside0.mk (hbox); have n2_ := Aside0.mk ((by rw [hg]; exact (below_size (a0_)) : w.heap.size ≤ gb205)); have n3_ := Aside0.mk ((by rw [hg]; exact (below_size (a0_)) : w.heap.size ≤ gb205)); clear HB; have HB := n0_; have BK205 := n1_; have GW205 := n2_; have GE205 := n3_; clear n0_ n1_ n2_ n3_; clear hb hbox hg; have hcz8_0 : w7.cell? ⟨gb205, 0, none⟩ = some (.int .i64 a0_0) := (blk_cell BK205.out 0).trans rfl; have hcz8_1 : w7.cell? ⟨gb205, 1, none⟩ = some (.int .i64 a0_1) := (blk_cell BK205.out 1).trans rfl; have hcz8_2 : w7.cell? ⟨gb205, 2, none⟩ = some (.int .i64 a0_2) := (blk_cell BK205.out 2).trans rfl; have hfz8_0 := blk_frozen BK205.out 0; have hfz8_1 := blk_frozen BK205.out 1; have hfz8_2 := blk_frozen BK205.out 2)|((with_reducible refine gate_callee (f := 87) rfl ?_); refine goesL_ (some 5) rfl rfl Tryd.func87 (by kernel_rfl) rfl #[.int .i64 a0_0, .int .i64 0, .int .i64 3] rfl (by (try simp only [List.map_toArray, List.map_cons, List.map_nil]); first | done | rfl|(simp only [List.length_drop, List.length_take]; rfl)) ?_; (with_reducible refine (spec_l1In.calls a0_0 0 3 true _ A2.out).mono ?_); rintro e w' ⟨rfl, ⟨nd, rfl⟩⟩; refine ⟨_, rfl, ?_⟩)|(go_at_call 123; (with_reducible refine (spec_shStep.calls a0_1 true _ A4.out).mono ?_); rintro e w' ⟨rfl, ⟨nd, rfl⟩⟩)|(go_at_call 87; (with_reducible refine (spec_l1In.calls a0_2 (wrap64 (a0_1 + 1)) 2000 t208 _ A6.out).mono ?_); rintro e w' ⟨rfl, ⟨nd, rfl⟩⟩))
   go_ret
   exact ⟨a5_, (a8_ GE205.out)⟩
  ·replace c5 := Bool.eq_false_iff.mpr c5
   subst c5
   have H1 : (some false) = some r := by rw [if_neg (show ¬ (false = true) by decide)] at H; exact H
   clear H
   have H := H1
   clear H1
   obtain rfl := Option.some.inj H
   go_enter Tryd.func116, Tryd.ntmps116
   go_wp2_with (first|((with_reducible refine gate_dst (N := 1) rfl ?_); refine box_event ?hg (N := 1) ?hd (cs := #[.int .i64 a0_0, .int .i64 a0_1, .int .i64 a0_2]) (t := 93) ?hr ?_;(case hd => rfl);(case hg => rfl);(case hr => first|(go_simp;done)|(go_simp; rfl)); intro gb205 hg w9 hbox hb; have n0_ := Aside0.mk (below_step (a0_) hb); have n1_ := Aside0.mk (hbox); have n2_ := Aside0.mk ((by rw [hg]; exact (below_size (a0_)) : w.heap.size ≤ gb205)); have n3_ := Aside0.mk ((by rw [hg]; exact (below_size (a0_)) : w.heap.size ≤ gb205)); clear HB; have HB := n0_; have BK205 := n1_; have GW205 := n2_; have GE205 := n3_; clear n0_ n1_ n2_ n3_; clear hb hbox hg; have hcz10_0 : w9.cell? ⟨gb205, 0, none⟩ = some (.int .i64 a0_0) := (blk_cell BK205.out 0).trans rfl; have hcz10_1 : w9.cell? ⟨gb205, 1, none⟩ = some (.int .i64 a0_1) := (blk_cell BK205.out 1).trans rfl; have hcz10_2 : w9.cell? ⟨gb205, 2, none⟩ = some (.int .i64 a0_2) := (blk_cell BK205.out 2).trans rfl; have hfz10_0 := blk_frozen BK205.out 0; have hfz10_1 := blk_frozen BK205.out 1; have hfz10_2 := blk_frozen BK205.out 2)|((with_reducible refine gate_callee (f := 87) rfl ?_); refine goesL_ (some 5) rfl rfl Tryd.func87 (by kernel_rfl) rfl #[.int .i64 a0_0, .int .i64 0, .int .i64 3] rfl (by (try simp only [List.map_toArray, List.map_cons, List.map_nil]); first | done | rfl|(simp only [List.length_drop, List.length_take]; rfl)) ?_; (with_reducible refine (spec_l1In.calls a0_0 0 3 true _ A2.out).mono ?_); rintro e w' ⟨rfl, ⟨nd, rfl⟩⟩; refine ⟨_, rfl, ?_⟩)|(go_at_call 123; (with_reducible refine (spec_shStep.calls a0_1 false _ A4.out).mono ?_); rintro e w' ⟨rfl, ⟨nd, rfl⟩⟩))
   go_ret
   exact ⟨a5_, (a8_ GE205.out)⟩
 ·replace c3 := Bool.eq_false_iff.mpr c3
  subst c3
  have H1 : (some false) = some r := by rw [if_neg (show ¬ (false = true) by decide)] at H; exact H
  clear H
  have H := H1
  clear H1
  obtain rfl := Option.some.inj H
  go_enter Tryd.func116, Tryd.ntmps116
  go_wp2_with (first|((with_reducible refine gate_dst (N := 1) rfl ?_); refine box_event ?hg (N := 1) ?hd (cs := #[.int .i64 a0_0, .int .i64 a0_1, .int .i64 a0_2]) (t := 93) ?hr ?_;(case hd => rfl);(case hg => rfl);(case hr => first|(go_simp;done)|(go_simp; rfl)); intro gb205 hg w11 hbox hb; have n0_ := Aside0.mk (below_step (a0_) hb); have n1_ := Aside0.mk (hbox); have n2_ := Aside0.mk ((by rw [hg]; exact (below_size (a0_)) : w.heap.size ≤ gb205)); have n3_ := Aside0.mk ((by rw [hg]; exact (below_size (a0_)) : w.heap.size ≤ gb205)); clear HB; have HB := n0_; have BK205 := n1_; have GW205 := n2_; have GE205 := n3_; clear n0_ n1_ n2_ n3_; clear hb hbox hg; have hcz12_0 : w11.cell? ⟨gb205, 0, none⟩ = some (.int .i64 a0_0) := (blk_cell BK205.out 0).trans rfl; have hcz12_1 : w11.cell? ⟨gb205, 1, none⟩ = some (.int .i64 a0_1) := (blk_cell BK205.out 1).trans rfl; have hcz12_2 : w11.cell? ⟨gb205, 2, none⟩ = some (.int .i64 a0_2) := (blk_cell BK205.out 2).trans rfl; have hfz12_0 := blk_frozen BK205.out 0; have hfz12_1 := blk_frozen BK205.out 1; have hfz12_2 := blk_frozen BK205.out 2)|((with_reducible refine gate_callee (f := 87) rfl ?_); refine goesL_ (some 5) rfl rfl Tryd.func87 (by kernel_rfl) rfl #[.int .i64 a0_0, .int .i64 0, .int .i64 3] rfl (by (try simp only [List.map_toArray, List.map_cons, List.map_nil]); first | done | rfl|(simp only [List.length_drop, List.length_take]; rfl)) ?_; (with_reducible refine (spec_l1In.calls a0_0 0 3 false _ A2.out).mono ?_); rintro e w' ⟨rfl, ⟨nd, rfl⟩⟩; refine ⟨_, rfl, ?_⟩))
  go_ret
  exact ⟨a5_, (a8_ GE205.out)⟩

end Go.Proofs.YtkkhcemkppmgdaaDoor.QFnParts
