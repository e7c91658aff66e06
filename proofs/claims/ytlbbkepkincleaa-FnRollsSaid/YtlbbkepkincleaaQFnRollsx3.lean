/- Written by a program of this session (the kit's printer, with leaf contracts proved by hand put in): what each Go function computes, and that the call computes it. No condition but those that each theorem names. -/
import Derived.Test.YtlbbkepkincleaaQFnRollsx0
import Derived.Test.YtlbbkepkincleaaQFnRollsx2
namespace Go.Proofs.Ytlbbkepkincleaa.QFnRolls
open Go.RowKit Go.Proofs.YtlbbkepkincleaaW.PrintWords Go.Proofs.YtlbbkepkincleaaW.PrintLast Go.Proofs.YtlbbkepkincleaaW.PrintMore
attribute [local go_sem] max2_int min2_int max_two min_two max_three min_three max_four min_four   -- for this text's walks alone
set_option linter.unusedVariables false
set_option linter.unusedSimpArgs false

/-! ### spec_l1Cur_rolls: function 69 -/
mutual
def spec_l1Cur_rolls.l0 : Nat → List (S29) → Int → Int → Int → List Int → Int → Int → Option ((List (S29)) × Int × Int)
 | 0, _, _, _, _, _, _, _ => none
 | k + 1, x3, x4, x5, x6, x1000, x1001, x1002 => if x6 < x4 then ((spec_caTitles.f).bind fun t131 => (if 0 ≤ x6 then (if x6 < (t131.length : Int) then ((spec_l1Cur_maker.f x1000 x1001 x1002).bind fun bt135 => (if x6 > 0 then ((spec_l1Cur_one.f x1000 bt135.2.1 bt135.2.2 3).bind fun bt139 => (spec_l1Cur_rolls.j1 k x3 x4 x5 x6 (!bt139.1) x1000 bt139.2.1 bt139.2.2 (rdOf ByteArray.empty t131 x6) bt135.1 x5 (-1))) else (spec_l1Cur_rolls.j1 k x3 x4 x5 x6 false x1000 bt135.2.1 bt135.2.2 (rdOf ByteArray.empty t131 x6) bt135.1 x5 (-1)))) else (none)) else (none))) else ((spec_l1Cur_one.f x1000 x1001 x1002 20).bind fun bt163 => (if bt163.1 = true then ((spec_l1Cur_pick.f x1000 bt163.2.1 bt163.2.2 2).bind fun bt166 => (spec_l1Cur_rolls.l1 k ([] : List (S29)) (wrap64 (30 + bt166.1)) x1000 bt166.2.1 bt166.2.2)) else (spec_l1Cur_rolls.j3 k x3 x1000 bt163.2.1 bt163.2.2)))
def spec_l1Cur_rolls.j1 : Nat → List (S29) → Int → Int → Int → Bool → List Int → Int → Int → ByteArray → ByteArray → Int → Int → Option ((List (S29)) × Int × Int)
 | 0, _, _, _, _, _, _, _, _, _, _, _, _ => none
 | k + 1, x3, x4, x5, x6, x31, x1000, x1001, x1002, x139000, x139001, x139002, x139003 => if x31 = true then ((spec_l1Cur_pick.f x1000 x1001 x1002 x6).bind fun bt142 => (if x3.length < 2932031007402 then ((spec_l1Cur_among.f x1000 bt142.2.1 bt142.2.2 (([0, 0, 1, 10] : List Int))).bind fun bt151 => (spec_l1Cur_rolls.l0 k (x3 ++ [(⟨x139000, x139001, x139002, bt142.1⟩ : S29)]) x4 (wrap64 (x5 + bt151.1)) (wrap64 (x6 + 1)) x1000 bt151.2.1 bt151.2.2)) else (none))) else (if x3.length < 2932031007402 then ((spec_l1Cur_among.f x1000 x1001 x1002 (([0, 0, 1, 10] : List Int))).bind fun bt160 => (spec_l1Cur_rolls.l0 k (x3 ++ [(⟨x139000, x139001, x139002, x139003⟩ : S29)]) x4 (wrap64 (x5 + bt160.1)) (wrap64 (x6 + 1)) x1000 bt160.2.1 bt160.2.2)) else (none))
def spec_l1Cur_rolls.j3 : Nat → List (S29) → List Int → Int → Int → Option ((List (S29)) × Int × Int)
 | 0, _, _, _, _ => none
 | k + 1, x3, x1000, x1001, x1002 => if (x3.length : Int) > 0 then ((spec_l1Cur_pick.f x1000 x1001 x1002 (x3.length : Int)).bind fun bt175 => (if 0 ≤ bt175.1 then (if bt175.1 < (x3.length : Int) then ((spec_l1Cur_pick.f x1000 bt175.2.1 bt175.2.2 30).bind fun bt178 => (if bt178.1 = 0 then ((spec_l1Cur_of.f x1000 bt178.2.1 bt178.2.2 (([(⟨#[]⟩ : ByteArray), (⟨#[65]⟩ : ByteArray), (⟨#[119, 97, 108, 116, 122]⟩ : ByteArray), (⟨#[97, 98, 99, 100, 101, 102, 103, 104, 105, 106, 107, 108, 109]⟩ : ByteArray), (⟨#[97, 32, 98]⟩ : ByteArray)] : List ByteArray))).bind fun bt184 => (some ((x3.set (bt175.1 : Int).toNat (⟨bt184.1, (rd_T29 x3 bt175.1).f1, (rd_T29 x3 bt175.1).f2, (rd_T29 x3 bt175.1).f3⟩ : S29)), bt184.2.1, bt184.2.2))) else (if bt178.1 = 1 then ((spec_l1Cur_of.f x1000 bt178.2.1 bt178.2.2 (([(⟨#[]⟩ : ByteArray), (⟨#[66]⟩ : ByteArray), (⟨#[97, 98, 99, 100, 101, 102, 103, 104, 105, 106, 107, 108, 109]⟩ : ByteArray)] : List ByteArray))).bind fun bt191 => (some ((x3.set (bt175.1 : Int).toNat (⟨(rd_T29 x3 bt175.1).f0, bt191.1, (rd_T29 x3 bt175.1).f2, (rd_T29 x3 bt175.1).f3⟩ : S29)), bt191.2.1, bt191.2.2))) else (if bt178.1 = 2 then ((spec_l1Cur_among.f x1000 bt178.2.1 bt178.2.2 (([1799, 1800, 2100, 2101] : List Int))).bind fun bt198 => (some ((x3.set (bt175.1 : Int).toNat (⟨(rd_T29 x3 bt175.1).f0, (rd_T29 x3 bt175.1).f1, bt198.1, (rd_T29 x3 bt175.1).f3⟩ : S29)), bt198.2.1, bt198.2.2))) else (if bt178.1 = 3 then ((spec_l1Cur_among.f x1000 bt178.2.1 bt178.2.2 (([(-2), 0, wrap64 ((x3.length : Int) - 1), (x3.length : Int)] : List Int))).bind fun bt205 => (some ((x3.set (bt175.1 : Int).toNat (⟨(rd_T29 x3 bt175.1).f0, (rd_T29 x3 bt175.1).f1, (rd_T29 x3 bt175.1).f2, bt205.1⟩ : S29)), bt205.2.1, bt205.2.2))) else (some (x3, bt178.2.1, bt178.2.2))))))) else (none)) else (none))) else (some (x3, x1001, x1002))
def spec_l1Cur_rolls.l1 : Nat → List (S29) → Int → List Int → Int → Int → Option ((List (S29)) × Int × Int)
 | 0, _, _, _, _, _ => none
 | k + 1, x3, x8, x1000, x1001, x1002 => if (x3.length : Int) < x8 then ((some (([97 + ((x3.length : Int) % 26), (wrap64 (97 + (wrap64 ((x3.length : Int) / 26)))) % 256] : List Int) : List Int)).bind fun y169 => (if 1 + (strOfNums y169).size ≤ 9223372036854775807 then (if x3.length < 2932031007402 then (spec_l1Cur_rolls.l1 k (x3 ++ [(⟨(⟨#[120]⟩ : ByteArray) ++ (strOfNums y169), (⟨#[119, 101, 108, 116, 101]⟩ : ByteArray), 1900, wrap64 ((x3.length : Int) - 1)⟩ : S29)]) x8 x1000 x1001 x1002) else (none)) else (none))) else (spec_l1Cur_rolls.j3 k x3 x1000 x1001 x1002)
end
def spec_l1Cur_rolls.f (k : Nat) (s0_0 : List Int) (s0_1 : Int) (s0_2 : Int) : Option ((List (S29)) × Int × Int) := (spec_l1Cur_pick.f s0_0 s0_1 s0_2 9).bind fun bt128 => (spec_l1Cur_rolls.l0 k ([] : List (S29)) bt128.1 1880 0 s0_0 bt128.2.1 bt128.2.2)
theorem spec_l1Cur_rolls.mono_l : ∀ k, (∀ y0 y1 y2 y3 y4 y5 y6, LeO (spec_l1Cur_rolls.l0 k y0 y1 y2 y3 y4 y5 y6) (spec_l1Cur_rolls.l0 (k + 1) y0 y1 y2 y3 y4 y5 y6)) ∧ (∀ y0 y1 y2 y3 y4 y5 y6 y7 y8 y9 y10 y11, LeO (spec_l1Cur_rolls.j1 k y0 y1 y2 y3 y4 y5 y6 y7 y8 y9 y10 y11) (spec_l1Cur_rolls.j1 (k + 1) y0 y1 y2 y3 y4 y5 y6 y7 y8 y9 y10 y11)) ∧ (∀ y0 y1 y2 y3, LeO (spec_l1Cur_rolls.j3 k y0 y1 y2 y3) (spec_l1Cur_rolls.j3 (k + 1) y0 y1 y2 y3)) ∧ (∀ y0 y1 y2 y3 y4, LeO (spec_l1Cur_rolls.l1 k y0 y1 y2 y3 y4) (spec_l1Cur_rolls.l1 (k + 1) y0 y1 y2 y3 y4))
 | 0 => ⟨fun _ _ _ _ _ _ _ r h => by simp [spec_l1Cur_rolls.l0] at h, fun _ _ _ _ _ _ _ _ _ _ _ _ r h => by simp [spec_l1Cur_rolls.j1] at h, fun _ _ _ _ r h => by simp [spec_l1Cur_rolls.j3] at h, fun _ _ _ _ _ r h => by simp [spec_l1Cur_rolls.l1] at h⟩
 | k + 1 => by
  obtain ⟨ih0, ih1, ih2, ih3⟩ := spec_l1Cur_rolls.mono_l k
  refine ⟨?_, ?_, ?_, ?_⟩
  ·intro y0 y1 y2 y3 y4 y5 y6
   unfold spec_l1Cur_rolls.l0
   repeat' first
   |(with_reducible exact ih0 _ _ _ _ _ _ _)
   |(with_reducible exact ih1 _ _ _ _ _ _ _ _ _ _ _ _)
   |(with_reducible exact ih2 _ _ _ _)
   |(with_reducible exact ih3 _ _ _ _ _)
   |(with_reducible exact LeO.refl _)
   |(with_reducible exact LeO.none _)
   |(with_reducible refine LeO.ite ?_ ?_)
   |(with_reducible refine LeO.bind ?_ (fun _ => ?_))
   |exact ih0 _ _ _ _ _ _ _
   |exact ih1 _ _ _ _ _ _ _ _ _ _ _ _
   |exact ih2 _ _ _ _
   |exact ih3 _ _ _ _ _
   |exact LeO.none _
    | refine LeO.ite ?_ ?_
    | refine LeO.bind ?_ (fun _ => ?_)
  ·intro y0 y1 y2 y3 y4 y5 y6 y7 y8 y9 y10 y11
   unfold spec_l1Cur_rolls.j1
   repeat' first
   |(with_reducible exact ih0 _ _ _ _ _ _ _)
   |(with_reducible exact ih1 _ _ _ _ _ _ _ _ _ _ _ _)
   |(with_reducible exact ih2 _ _ _ _)
   |(with_reducible exact ih3 _ _ _ _ _)
   |(with_reducible exact LeO.refl _)
   |(with_reducible exact LeO.none _)
   |(with_reducible refine LeO.ite ?_ ?_)
   |(with_reducible refine LeO.bind ?_ (fun _ => ?_))
   |exact ih0 _ _ _ _ _ _ _
   |exact ih1 _ _ _ _ _ _ _ _ _ _ _ _
   |exact ih2 _ _ _ _
   |exact ih3 _ _ _ _ _
   |exact LeO.none _
    | refine LeO.ite ?_ ?_
    | refine LeO.bind ?_ (fun _ => ?_)
  ·intro y0 y1 y2 y3
   unfold spec_l1Cur_rolls.j3
   repeat' first
   |(with_reducible exact ih0 _ _ _ _ _ _ _)
   |(with_reducible exact ih1 _ _ _ _ _ _ _ _ _ _ _ _)
   |(with_reducible exact ih2 _ _ _ _)
   |(with_reducible exact ih3 _ _ _ _ _)
   |(with_reducible exact LeO.refl _)
   |(with_reducible exact LeO.none _)
   |(with_reducible refine LeO.ite ?_ ?_)
   |(with_reducible refine LeO.bind ?_ (fun _ => ?_))
   |exact ih0 _ _ _ _ _ _ _
   |exact ih1 _ _ _ _ _ _ _ _ _ _ _ _
   |exact ih2 _ _ _ _
   |exact ih3 _ _ _ _ _
   |exact LeO.none _
    | refine LeO.ite ?_ ?_
    | refine LeO.bind ?_ (fun _ => ?_)
  ·intro y0 y1 y2 y3 y4
   unfold spec_l1Cur_rolls.l1
   repeat' first
   |(with_reducible exact ih0 _ _ _ _ _ _ _)
   |(with_reducible exact ih1 _ _ _ _ _ _ _ _ _ _ _ _)
   |(with_reducible exact ih2 _ _ _ _)
   |(with_reducible exact ih3 _ _ _ _ _)
   |(with_reducible exact LeO.refl _)
   |(with_reducible exact LeO.none _)
   |(with_reducible refine LeO.ite ?_ ?_)
   |(with_reducible refine LeO.bind ?_ (fun _ => ?_))
   |exact ih0 _ _ _ _ _ _ _
   |exact ih1 _ _ _ _ _ _ _ _ _ _ _ _
   |exact ih2 _ _ _ _
   |exact ih3 _ _ _ _ _
   |exact LeO.none _
    | refine LeO.ite ?_ ?_
    | refine LeO.bind ?_ (fun _ => ?_)
theorem spec_l1Cur_rolls.mono : ∀ a0 a1 a2 k, LeO (spec_l1Cur_rolls.f k a0 a1 a2) (spec_l1Cur_rolls.f (k + 1) a0 a1 a2) := by
 intro a0 a1 a2 k
 obtain ⟨ih0, ih1, ih2, ih3⟩ := spec_l1Cur_rolls.mono_l k
 unfold spec_l1Cur_rolls.f
 repeat' first
  |(with_reducible exact ih0 _ _ _ _ _ _ _)
  |(with_reducible exact ih1 _ _ _ _ _ _ _ _ _ _ _ _)
  |(with_reducible exact ih2 _ _ _ _)
  |(with_reducible exact ih3 _ _ _ _ _)
  |(with_reducible exact LeO.refl _)
  |(with_reducible exact LeO.none _)
  |(with_reducible refine LeO.ite ?_ ?_)
  |(with_reducible refine LeO.bind ?_ (fun _ => ?_))
  |exact ih0 _ _ _ _ _ _ _
  |exact ih1 _ _ _ _ _ _ _ _ _ _ _ _
  |exact ih2 _ _ _ _
  |exact ih3 _ _ _ _ _
  |exact LeO.none _
   | refine LeO.ite ?_ ?_
   | refine LeO.bind ?_ (fun _ => ?_)
def spec_l1Cur_rolls.T7 : Bool × List (List Nat × List Nat) := (true, [([], []), ([], []), ([0, 1], [0, 1]), ([2], [2]), ([], []), ([4, 0], [4]), ([], []), ([3, 5, 6], [3, 5, 6]), ([], []), ([8, 7, 5, 0, 1, 2, 3, 4, 5, 6, 7, 8], [7, 8])])
def spec_l1Cur_rolls.B7 : List Nat := [0, 0, 3, 7, 0, 17, 0, 127, 0, 511]
theorem spec_l1Cur_rolls.tab7 : rtab .any (opsOf Try.f69 7) = spec_l1Cur_rolls.T7 := by kernel_rfl
theorem spec_l1Cur_rolls.bits7 : waitsOk spec_l1Cur_rolls.T7.2 spec_l1Cur_rolls.B7 = true := by kernel_rfl
set_option maxHeartbeats 8000000 in
set_option maxRecDepth 100000 in
theorem spec_l1Cur_rolls.calls (k : Nat) (g : Nat) (s0_0 : List Int) (s0_1 : Int) (s0_2 : Int) (r1 : List (S29)) (r2 : Int) (r3 : Int) (w0 w : World) (hI : IsS90 w0 w g s0_0 s0_1 s0_2) (hB : Below w0.heap.size w0 w) (h : spec_l1Cur_rolls.f k s0_0 s0_1 s0_2 = some (r1, r2, r3)) :
 Calls Try.prog 69 #[.pointer (some ⟨g, 0, none⟩)] w fun e w' => ∃ v0_ : Value, e = .returned (v0_) ∧ Kd.R k29 29 w' w.heap.size (fun _ => True) v0_ r1 ∧ IsS90 w0 w' g s0_0 r2 r3 ∧ Below w0.heap.size w0 w' ∧ KeepBut w w' g none := by
 have hu29 := Try.underlying29
 have HI0 := Aside0.mk hI
 have HK := Aside0.mk (KeepBut.refl w g none)
 have HL := Aside0.mk hB.size
 clear hI
 have HW0 := Aside0.mk hB.size
 have HB := Aside0.mk hB
 clear hB
 have H : ((spec_l1Cur_pick.f s0_0 s0_1 s0_2 9).bind fun bt128 => (spec_l1Cur_rolls.l0 k ([] : List (S29)) bt128.1 1880 0 s0_0 bt128.2.1 bt128.2.2)) = some (r1, r2, r3) := h
 clear h
 replace H := Option.bind_eq_some_iff.mp H
 obtain ⟨⟨t128, t129, t130⟩, A20, H⟩ := H
 try dsimp only at H
 have A2 := Aside0.mk A20
 clear A20
 have H' := Aside0.mk H
 clear H
 go_enter Try.func69, Try.ntmps69
 go_wp2_with (first|((with_reducible refine gate_callee (f := 89) rfl ?_); refine goesL_ (some 11) rfl rfl Try.func89 (by kernel_rfl) rfl #[.pointer (some ⟨g, 0, none⟩), .int .i64 9] rfl (by (try simp only [List.map_toArray, List.map_cons, List.map_nil]); first | done | rfl|(simp only [List.length_drop, List.length_take]; rfl)) ?_; (with_reducible refine (spec_l1Cur_pick.calls g s0_0 s0_1 s0_2 9 t128 t129 t130 w0 _ ?side1 ?side2 A2.out).mono ?_);(case side1 => repeat (first|(with_reducible first|exact HI0.out|apply IsS90.alloc|apply IsS90.drewN|apply IsS90.drew|apply IsS90.set_1|apply IsS90.set_2)|exact HI0.out));(case side2 => repeat (first|(with_reducible first|exact HB.out|apply below_alloc|apply pw_below_drewN|apply below_drew1 | refine below_set ?_ (IsS90.ge HI0.out))|exact HB.out)); rintro e w3 ⟨rfl, hi, hb, hk⟩; refine ⟨_, rfl, ?_⟩; have n0_ := Aside0.mk (KeepBut.trans (by repeat (first|(with_reducible first|exact HK.out|apply KeepBut.set_|apply keep_drewN|apply keep_drew|apply keep_alloc)|exact HK.out)) hk (.inl rfl)); have n1_ := Aside0.mk (hb); have n2_ := Aside0.mk (hi); clear HK; clear HB; clear HI0; have HK := n0_; have HB := n1_; have HI0 := n2_; clear n0_ n1_ n2_; (try clear hb); (try clear hb2); (try clear hk); (try clear hi)))
 go_loopg [3, 5, 6] k (fun kq v3 v5 v6 w' => ∃ (x3_1 : List (S29)) (x5_1 : Int) (x6_1 : Int) (x1001_1 : Int) (x1002_1 : Int), v5 = .int .i64 x5_1 ∧ v6 = .int .i64 x6_1 ∧ Aside0 (spec_l1Cur_rolls.l0 kq x3_1 t128 x5_1 x6_1 s0_0 x1001_1 x1002_1 = some (r1, r2, r3)) ∧ Aside0 (kq ≤ k) ∧ Aside0 (Kd.R k29 29 w' w.heap.size (fun _ => True) v3 x3_1) ∧ Aside0 (IsS90 w0 w' g s0_0 x1001_1 x1002_1) ∧ Aside0 (KeepBut w w' g none) ∧ Aside0 (Below w0.heap.size w0 w'))
 case atStart => exact ⟨(([] : List (S29))), (1880), (0), (t129), (t130), (by first | rfl|(simp;done)|(simp [*];done)), (by first | rfl|(simp;done)|(simp [*];done)), H', ⟨Nat.le_refl _⟩, ⟨by first|exact Kd.R_nil _ _ _ _ _|exact Kd.N_nil _ _ _ _ _|exact Kd.V_nil _ _ _ _ _|exact Kd.Q_nil _ _ _ _ _|exact Kd.S_nil _ _ _ _ _⟩, ⟨by repeat (first|(with_reducible first|exact HI0.out|apply IsS90.alloc|apply IsS90.drewN|apply IsS90.drew|apply IsS90.set_1|apply IsS90.set_2)|exact HI0.out)⟩, ⟨by repeat (first|(with_reducible first|exact HK.out|apply KeepBut.set_|apply keep_drewN|apply keep_drew|apply keep_alloc)|exact HK.out)⟩, ⟨by repeat (first|(with_reducible first|exact HB.out|apply below_alloc|apply pw_below_drewN|apply below_drew1 | refine below_set ?_ (IsS90.ge HI0.out))|exact HB.out)⟩⟩
 case round =>
  clear H'
  try clear p2
  obtain ⟨x3_1, x5_1, x6_1, x1001_1, x1002_1, rfl, rfl, HA, HK1, HO_3, HI0, HK, HB⟩ := hrel
  cases gk with
  | zero => exact absurd HA.out (by simp [spec_l1Cur_rolls.l0])
  | succ k1 =>
   have H := HA.out
   clear HA
   simp only [spec_l1Cur_rolls.l0] at H
   by_cases c4 : x6_1 < t128
   ·rw [if_pos c4] at H
    have c4b0 : decide (x6_1 < t128) = true := decide_eq_true c4
    clear c4
    replace H := Option.bind_eq_some_iff.mp H
    obtain ⟨t131, A50, H⟩ := H
    try dsimp only at H
    have A5 := Aside0.mk A50
    clear A50
    by_cases c6 : 0 ≤ x6_1
    ·rw [if_pos c6] at H
     have c6b0 : decide (0 ≤ x6_1) = true := decide_eq_true c6
     clear c6
     by_cases c7 : x6_1 < (t131.length : Int)
     ·rw [if_pos c7] at H
      have c7b0 : decide (x6_1 < (t131.length : Int)) = true := decide_eq_true c7
      clear c7
      replace H := Option.bind_eq_some_iff.mp H
      obtain ⟨⟨t135, t136, t137⟩, A80, H⟩ := H
      try dsimp only at H
      have A8 := Aside0.mk A80
      clear A80
      have HC9 := Aside0.mk H
      clear H
      try go_wp2
      have pi134 : (0 ≤ (x6_1 : Int)) = True := eq_true (of_decide_eq_true (by first|(with_reducible assumption) | assumption))
      have qi134 : (x6_1 < (t131.length : Int)) = True := eq_true (of_decide_eq_true (by first|(with_reducible assumption) | assumption))
      have n0_ := Aside0.mk (Kd.R_drew HO_3.out)
      have n1_ := Aside0.mk (IsS90.drew HI0.out)
      have n2_ := Aside0.mk (keep_drew HK.out)
      have n3_ := Aside0.mk (below_drew1 HB.out)
      clear HO_3
      clear HI0
      clear HK
      clear HB
      have HO_3 := n0_
      have HI0 := n1_
      have HK := n2_
      have HB := n3_
      clear n0_ n1_ n2_ n3_
      refine start_ (n := 10) (S := fun w' => True) (ds := []) #[false, false, false, false, false, false, false, false, false, false] (by kernel_rfl) rfl rfl trivial (fun hHeld => ?_); refine with_tabW spec_l1Cur_rolls.tab7 spec_l1Cur_rolls.bits7 (fun HT_ HW_ => ?_)
      generalize wr.drew = w10 at HO_3 HI0 HK HB hHeld ⊢
      refine pure_ (i := 1) (N := some 18) (v := ?_) (a' := ?_) #[false, true, false, false, false, false, false, false, false, false] rfl rfl (any_of HT_.out (by kernel_rfl)) (fun _ _ _ h => h) (Or.inl ⟨by rfl, ?_⟩) ?_ ?_
      rotate_left
      ·intro w'
       go_simp
       with_reducible rfl
      rotate_left
      ·simp only [Act.put, List.setIfInBounds_toArray, List.set_cons_zero, List.set_cons_succ, i64_w, i32_w]
       rfl
      refine pure_ (i := 4) (N := some 21) (v := ?_) (a' := ?_) #[false, true, false, false, true, false, false, false, false, false] rfl rfl (any_of HT_.out (by kernel_rfl)) (fun _ _ _ h => h) (Or.inl ⟨by rfl, ?_⟩) ?_ ?_
      rotate_left
      ·intro w'
       go_simp
       with_reducible rfl
      rotate_left
      ·simp only [Act.put, List.setIfInBounds_toArray, List.set_cons_zero, List.set_cons_succ, i64_w, i32_w]
       rfl
      refine pure_ (i := 6) (N := some 23) (v := ?_) (a' := ?_) #[false, true, false, false, true, false, true, false, false, false] rfl rfl (any_of HT_.out (by kernel_rfl)) (fun _ _ _ h => h) (Or.inl ⟨by rfl, ?_⟩) ?_ ?_
      rotate_left
      ·intro w'
       go_simp
       with_reducible rfl
      rotate_left
      ·simp only [Act.put, List.setIfInBounds_toArray, List.set_cons_zero, List.set_cons_succ, i64_w, i32_w]
       rfl
      refine join_ (σ := Value × Addr × Nat) 1 #[true, true, true, true, true, true, true, true, true, false] (fun s_ => [(17, s_.1), (20, .string (rdOf ByteArray.empty t131 x6_1)), (22, .string t135), (7, .pointer (some ⟨s_.2.2, 0, none⟩)), (19, .pointer (some (s_.2.1.add (x6_1).toNat))), (24, .agg #[.string (rdOf ByteArray.empty t131 x6_1), .string t135, .int .i64 x5_1, .int .i64 (-1)])]) (fun s_ w' => (Kd.R Kd.string 9 w' w.heap.size (fun _ => True) s_.1 t131) ∧ (Kd.R k29 29 w' w.heap.size (fun k_ => k_ ≠ s_.2.2) u3 x3_1) ∧ (∃ c_, (s_.1 : Value) = .slice (some s_.2.1) t131.length c_) ∧ (w'.heap[s_.2.2]? = some (.cells #[.string (⟨#[]⟩ : ByteArray), .string (⟨#[]⟩ : ByteArray), .int .i64 0, .int .i64 0] 29 (0, 0))) ∧ (w.heap.size ≤ s_.2.2) ∧ (w0.heap.size ≤ s_.2.2) ∧ (g ≠ s_.2.2) ∧ (s_.2.2 ≠ g) ∧ (IsS90 w0 w' g s0_0 t136 t137) ∧ (KeepBut w w' g none) ∧ (Below w0.heap.size w0 w')) ?_ ?_
      rotate_left
      ·intro hJ0_3_5_8
       refine join_ (σ := Value × Addr) 2 #[true, true, true, true, true, true, true, true, false, false] (fun s_ => [(17, s_.1), (20, .string (rdOf ByteArray.empty t131 x6_1)), (22, .string t135), (19, .pointer (some (s_.2.add (x6_1).toNat))), (24, .agg #[.string (rdOf ByteArray.empty t131 x6_1), .string t135, .int .i64 x5_1, .int .i64 (-1)])]) (fun s_ w' => (Kd.R Kd.string 9 w' w.heap.size (fun _ => True) s_.1 t131) ∧ (Kd.R k29 29 w' w.heap.size (fun _ => True) u3 x3_1) ∧ (∃ c_, (s_.1 : Value) = .slice (some s_.2) t131.length c_) ∧ (IsS90 w0 w' g s0_0 t136 t137) ∧ (KeepBut w w' g none) ∧ (Below w0.heap.size w0 w')) ?_ ?_
       rotate_left
       ·intro hJ0_3_5
        refine join_ (σ := Value × Addr × Nat) 3 #[true, true, true, true, true, false, true, false, true, false] (fun s_ => [(17, s_.1), (20, .string (rdOf ByteArray.empty t131 x6_1)), (7, .pointer (some ⟨s_.2.2, 0, none⟩)), (19, .pointer (some (s_.2.1.add (x6_1).toNat)))]) (fun s_ w' => (Kd.R Kd.string 9 w' w.heap.size (fun _ => True) s_.1 t131) ∧ (Kd.R k29 29 w' w.heap.size (fun k_ => k_ ≠ s_.2.2) u3 x3_1) ∧ (∃ c_, (s_.1 : Value) = .slice (some s_.2.1) t131.length c_) ∧ (w'.heap[s_.2.2]? = some (.cells #[.string (⟨#[]⟩ : ByteArray), .string (⟨#[]⟩ : ByteArray), .int .i64 0, .int .i64 0] 29 (0, 0))) ∧ (w.heap.size ≤ s_.2.2) ∧ (w0.heap.size ≤ s_.2.2) ∧ (g ≠ s_.2.2) ∧ (s_.2.2 ≠ g) ∧ (IsS90 w0 w' g s0_0 x1001_1 x1002_1) ∧ (KeepBut w w' g none) ∧ (Below w0.heap.size w0 w')) ?_ ?_
        rotate_left
        ·intro hJ0_3_8
         refine join_ (σ := Value × Addr × Nat) 3 #[true, true, true, false, true, true, true, false, true, false] (fun s_ => [(17, s_.1), (22, .string t135), (7, .pointer (some ⟨s_.2.2, 0, none⟩)), (19, .pointer (some (s_.2.1.add (x6_1).toNat)))]) (fun s_ w' => (Kd.R Kd.string 9 w' w.heap.size (fun _ => True) s_.1 t131) ∧ (Kd.R k29 29 w' w.heap.size (fun k_ => k_ ≠ s_.2.2) u3 x3_1) ∧ (∃ c_, (s_.1 : Value) = .slice (some s_.2.1) t131.length c_) ∧ (w'.heap[s_.2.2]? = some (.cells #[.string (⟨#[]⟩ : ByteArray), .string (⟨#[]⟩ : ByteArray), .int .i64 0, .int .i64 0] 29 (0, 0))) ∧ (w.heap.size ≤ s_.2.2) ∧ (w0.heap.size ≤ s_.2.2) ∧ (g ≠ s_.2.2) ∧ (s_.2.2 ≠ g) ∧ (IsS90 w0 w' g s0_0 t136 t137) ∧ (KeepBut w w' g none) ∧ (Below w0.heap.size w0 w')) ?_ ?_
         rotate_left
         ·intro hJ0_5_8
          refine join_ (σ := Value × Addr) 4 #[true, true, true, true, true, false, true, false, false, false] (fun s_ => [(17, s_.1), (20, .string (rdOf ByteArray.empty t131 x6_1)), (19, .pointer (some (s_.2.add (x6_1).toNat)))]) (fun s_ w' => (Kd.R Kd.string 9 w' w.heap.size (fun _ => True) s_.1 t131) ∧ (Kd.R k29 29 w' w.heap.size (fun _ => True) u3 x3_1) ∧ (∃ c_, (s_.1 : Value) = .slice (some s_.2) t131.length c_) ∧ (IsS90 w0 w' g s0_0 x1001_1 x1002_1) ∧ (KeepBut w w' g none) ∧ (Below w0.heap.size w0 w')) ?_ ?_
          rotate_left
          ·intro hJ0_3
           refine join_ (σ := Value × Addr) 4 #[true, true, true, false, true, true, true, false, false, false] (fun s_ => [(17, s_.1), (22, .string t135), (19, .pointer (some (s_.2.add (x6_1).toNat)))]) (fun s_ w' => (Kd.R Kd.string 9 w' w.heap.size (fun _ => True) s_.1 t131) ∧ (Kd.R k29 29 w' w.heap.size (fun _ => True) u3 x3_1) ∧ (∃ c_, (s_.1 : Value) = .slice (some s_.2) t131.length c_) ∧ (IsS90 w0 w' g s0_0 t136 t137) ∧ (KeepBut w w' g none) ∧ (Below w0.heap.size w0 w')) ?_ ?_
           rotate_left
           ·intro hJ0_5
            refine join_ (σ := Value × Addr × Nat) 4 #[true, true, true, false, true, false, true, false, true, false] (fun s_ => [(17, s_.1), (7, .pointer (some ⟨s_.2.2, 0, none⟩)), (19, .pointer (some (s_.2.1.add (x6_1).toNat)))]) (fun s_ w' => (Kd.R Kd.string 9 w' w.heap.size (fun _ => True) s_.1 t131) ∧ (Kd.R k29 29 w' w.heap.size (fun k_ => k_ ≠ s_.2.2) u3 x3_1) ∧ (∃ c_, (s_.1 : Value) = .slice (some s_.2.1) t131.length c_) ∧ (w'.heap[s_.2.2]? = some (.cells #[.string (⟨#[]⟩ : ByteArray), .string (⟨#[]⟩ : ByteArray), .int .i64 0, .int .i64 0] 29 (0, 0))) ∧ (w.heap.size ≤ s_.2.2) ∧ (w0.heap.size ≤ s_.2.2) ∧ (g ≠ s_.2.2) ∧ (s_.2.2 ≠ g) ∧ (IsS90 w0 w' g s0_0 x1001_1 x1002_1) ∧ (KeepBut w w' g none) ∧ (Below w0.heap.size w0 w')) ?_ ?_
            rotate_left
            ·intro hJ0_8
             refine join_ (σ := Value × Addr) 5 #[true, true, true, false, true, false, true, false, false, false] (fun s_ => [(17, s_.1), (19, .pointer (some (s_.2.add (x6_1).toNat)))]) (fun s_ w' => (Kd.R Kd.string 9 w' w.heap.size (fun _ => True) s_.1 t131) ∧ (Kd.R k29 29 w' w.heap.size (fun _ => True) u3 x3_1) ∧ (∃ c_, (s_.1 : Value) = .slice (some s_.2) t131.length c_) ∧ (IsS90 w0 w' g s0_0 x1001_1 x1002_1) ∧ (KeepBut w w' g none) ∧ (Below w0.heap.size w0 w')) ?_ ?_
             rotate_left
             ·intro hJ0
              refine join_ (σ := Nat) 6 #[false, true, false, false, true, false, true, false, true, false] (fun s_ => [(7, .pointer (some ⟨s_, 0, none⟩))]) (fun s_ w' => (Kd.R k29 29 w' w.heap.size (fun k_ => k_ ≠ s_) u3 x3_1) ∧ (w'.heap[s_]? = some (.cells #[.string (⟨#[]⟩ : ByteArray), .string (⟨#[]⟩ : ByteArray), .int .i64 0, .int .i64 0] 29 (0, 0))) ∧ (w.heap.size ≤ s_) ∧ (w0.heap.size ≤ s_) ∧ (g ≠ s_) ∧ (s_ ≠ g) ∧ (IsS90 w0 w' g s0_0 x1001_1 x1002_1) ∧ (KeepBut w w' g none) ∧ (Below w0.heap.size w0 w')) ?_ ?_
              rotate_left
              ·intro hJ8
               refine two_ (i := 0) (j := 8) (Ni := some 17) (Nj := some 7) #[true, true, false, false, true, false, true, false, false, false] #[false, true, false, false, true, false, true, false, true, false] rfl rfl rfl rfl (two_of HT_.out (by kernel_rfl)) (by decide) (by decide) (fun K hK => ?_) (fun K hK => ?_)
               ·skip
                refine goes_ Try.func75 (by kernel_rfl) rfl #[] (by rfl) rfl rfl (by (try simp only [List.map_toArray, List.map_cons, List.map_nil]); first | done | rfl|(simp only [List.length_drop, List.length_take]; rfl)) ?_
                with_reducible refine (spec_caTitles.calls  t131 _ A5.out).mono ?_
                rintro e w11 ⟨v132, rfl, ho0, hb⟩
                refine ⟨_, rfl, ?_⟩
                have n0_ := Aside0.mk (Kd.R_below (by (with_reducible repeat (first|apply Kd.R_alloc|apply Kd.R_drewN|apply Kd.R_drew)); exact HO_3.out) hb)
                have n1_ := Aside0.mk (Kd.R_lower ho0 (keep_size (w := w) (g := g) (row := none) (by repeat (first|(with_reducible first|exact HK.out|apply KeepBut.set_|apply keep_drewN|apply keep_drew|apply keep_alloc)|exact HK.out))))
                have n2_ := Aside0.mk (IsS90.below (by repeat (first|(with_reducible first|exact HI0.out|apply IsS90.alloc|apply IsS90.drewN|apply IsS90.drew|apply IsS90.set_1|apply IsS90.set_2)|exact HI0.out)) hb)
                have n3_ := Aside0.mk (KeepBut.trans (by repeat (first|(with_reducible first|exact HK.out|apply KeepBut.set_|apply keep_drewN|apply keep_drew|apply keep_alloc)|exact HK.out)) (KeepBut.of_below hb g none) (.inl rfl))
                have n4_ := Aside0.mk (below_step (by repeat (first|(with_reducible first|exact HB.out|apply below_alloc|apply pw_below_drewN|apply below_drew1 | refine below_set ?_ (IsS90.ge HI0.out))|exact HB.out)) hb)
                clear HO_3
                clear HI0
                clear HK
                clear HB
                have HO_3 := n0_
                have HO133 := n1_
                have HI0 := n2_
                have HK := n3_
                have HB := n4_
                clear n0_ n1_ n2_ n3_ n4_
                (try clear hb)
                (try clear hb2)
                (try clear hk)
                (try clear hi)
                (try clear ho0)
                obtain ⟨Ao12, co12, eo12⟩ := Kd.R_slice HO133.out
                subst eo12
                obtain ⟨ado12, fo12, _⟩ := Kd.at_string (Kd.R_reads' HO133.out).2.2 x6_1 (of_eq_true pi134) (of_eq_true qi134)
                cases fo12
                refine hK.out _ _ trivial (fun hHeld => ?_)
                clear hK K
                refine norm_ (a' := ?_) ?_ ?_
                rotate_left
                ·show Act.put _ (some 17) _ = _
                 simp only [Act.put, List.setIfInBounds_toArray, List.set_cons_zero, List.set_cons_succ, i64_w, i32_w]
                 rfl
                refine pure_ (i := 2) (N := some 19) (v := ?_) (a' := ?_) #[true, true, true, false, true, false, true, false, false, false] rfl rfl (any_of HT_.out (by kernel_rfl)) (fun _ _ _ h => h) (Or.inl ⟨by rfl, ?_⟩) ?_ ?_
                rotate_left
                ·intro w'
                 go_simp
                 with_reducible rfl
                rotate_left
                ·simp only [Act.put, List.setIfInBounds_toArray, List.set_cons_zero, List.set_cons_succ, i64_w, i32_w]
                 rfl
                exact norm_ (by first|(simp only [putAll, Act.put, List.setIfInBounds_toArray, List.set_cons_zero, List.set_cons_succ];done)|(simp only [putAll, Act.put, List.setIfInBounds_toArray, List.set_cons_zero, List.set_cons_succ]; rfl)) (hJ0 (.slice (some ado12) t131.length co12, ado12) _ ⟨(by (with_reducible repeat (first|apply Kd.R_alloc|apply Kd.R_drewN|apply Kd.R_drew)); exact HO133.out), (by (with_reducible repeat (first|apply Kd.R_alloc|apply Kd.R_drewN|apply Kd.R_drew)); exact HO_3.out), ⟨_, rfl⟩, (by repeat (first|(with_reducible first|exact HI0.out|apply IsS90.alloc|apply IsS90.drewN|apply IsS90.drew|apply IsS90.set_1|apply IsS90.set_2)|exact HI0.out)), (by repeat (first|(with_reducible first|exact HK.out|apply KeepBut.set_|apply keep_drewN|apply keep_drew|apply keep_alloc)|exact HK.out)), (by repeat (first|(with_reducible first|exact HB.out|apply below_alloc|apply pw_below_drewN|apply below_drew1 | refine below_set ?_ (IsS90.ge HI0.out))|exact HB.out))⟩)
               ·skip
                refine box_step ?hg (N := 7) ?hd (cs := #[.string (⟨#[]⟩ : ByteArray), .string (⟨#[]⟩ : ByteArray), .int .i64 0, .int .i64 0]) (t := 29) ?hr ?_;(case hd => rfl);(case hg => rfl);(case hr => first|(go_simp;done)|(go_simp; rfl))
                intro gb138 hg w11 hbox hb
                have n0_ := Aside0.mk (Kd.R_below (Kd.R_elderB (by (with_reducible repeat (first|apply Kd.R_alloc|apply Kd.R_drewN|apply Kd.R_drew)); exact HO_3.out) gb138 (Nat.le_of_eq hg.symm)) hb)
                have n1_ := Aside0.mk (IsS90.below (by repeat (first|(with_reducible first|exact HI0.out|apply IsS90.alloc|apply IsS90.drewN|apply IsS90.drew|apply IsS90.set_1|apply IsS90.set_2)|exact HI0.out)) hb)
                have n2_ := Aside0.mk (KeepBut.trans (by repeat (first|(with_reducible first|exact HK.out|apply KeepBut.set_|apply keep_drewN|apply keep_drew|apply keep_alloc)|exact HK.out)) (KeepBut.of_below hb g none) (.inl rfl))
                have n3_ := Aside0.mk (below_step (by repeat (first|(with_reducible first|exact HB.out|apply below_alloc|apply pw_below_drewN|apply below_drew1 | refine below_set ?_ (IsS90.ge HI0.out))|exact HB.out)) hb)
                have n4_ := Aside0.mk (hbox)
                have n5_ := Aside0.mk ((by rw [hg]; exact (keep_size (w := w) (g := g) (row := none) (by repeat (first|(with_reducible first|exact HK.out|apply KeepBut.set_|apply keep_drewN|apply keep_drew|apply keep_alloc)|exact HK.out))) : w.heap.size ≤ gb138))
                have n6_ := Aside0.mk ((Nat.le_trans HW0.out (by rw [hg]; exact (keep_size (w := w) (g := g) (row := none) (by repeat (first|(with_reducible first|exact HK.out|apply KeepBut.set_|apply keep_drewN|apply keep_drew|apply keep_alloc)|exact HK.out))) : w.heap.size ≤ gb138) : w0.heap.size ≤ gb138))
                have n7_ := Aside0.mk ((by rw [hg]; exact Nat.ne_of_lt (IsS90.lt (show IsS90 w0 _ g s0_0 x1001_1 x1002_1 from by repeat (first|(with_reducible first|exact HI0.out|apply IsS90.alloc|apply IsS90.drewN|apply IsS90.drew|apply IsS90.set_1|apply IsS90.set_2)|exact HI0.out))) : g ≠ gb138))
                have n8_ := Aside0.mk ((by rw [hg]; exact Nat.ne_of_gt (IsS90.lt (show IsS90 w0 _ g s0_0 x1001_1 x1002_1 from by repeat (first|(with_reducible first|exact HI0.out|apply IsS90.alloc|apply IsS90.drewN|apply IsS90.drew|apply IsS90.set_1|apply IsS90.set_2)|exact HI0.out))) : gb138 ≠ g))
                clear HO_3
                clear HI0
                clear HK
                clear HB
                have HO_3 := n0_
                have HI0 := n1_
                have HK := n2_
                have HB := n3_
                have BK138 := n4_
                have GW138 := n5_
                have GE138 := n6_
                have NB0_138 := n7_
                have NB138_0 := n8_
                clear n0_ n1_ n2_ n3_ n4_ n5_ n6_ n7_ n8_
                clear hb hbox hg
                refine hK.out _ _ trivial (fun hHeld => ?_)
                clear hK K
                refine norm_ (a' := ?_) ?_ ?_
                rotate_left
                ·show Act.put _ (some 7) _ = _
                 simp only [Act.put, List.setIfInBounds_toArray, List.set_cons_zero, List.set_cons_succ, i64_w, i32_w]
                 rfl
                exact norm_ (by first|(simp only [putAll, Act.put, List.setIfInBounds_toArray, List.set_cons_zero, List.set_cons_succ];done)|(simp only [putAll, Act.put, List.setIfInBounds_toArray, List.set_cons_zero, List.set_cons_succ]; rfl)) (hJ8 (gb138) _ ⟨(by (with_reducible repeat (first|apply Kd.R_alloc|apply Kd.R_drewN|apply Kd.R_drew)); exact Kd.R_mono HO_3.out (fun _ hk => hk.2)), (by (with_reducible repeat (first|refine blk_drewN ?_ _ | refine blk_drew ?_ | refine blk_alloc ?_ _)); exact BK138.out), GW138.out, GE138.out, NB0_138.out, NB138_0.out, (by repeat (first|(with_reducible first|exact HI0.out|apply IsS90.alloc|apply IsS90.drewN|apply IsS90.drew|apply IsS90.set_1|apply IsS90.set_2|exact IsS90.far HI0.out NB0_138.out _|exact IsS90.far (IsS90.far HI0.out NB0_138.out _) NB0_138.out _|exact IsS90.far (IsS90.far (IsS90.far HI0.out NB0_138.out _) NB0_138.out _) NB0_138.out _ | refine IsS90.far ?_ NB0_138.out _)|exact HI0.out)), (by repeat (first|(with_reducible first|exact HK.out|apply KeepBut.set_|apply keep_drewN|apply keep_drew|apply keep_alloc | refine keep_far ?_ GW138.out _)|exact HK.out)), (by repeat (first|(with_reducible first|exact HB.out|apply below_alloc|apply pw_below_drewN|apply below_drew1 | refine below_set ?_ (IsS90.ge HI0.out) | refine below_set ?_ GE138.out)|exact HB.out))⟩)
              ·skip
               rintro gb138 w12 ⟨h0_, h1_, h2_, h3_, h4_, h5_, h6_, h7_, h8_⟩
               have n0_ : Aside0 (Kd.R k29 29 w12 w.heap.size (fun k_ => k_ ≠ gb138) u3 x3_1) := ⟨h0_⟩
               have n1_ : Aside0 (w12.heap[gb138]? = some (.cells #[.string (⟨#[]⟩ : ByteArray), .string (⟨#[]⟩ : ByteArray), .int .i64 0, .int .i64 0] 29 (0, 0))) := ⟨h1_⟩
               have n2_ : Aside0 (w.heap.size ≤ gb138) := ⟨h2_⟩
               have n3_ : Aside0 (w0.heap.size ≤ gb138) := ⟨h3_⟩
               have n4_ : Aside0 (g ≠ gb138) := ⟨h4_⟩
               have n5_ : Aside0 (gb138 ≠ g) := ⟨h5_⟩
               have n6_ : Aside0 (IsS90 w0 w12 g s0_0 x1001_1 x1002_1) := ⟨h6_⟩
               have n7_ : Aside0 (KeepBut w w12 g none) := ⟨h7_⟩
               have n8_ : Aside0 (Below w0.heap.size w0 w12) := ⟨h8_⟩
               clear HO_3
               clear HI0
               clear HK
               clear HB
               clear h0_ h1_ h2_ h3_ h4_ h5_ h6_ h7_ h8_
               have HO_3 := n0_
               have BK138 := n1_
               have GW138 := n2_
               have GE138 := n3_
               have NB0_138 := n4_
               have NB138_0 := n5_
               have HI0 := n6_
               have HK := n7_
               have HB := n8_
               clear n0_ n1_ n2_ n3_ n4_ n5_ n6_ n7_ n8_
               have hHeld := trivial
               refine norm_ (a' := ?_) ?_ ?_
               rotate_left
               ·simp only [putAll, Act.put, List.setIfInBounds_toArray, List.set_cons_zero, List.set_cons_succ]
                rfl
               refine one_ (i := 0) (N := some 17) #[true, true, false, false, true, false, true, false, true, false] rfl rfl (one_of HT_.out (by kernel_rfl)) (by decide) (fun K hK => ?_)
               refine goes_ Try.func75 (by kernel_rfl) rfl #[] (by rfl) rfl rfl (by (try simp only [List.map_toArray, List.map_cons, List.map_nil]); first | done | rfl|(simp only [List.length_drop, List.length_take]; rfl)) ?_
               with_reducible refine (spec_caTitles.calls  t131 _ A5.out).mono ?_
               rintro e w13 ⟨v132, rfl, ho0, hb⟩
               refine ⟨_, rfl, ?_⟩
               have n0_ := Aside0.mk (Kd.R_below (by (with_reducible repeat (first|apply Kd.R_alloc|apply Kd.R_drewN|apply Kd.R_drew)); exact HO_3.out) hb)
               have n1_ := Aside0.mk (Kd.R_lower ho0 (keep_size (w := w) (g := g) (row := none) (by repeat (first|(with_reducible first|exact HK.out|apply KeepBut.set_|apply keep_drewN|apply keep_drew|apply keep_alloc | refine keep_far ?_ GW138.out _)|exact HK.out))))
               have n2_ := Aside0.mk (IsS90.below (by repeat (first|(with_reducible first|exact HI0.out|apply IsS90.alloc|apply IsS90.drewN|apply IsS90.drew|apply IsS90.set_1|apply IsS90.set_2|exact IsS90.far HI0.out NB0_138.out _|exact IsS90.far (IsS90.far HI0.out NB0_138.out _) NB0_138.out _|exact IsS90.far (IsS90.far (IsS90.far HI0.out NB0_138.out _) NB0_138.out _) NB0_138.out _ | refine IsS90.far ?_ NB0_138.out _)|exact HI0.out)) hb)
               have n3_ := Aside0.mk (blk_below (g := gb138) (o := .cells #[.string (⟨#[]⟩ : ByteArray), .string (⟨#[]⟩ : ByteArray), .int .i64 0, .int .i64 0] 29 (0, 0)) (by (with_reducible repeat (first|refine blk_drewN ?_ _ | refine blk_drew ?_ | refine blk_alloc ?_ _)); exact BK138.out) hb)
               have n4_ := Aside0.mk (KeepBut.trans (by repeat (first|(with_reducible first|exact HK.out|apply KeepBut.set_|apply keep_drewN|apply keep_drew|apply keep_alloc | refine keep_far ?_ GW138.out _)|exact HK.out)) (KeepBut.of_below hb g none) (.inl rfl))
               have n5_ := Aside0.mk (below_step (by repeat (first|(with_reducible first|exact HB.out|apply below_alloc|apply pw_below_drewN|apply below_drew1 | refine below_set ?_ (IsS90.ge HI0.out) | refine below_set ?_ GE138.out)|exact HB.out)) hb)
               clear HO_3
               clear HI0
               clear BK138
               clear HK
               clear HB
               have HO_3 := n0_
               have HO133 := n1_
               have HI0 := n2_
               have BK138 := n3_
               have HK := n4_
               have HB := n5_
               clear n0_ n1_ n2_ n3_ n4_ n5_
               (try clear hb)
               (try clear hb2)
               (try clear hk)
               (try clear hi)
               (try clear ho0)
               obtain ⟨Ao14, co14, eo14⟩ := Kd.R_slice HO133.out
               subst eo14
               obtain ⟨ado14, fo14, _⟩ := Kd.at_string (Kd.R_reads' HO133.out).2.2 x6_1 (of_eq_true pi134) (of_eq_true qi134)
               cases fo14
               refine hK.out _ _ trivial (fun hHeld => ?_)
               clear hK K
               refine norm_ (a' := ?_) ?_ ?_
               rotate_left
               ·show Act.put _ (some 17) _ = _
                simp only [Act.put, List.setIfInBounds_toArray, List.set_cons_zero, List.set_cons_succ, i64_w, i32_w]
                rfl
               refine pure_ (i := 2) (N := some 19) (v := ?_) (a' := ?_) #[true, true, true, false, true, false, true, false, true, false] rfl rfl (any_of HT_.out (by kernel_rfl)) (fun _ _ _ h => h) (Or.inl ⟨by rfl, ?_⟩) ?_ ?_
               rotate_left
               ·intro w'
                go_simp
                with_reducible rfl
               rotate_left
               ·simp only [Act.put, List.setIfInBounds_toArray, List.set_cons_zero, List.set_cons_succ, i64_w, i32_w]
                rfl
               exact norm_ (by first|(simp only [putAll, Act.put, List.setIfInBounds_toArray, List.set_cons_zero, List.set_cons_succ];done)|(simp only [putAll, Act.put, List.setIfInBounds_toArray, List.set_cons_zero, List.set_cons_succ]; rfl)) (hJ0_8 (.slice (some ado14) t131.length co14, ado14, gb138) _ ⟨(by (with_reducible repeat (first|apply Kd.R_alloc|apply Kd.R_drewN|apply Kd.R_drew)); exact HO133.out), (by (with_reducible repeat (first|apply Kd.R_alloc|apply Kd.R_drewN|apply Kd.R_drew)); exact HO_3.out), ⟨_, rfl⟩, (by (with_reducible repeat (first|refine blk_drewN ?_ _ | refine blk_drew ?_ | refine blk_alloc ?_ _)); exact BK138.out), GW138.out, GE138.out, NB0_138.out, NB138_0.out, (by repeat (first|(with_reducible first|exact HI0.out|apply IsS90.alloc|apply IsS90.drewN|apply IsS90.drew|apply IsS90.set_1|apply IsS90.set_2|exact IsS90.far HI0.out NB0_138.out _|exact IsS90.far (IsS90.far HI0.out NB0_138.out _) NB0_138.out _|exact IsS90.far (IsS90.far (IsS90.far HI0.out NB0_138.out _) NB0_138.out _) NB0_138.out _ | refine IsS90.far ?_ NB0_138.out _)|exact HI0.out)), (by repeat (first|(with_reducible first|exact HK.out|apply KeepBut.set_|apply keep_drewN|apply keep_drew|apply keep_alloc | refine keep_far ?_ GW138.out _)|exact HK.out)), (by repeat (first|(with_reducible first|exact HB.out|apply below_alloc|apply pw_below_drewN|apply below_drew1 | refine below_set ?_ (IsS90.ge HI0.out) | refine below_set ?_ GE138.out)|exact HB.out))⟩)
             ·skip
              rintro ⟨v132, adz_v132⟩ w13 ⟨h0_, h1_, h2_, h3_, h4_, h5_⟩
              have n0_ : Aside0 (Kd.R Kd.string 9 w13 w.heap.size (fun _ => True) v132 t131) := ⟨h0_⟩
              have n1_ : Aside0 (Kd.R k29 29 w13 w.heap.size (fun _ => True) u3 x3_1) := ⟨h1_⟩
              have n2_ : Aside0 (∃ c_, (v132 : Value) = .slice (some adz_v132) t131.length c_) := ⟨h2_⟩
              have n3_ : Aside0 (IsS90 w0 w13 g s0_0 x1001_1 x1002_1) := ⟨h3_⟩
              have n4_ : Aside0 (KeepBut w w13 g none) := ⟨h4_⟩
              have n5_ : Aside0 (Below w0.heap.size w0 w13) := ⟨h5_⟩
              clear HO_3
              clear HI0
              clear HK
              clear HB
              clear h0_ h1_ h2_ h3_ h4_ h5_
              have HO133 := n0_
              have HO_3 := n1_
              have HA_HO133 := n2_
              have HI0 := n3_
              have HK := n4_
              have HB := n5_
              clear n0_ n1_ n2_ n3_ n4_ n5_
              have hHeld := trivial
              obtain ⟨co14, eo14⟩ := HA_HO133.out
              clear HA_HO133
              subst eo14
              refine norm_ (a' := ?_) ?_ ?_
              rotate_left
              ·simp only [putAll, Act.put, List.setIfInBounds_toArray, List.set_cons_zero, List.set_cons_succ]
               rfl
              refine three_ (i := 3) (j := 5) (k := 8) (Ni := some 20) (Nj := some 22) (Nk := some 7) #[true, true, true, true, true, false, true, false, false, false] #[true, true, true, false, true, true, true, false, false, false] #[true, true, true, false, true, false, true, false, true, false] rfl rfl rfl rfl rfl rfl (three_of HT_.out (by kernel_rfl)) (by decide) (by decide) (by decide) (fun K hK => ?_) (fun K hK => ?_) (fun K hK => ?_)
              ·skip
               (have p134 : 0 ≤ (x6_1 : Int) := of_decide_eq_true (by first|(with_reducible assumption) | assumption); have q134 : x6_1 < (t131.length : Int) := of_decide_eq_true (by first|(with_reducible assumption) | assumption); obtain ⟨ad134, e134, hx134_0⟩ := Kd.at_string (Kd.R_reads' HO133.out).2.2 x6_1 p134 q134; obtain rfl : adz_v132 = ad134 := (by injection e134))
               refine value_ (w1 := ?_) (v := ?_) (by rfl) rfl ?_ ?_
               rotate_left 2
               ·go_simp
                constructor
                ·rfl
                ·rfl
               clear hx134_0
               refine hK.out _ _ trivial (fun hHeld => ?_)
               clear hK K
               refine norm_ (a' := ?_) ?_ ?_
               rotate_left
               ·show Act.put _ (some 20) _ = _
                simp only [Act.put, List.setIfInBounds_toArray, List.set_cons_zero, List.set_cons_succ, i64_w, i32_w]
                rfl
               exact norm_ (by first|(simp only [putAll, Act.put, List.setIfInBounds_toArray, List.set_cons_zero, List.set_cons_succ];done)|(simp only [putAll, Act.put, List.setIfInBounds_toArray, List.set_cons_zero, List.set_cons_succ]; rfl)) (hJ0_3 (.slice (some adz_v132) t131.length co14, adz_v132) _ ⟨(by (with_reducible repeat (first|apply Kd.R_alloc|apply Kd.R_drewN|apply Kd.R_drew)); exact HO133.out), (by (with_reducible repeat (first|apply Kd.R_alloc|apply Kd.R_drewN|apply Kd.R_drew)); exact HO_3.out), ⟨_, rfl⟩, (by repeat (first|(with_reducible first|exact HI0.out|apply IsS90.alloc|apply IsS90.drewN|apply IsS90.drew|apply IsS90.set_1|apply IsS90.set_2)|exact HI0.out)), (by repeat (first|(with_reducible first|exact HK.out|apply KeepBut.set_|apply keep_drewN|apply keep_drew|apply keep_alloc)|exact HK.out)), (by repeat (first|(with_reducible first|exact HB.out|apply below_alloc|apply pw_below_drewN|apply below_drew1 | refine below_set ?_ (IsS90.ge HI0.out))|exact HB.out))⟩)
              ·skip
               refine goes_ Try.func71 (by kernel_rfl) rfl #[.pointer (some ⟨g, 0, none⟩)] (by rfl) rfl rfl (by (try simp only [List.map_toArray, List.map_cons, List.map_nil]); first | done | rfl|(simp only [List.length_drop, List.length_take]; rfl)) ?_
               with_reducible refine (spec_l1Cur_maker.calls g s0_0 x1001_1 x1002_1 t135 t136 t137 w0 _ ?side1 ?side2 A8.out).mono ?_
               (case side1 => repeat (first|(with_reducible first|exact HI0.out|apply IsS90.alloc|apply IsS90.drewN|apply IsS90.drew|apply IsS90.set_1|apply IsS90.set_2)|exact HI0.out))
               (case side2 => repeat (first|(with_reducible first|exact HB.out|apply below_alloc|apply pw_below_drewN|apply below_drew1 | refine below_set ?_ (IsS90.ge HI0.out))|exact HB.out))
               rintro e w15 ⟨rfl, hi, hb, hk⟩
               refine ⟨_, rfl, ?_⟩
               have n0_ := Aside0.mk (Kd.R_mono (Kd.R_keep (IsS90.apart (show IsS90 w0 _ g s0_0 x1001_1 x1002_1 from by repeat (first|(with_reducible first|exact HI0.out|apply IsS90.alloc|apply IsS90.drewN|apply IsS90.drew|apply IsS90.set_1|apply IsS90.set_2)|exact HI0.out)) (by (with_reducible repeat (first|apply Kd.R_alloc|apply Kd.R_drewN|apply Kd.R_drew)); exact HO_3.out) (by decide)) hk (fun _ h => h.2)) (fun _ h => h.1))
               have n1_ := Aside0.mk (Kd.R_mono (Kd.R_keep (IsS90.apart (show IsS90 w0 _ g s0_0 x1001_1 x1002_1 from by repeat (first|(with_reducible first|exact HI0.out|apply IsS90.alloc|apply IsS90.drewN|apply IsS90.drew|apply IsS90.set_1|apply IsS90.set_2)|exact HI0.out)) (by (with_reducible repeat (first|apply Kd.R_alloc|apply Kd.R_drewN|apply Kd.R_drew)); exact HO133.out) (by decide)) hk (fun _ h => h.2)) (fun _ h => h.1))
               have n2_ := Aside0.mk (KeepBut.trans (by repeat (first|(with_reducible first|exact HK.out|apply KeepBut.set_|apply keep_drewN|apply keep_drew|apply keep_alloc)|exact HK.out)) hk (.inl rfl))
               have n3_ := Aside0.mk (hb)
               have n4_ := Aside0.mk (hi)
               clear HO_3
               clear HO133
               clear HK
               clear HB
               clear HI0
               have HO_3 := n0_
               have HO133 := n1_
               have HK := n2_
               have HB := n3_
               have HI0 := n4_
               clear n0_ n1_ n2_ n3_ n4_
               (try clear hb)
               (try clear hb2)
               (try clear hk)
               (try clear hi)
               refine hK.out _ _ trivial (fun hHeld => ?_)
               clear hK K
               refine norm_ (a' := ?_) ?_ ?_
               rotate_left
               ·show Act.put _ (some 22) _ = _
                simp only [Act.put, List.setIfInBounds_toArray, List.set_cons_zero, List.set_cons_succ, i64_w, i32_w]
                rfl
               exact norm_ (by first|(simp only [putAll, Act.put, List.setIfInBounds_toArray, List.set_cons_zero, List.set_cons_succ];done)|(simp only [putAll, Act.put, List.setIfInBounds_toArray, List.set_cons_zero, List.set_cons_succ]; rfl)) (hJ0_5 (.slice (some adz_v132) t131.length co14, adz_v132) _ ⟨(by (with_reducible repeat (first|apply Kd.R_alloc|apply Kd.R_drewN|apply Kd.R_drew)); exact HO133.out), (by (with_reducible repeat (first|apply Kd.R_alloc|apply Kd.R_drewN|apply Kd.R_drew)); exact HO_3.out), ⟨_, rfl⟩, (by repeat (first|(with_reducible first|exact HI0.out|apply IsS90.alloc|apply IsS90.drewN|apply IsS90.drew|apply IsS90.set_1|apply IsS90.set_2)|exact HI0.out)), (by repeat (first|(with_reducible first|exact HK.out|apply KeepBut.set_|apply keep_drewN|apply keep_drew|apply keep_alloc)|exact HK.out)), (by repeat (first|(with_reducible first|exact HB.out|apply below_alloc|apply pw_below_drewN|apply below_drew1 | refine below_set ?_ (IsS90.ge HI0.out))|exact HB.out))⟩)
              ·skip
               refine box_step ?hg (N := 7) ?hd (cs := #[.string (⟨#[]⟩ : ByteArray), .string (⟨#[]⟩ : ByteArray), .int .i64 0, .int .i64 0]) (t := 29) ?hr ?_;(case hd => rfl);(case hg => rfl);(case hr => first|(go_simp;done)|(go_simp; rfl))
               intro gb138 hg w15 hbox hb
               have n0_ := Aside0.mk (Kd.R_below (Kd.R_elderB (by (with_reducible repeat (first|apply Kd.R_alloc|apply Kd.R_drewN|apply Kd.R_drew)); exact HO_3.out) gb138 (Nat.le_of_eq hg.symm)) hb)
               have n1_ := Aside0.mk (Kd.R_below (by (with_reducible repeat (first|apply Kd.R_alloc|apply Kd.R_drewN|apply Kd.R_drew)); exact HO133.out) hb)
               have n2_ := Aside0.mk (IsS90.below (by repeat (first|(with_reducible first|exact HI0.out|apply IsS90.alloc|apply IsS90.drewN|apply IsS90.drew|apply IsS90.set_1|apply IsS90.set_2)|exact HI0.out)) hb)
               have n3_ := Aside0.mk (KeepBut.trans (by repeat (first|(with_reducible first|exact HK.out|apply KeepBut.set_|apply keep_drewN|apply keep_drew|apply keep_alloc)|exact HK.out)) (KeepBut.of_below hb g none) (.inl rfl))
               have n4_ := Aside0.mk (below_step (by repeat (first|(with_reducible first|exact HB.out|apply below_alloc|apply pw_below_drewN|apply below_drew1 | refine below_set ?_ (IsS90.ge HI0.out))|exact HB.out)) hb)
               have n5_ := Aside0.mk (hbox)
               have n6_ := Aside0.mk ((by rw [hg]; exact (keep_size (w := w) (g := g) (row := none) (by repeat (first|(with_reducible first|exact HK.out|apply KeepBut.set_|apply keep_drewN|apply keep_drew|apply keep_alloc)|exact HK.out))) : w.heap.size ≤ gb138))
               have n7_ := Aside0.mk ((Nat.le_trans HW0.out (by rw [hg]; exact (keep_size (w := w) (g := g) (row := none) (by repeat (first|(with_reducible first|exact HK.out|apply KeepBut.set_|apply keep_drewN|apply keep_drew|apply keep_alloc)|exact HK.out))) : w.heap.size ≤ gb138) : w0.heap.size ≤ gb138))
               have n8_ := Aside0.mk ((by rw [hg]; exact Nat.ne_of_lt (IsS90.lt (show IsS90 w0 _ g s0_0 x1001_1 x1002_1 from by repeat (first|(with_reducible first|exact HI0.out|apply IsS90.alloc|apply IsS90.drewN|apply IsS90.drew|apply IsS90.set_1|apply IsS90.set_2)|exact HI0.out))) : g ≠ gb138))
               have n9_ := Aside0.mk ((by rw [hg]; exact Nat.ne_of_gt (IsS90.lt (show IsS90 w0 _ g s0_0 x1001_1 x1002_1 from by repeat (first|(with_reducible first|exact HI0.out|apply IsS90.alloc|apply IsS90.drewN|apply IsS90.drew|apply IsS90.set_1|apply IsS90.set_2)|exact HI0.out))) : gb138 ≠ g))
               clear HO_3
               clear HO133
               clear HI0
               clear HK
               clear HB
               have HO_3 := n0_
               have HO133 := n1_
               have HI0 := n2_
               have HK := n3_
               have HB := n4_
               have BK138 := n5_
               have GW138 := n6_
               have GE138 := n7_
               have NB0_138 := n8_
               have NB138_0 := n9_
               clear n0_ n1_ n2_ n3_ n4_ n5_ n6_ n7_ n8_ n9_
               clear hb hbox hg
               refine hK.out _ _ trivial (fun hHeld => ?_)
               clear hK K
               refine norm_ (a' := ?_) ?_ ?_
               rotate_left
               ·show Act.put _ (some 7) _ = _
                simp only [Act.put, List.setIfInBounds_toArray, List.set_cons_zero, List.set_cons_succ, i64_w, i32_w]
                rfl
               exact norm_ (by first|(simp only [putAll, Act.put, List.setIfInBounds_toArray, List.set_cons_zero, List.set_cons_succ];done)|(simp only [putAll, Act.put, List.setIfInBounds_toArray, List.set_cons_zero, List.set_cons_succ]; rfl)) (hJ0_8 (.slice (some adz_v132) t131.length co14, adz_v132, gb138) _ ⟨(by (with_reducible repeat (first|apply Kd.R_alloc|apply Kd.R_drewN|apply Kd.R_drew)); exact HO133.out), (by (with_reducible repeat (first|apply Kd.R_alloc|apply Kd.R_drewN|apply Kd.R_drew)); exact Kd.R_mono HO_3.out (fun _ hk => hk.2)), ⟨_, rfl⟩, (by (with_reducible repeat (first|refine blk_drewN ?_ _ | refine blk_drew ?_ | refine blk_alloc ?_ _)); exact BK138.out), GW138.out, GE138.out, NB0_138.out, NB138_0.out, (by repeat (first|(with_reducible first|exact HI0.out|apply IsS90.alloc|apply IsS90.drewN|apply IsS90.drew|apply IsS90.set_1|apply IsS90.set_2|exact IsS90.far HI0.out NB0_138.out _|exact IsS90.far (IsS90.far HI0.out NB0_138.out _) NB0_138.out _|exact IsS90.far (IsS90.far (IsS90.far HI0.out NB0_138.out _) NB0_138.out _) NB0_138.out _ | refine IsS90.far ?_ NB0_138.out _)|exact HI0.out)), (by repeat (first|(with_reducible first|exact HK.out|apply KeepBut.set_|apply keep_drewN|apply keep_drew|apply keep_alloc | refine keep_far ?_ GW138.out _)|exact HK.out)), (by repeat (first|(with_reducible first|exact HB.out|apply below_alloc|apply pw_below_drewN|apply below_drew1 | refine below_set ?_ (IsS90.ge HI0.out) | refine below_set ?_ GE138.out)|exact HB.out))⟩)
            ·skip
             rintro ⟨v132, adz_v132, gb138⟩ w14 ⟨h0_, h1_, h2_, h3_, h4_, h5_, h6_, h7_, h8_, h9_, h10_⟩
             have n0_ : Aside0 (Kd.R Kd.string 9 w14 w.heap.size (fun _ => True) v132 t131) := ⟨h0_⟩
             have n1_ : Aside0 (Kd.R k29 29 w14 w.heap.size (fun k_ => k_ ≠ gb138) u3 x3_1) := ⟨h1_⟩
             have n2_ : Aside0 (∃ c_, (v132 : Value) = .slice (some adz_v132) t131.length c_) := ⟨h2_⟩
             have n3_ : Aside0 (w14.heap[gb138]? = some (.cells #[.string (⟨#[]⟩ : ByteArray), .string (⟨#[]⟩ : ByteArray), .int .i64 0, .int .i64 0] 29 (0, 0))) := ⟨h3_⟩
             have n4_ : Aside0 (w.heap.size ≤ gb138) := ⟨h4_⟩
             have n5_ : Aside0 (w0.heap.size ≤ gb138) := ⟨h5_⟩
             have n6_ : Aside0 (g ≠ gb138) := ⟨h6_⟩
             have n7_ : Aside0 (gb138 ≠ g) := ⟨h7_⟩
             have n8_ : Aside0 (IsS90 w0 w14 g s0_0 x1001_1 x1002_1) := ⟨h8_⟩
             have n9_ : Aside0 (KeepBut w w14 g none) := ⟨h9_⟩
             have n10_ : Aside0 (Below w0.heap.size w0 w14) := ⟨h10_⟩
             clear HO_3
             clear HI0
             clear HK
             clear HB
             clear h0_ h1_ h2_ h3_ h4_ h5_ h6_ h7_ h8_ h9_ h10_
             have HO133 := n0_
             have HO_3 := n1_
             have HA_HO133 := n2_
             have BK138 := n3_
             have GW138 := n4_
             have GE138 := n5_
             have NB0_138 := n6_
             have NB138_0 := n7_
             have HI0 := n8_
             have HK := n9_
             have HB := n10_
             clear n0_ n1_ n2_ n3_ n4_ n5_ n6_ n7_ n8_ n9_ n10_
             have hHeld := trivial
             obtain ⟨co15, eo15⟩ := HA_HO133.out
             clear HA_HO133
             subst eo15
             refine norm_ (a' := ?_) ?_ ?_
             rotate_left
             ·simp only [putAll, Act.put, List.setIfInBounds_toArray, List.set_cons_zero, List.set_cons_succ]
              rfl
             refine two_ (i := 3) (j := 5) (Ni := some 20) (Nj := some 22) #[true, true, true, true, true, false, true, false, true, false] #[true, true, true, false, true, true, true, false, true, false] rfl rfl rfl rfl (two_of HT_.out (by kernel_rfl)) (by decide) (by decide) (fun K hK => ?_) (fun K hK => ?_)
             ·skip
              (have p134 : 0 ≤ (x6_1 : Int) := of_decide_eq_true (by first|(with_reducible assumption) | assumption); have q134 : x6_1 < (t131.length : Int) := of_decide_eq_true (by first|(with_reducible assumption) | assumption); obtain ⟨ad134, e134, hx134_0⟩ := Kd.at_string (Kd.R_reads' HO133.out).2.2 x6_1 p134 q134; obtain rfl : adz_v132 = ad134 := (by injection e134))
              refine value_ (w1 := ?_) (v := ?_) (by rfl) rfl ?_ ?_
              rotate_left 2
              ·go_simp
               constructor
               ·rfl
               ·rfl
              clear hx134_0
              refine hK.out _ _ trivial (fun hHeld => ?_)
              clear hK K
              refine norm_ (a' := ?_) ?_ ?_
              rotate_left
              ·show Act.put _ (some 20) _ = _
               simp only [Act.put, List.setIfInBounds_toArray, List.set_cons_zero, List.set_cons_succ, i64_w, i32_w]
               rfl
              exact norm_ (by first|(simp only [putAll, Act.put, List.setIfInBounds_toArray, List.set_cons_zero, List.set_cons_succ];done)|(simp only [putAll, Act.put, List.setIfInBounds_toArray, List.set_cons_zero, List.set_cons_succ]; rfl)) (hJ0_3_8 (.slice (some adz_v132) t131.length co15, adz_v132, gb138) _ ⟨(by (with_reducible repeat (first|apply Kd.R_alloc|apply Kd.R_drewN|apply Kd.R_drew)); exact HO133.out), (by (with_reducible repeat (first|apply Kd.R_alloc|apply Kd.R_drewN|apply Kd.R_drew)); exact HO_3.out), ⟨_, rfl⟩, (by (with_reducible repeat (first|refine blk_drewN ?_ _ | refine blk_drew ?_ | refine blk_alloc ?_ _)); exact BK138.out), GW138.out, GE138.out, NB0_138.out, NB138_0.out, (by repeat (first|(with_reducible first|exact HI0.out|apply IsS90.alloc|apply IsS90.drewN|apply IsS90.drew|apply IsS90.set_1|apply IsS90.set_2|exact IsS90.far HI0.out NB0_138.out _|exact IsS90.far (IsS90.far HI0.out NB0_138.out _) NB0_138.out _|exact IsS90.far (IsS90.far (IsS90.far HI0.out NB0_138.out _) NB0_138.out _) NB0_138.out _ | refine IsS90.far ?_ NB0_138.out _)|exact HI0.out)), (by repeat (first|(with_reducible first|exact HK.out|apply KeepBut.set_|apply keep_drewN|apply keep_drew|apply keep_alloc | refine keep_far ?_ GW138.out _)|exact HK.out)), (by repeat (first|(with_reducible first|exact HB.out|apply below_alloc|apply pw_below_drewN|apply below_drew1 | refine below_set ?_ (IsS90.ge HI0.out) | refine below_set ?_ GE138.out)|exact HB.out))⟩)
             ·skip
              refine goes_ Try.func71 (by kernel_rfl) rfl #[.pointer (some ⟨g, 0, none⟩)] (by rfl) rfl rfl (by (try simp only [List.map_toArray, List.map_cons, List.map_nil]); first | done | rfl|(simp only [List.length_drop, List.length_take]; rfl)) ?_
              with_reducible refine (spec_l1Cur_maker.calls g s0_0 x1001_1 x1002_1 t135 t136 t137 w0 _ ?side1 ?side2 A8.out).mono ?_
              (case side1 => repeat (first|(with_reducible first|exact HI0.out|apply IsS90.alloc|apply IsS90.drewN|apply IsS90.drew|apply IsS90.set_1|apply IsS90.set_2|exact IsS90.far HI0.out NB0_138.out _|exact IsS90.far (IsS90.far HI0.out NB0_138.out _) NB0_138.out _|exact IsS90.far (IsS90.far (IsS90.far HI0.out NB0_138.out _) NB0_138.out _) NB0_138.out _ | refine IsS90.far ?_ NB0_138.out _)|exact HI0.out))
              (case side2 => repeat (first|(with_reducible first|exact HB.out|apply below_alloc|apply pw_below_drewN|apply below_drew1 | refine below_set ?_ (IsS90.ge HI0.out) | refine below_set ?_ GE138.out)|exact HB.out))
              rintro e w16 ⟨rfl, hi, hb, hk⟩
              refine ⟨_, rfl, ?_⟩
              have n0_ := Aside0.mk (Kd.R_mono (Kd.R_keep (IsS90.apart (show IsS90 w0 _ g s0_0 x1001_1 x1002_1 from by repeat (first|(with_reducible first|exact HI0.out|apply IsS90.alloc|apply IsS90.drewN|apply IsS90.drew|apply IsS90.set_1|apply IsS90.set_2|exact IsS90.far HI0.out NB0_138.out _|exact IsS90.far (IsS90.far HI0.out NB0_138.out _) NB0_138.out _|exact IsS90.far (IsS90.far (IsS90.far HI0.out NB0_138.out _) NB0_138.out _) NB0_138.out _ | refine IsS90.far ?_ NB0_138.out _)|exact HI0.out)) (by (with_reducible repeat (first|apply Kd.R_alloc|apply Kd.R_drewN|apply Kd.R_drew)); exact HO_3.out) (by decide)) hk (fun _ h => h.2)) (fun _ h => h.1))
              have n1_ := Aside0.mk (Kd.R_mono (Kd.R_keep (IsS90.apart (show IsS90 w0 _ g s0_0 x1001_1 x1002_1 from by repeat (first|(with_reducible first|exact HI0.out|apply IsS90.alloc|apply IsS90.drewN|apply IsS90.drew|apply IsS90.set_1|apply IsS90.set_2|exact IsS90.far HI0.out NB0_138.out _|exact IsS90.far (IsS90.far HI0.out NB0_138.out _) NB0_138.out _|exact IsS90.far (IsS90.far (IsS90.far HI0.out NB0_138.out _) NB0_138.out _) NB0_138.out _ | refine IsS90.far ?_ NB0_138.out _)|exact HI0.out)) (by (with_reducible repeat (first|apply Kd.R_alloc|apply Kd.R_drewN|apply Kd.R_drew)); exact HO133.out) (by decide)) hk (fun _ h => h.2)) (fun _ h => h.1))
              have n2_ := Aside0.mk (KeepBut.blk hk (g' := gb138) (o := .cells #[.string (⟨#[]⟩ : ByteArray), .string (⟨#[]⟩ : ByteArray), .int .i64 0, .int .i64 0] 29 (0, 0)) (by (with_reducible repeat (first|refine blk_drewN ?_ _ | refine blk_drew ?_ | refine blk_alloc ?_ _)); exact BK138.out) NB138_0.out (by simp))
              have n3_ := Aside0.mk (KeepBut.trans (by repeat (first|(with_reducible first|exact HK.out|apply KeepBut.set_|apply keep_drewN|apply keep_drew|apply keep_alloc | refine keep_far ?_ GW138.out _)|exact HK.out)) hk (.inl rfl))
              have n4_ := Aside0.mk (hb)
              have n5_ := Aside0.mk (hi)
              clear HO_3
              clear HO133
              clear BK138
              clear HK
              clear HB
              clear HI0
              have HO_3 := n0_
              have HO133 := n1_
              have BK138 := n2_
              have HK := n3_
              have HB := n4_
              have HI0 := n5_
              clear n0_ n1_ n2_ n3_ n4_ n5_
              (try clear hb)
              (try clear hb2)
              (try clear hk)
              (try clear hi)
              refine hK.out _ _ trivial (fun hHeld => ?_)
              clear hK K
              refine norm_ (a' := ?_) ?_ ?_
              rotate_left
              ·show Act.put _ (some 22) _ = _
               simp only [Act.put, List.setIfInBounds_toArray, List.set_cons_zero, List.set_cons_succ, i64_w, i32_w]
               rfl
              exact norm_ (by first|(simp only [putAll, Act.put, List.setIfInBounds_toArray, List.set_cons_zero, List.set_cons_succ];done)|(simp only [putAll, Act.put, List.setIfInBounds_toArray, List.set_cons_zero, List.set_cons_succ]; rfl)) (hJ0_5_8 (.slice (some adz_v132) t131.length co15, adz_v132, gb138) _ ⟨(by (with_reducible repeat (first|apply Kd.R_alloc|apply Kd.R_drewN|apply Kd.R_drew)); exact HO133.out), (by (with_reducible repeat (first|apply Kd.R_alloc|apply Kd.R_drewN|apply Kd.R_drew)); exact HO_3.out), ⟨_, rfl⟩, (by (with_reducible repeat (first|refine blk_drewN ?_ _ | refine blk_drew ?_ | refine blk_alloc ?_ _)); exact BK138.out), GW138.out, GE138.out, NB0_138.out, NB138_0.out, (by repeat (first|(with_reducible first|exact HI0.out|apply IsS90.alloc|apply IsS90.drewN|apply IsS90.drew|apply IsS90.set_1|apply IsS90.set_2|exact IsS90.far HI0.out NB0_138.out _|exact IsS90.far (IsS90.far HI0.out NB0_138.out _) NB0_138.out _|exact IsS90.far (IsS90.far (IsS90.far HI0.out NB0_138.out _) NB0_138.out _) NB0_138.out _ | refine IsS90.far ?_ NB0_138.out _)|exact HI0.out)), (by repeat (first|(with_reducible first|exact HK.out|apply KeepBut.set_|apply keep_drewN|apply keep_drew|apply keep_alloc | refine keep_far ?_ GW138.out _)|exact HK.out)), (by repeat (first|(with_reducible first|exact HB.out|apply below_alloc|apply pw_below_drewN|apply below_drew1 | refine below_set ?_ (IsS90.ge HI0.out) | refine below_set ?_ GE138.out)|exact HB.out))⟩)
           ·skip
            rintro ⟨v132, adz_v132⟩ w14 ⟨h0_, h1_, h2_, h3_, h4_, h5_⟩
            have n0_ : Aside0 (Kd.R Kd.string 9 w14 w.heap.size (fun _ => True) v132 t131) := ⟨h0_⟩
            have n1_ : Aside0 (Kd.R k29 29 w14 w.heap.size (fun _ => True) u3 x3_1) := ⟨h1_⟩
            have n2_ : Aside0 (∃ c_, (v132 : Value) = .slice (some adz_v132) t131.length c_) := ⟨h2_⟩
            have n3_ : Aside0 (IsS90 w0 w14 g s0_0 t136 t137) := ⟨h3_⟩
            have n4_ : Aside0 (KeepBut w w14 g none) := ⟨h4_⟩
            have n5_ : Aside0 (Below w0.heap.size w0 w14) := ⟨h5_⟩
            clear HO_3
            clear HI0
            clear HK
            clear HB
            clear h0_ h1_ h2_ h3_ h4_ h5_
            have HO133 := n0_
            have HO_3 := n1_
            have HA_HO133 := n2_
            have HI0 := n3_
            have HK := n4_
            have HB := n5_
            clear n0_ n1_ n2_ n3_ n4_ n5_
            have hHeld := trivial
            obtain ⟨co15, eo15⟩ := HA_HO133.out
            clear HA_HO133
            subst eo15
            refine norm_ (a' := ?_) ?_ ?_
            rotate_left
            ·simp only [putAll, Act.put, List.setIfInBounds_toArray, List.set_cons_zero, List.set_cons_succ]
             rfl
            refine two_ (i := 3) (j := 8) (Ni := some 20) (Nj := some 7) #[true, true, true, true, true, true, true, false, false, false] #[true, true, true, false, true, true, true, false, true, false] rfl rfl rfl rfl (two_of HT_.out (by kernel_rfl)) (by decide) (by decide) (fun K hK => ?_) (fun K hK => ?_)
            ·skip
             (have p134 : 0 ≤ (x6_1 : Int) := of_decide_eq_true (by first|(with_reducible assumption) | assumption); have q134 : x6_1 < (t131.length : Int) := of_decide_eq_true (by first|(with_reducible assumption) | assumption); obtain ⟨ad134, e134, hx134_0⟩ := Kd.at_string (Kd.R_reads' HO133.out).2.2 x6_1 p134 q134; obtain rfl : adz_v132 = ad134 := (by injection e134))
             refine value_ (w1 := ?_) (v := ?_) (by rfl) rfl ?_ ?_
             rotate_left 2
             ·go_simp
              constructor
              ·rfl
              ·rfl
             clear hx134_0
             refine hK.out _ _ trivial (fun hHeld => ?_)
             clear hK K
             refine norm_ (a' := ?_) ?_ ?_
             rotate_left
             ·show Act.put _ (some 20) _ = _
              simp only [Act.put, List.setIfInBounds_toArray, List.set_cons_zero, List.set_cons_succ, i64_w, i32_w]
              rfl
             refine pure_ (i := 7) (N := some 24) (v := ?_) (a' := ?_) #[true, true, true, true, true, true, true, true, false, false] rfl rfl (any_of HT_.out (by kernel_rfl)) (fun _ _ _ h => h) (Or.inl ⟨by rfl, ?_⟩) ?_ ?_
             rotate_left
             ·intro w'
              go_simp
              with_reducible rfl
             rotate_left
             ·simp only [Act.put, List.setIfInBounds_toArray, List.set_cons_zero, List.set_cons_succ, i64_w, i32_w]
              rfl
             exact norm_ (by first|(simp only [putAll, Act.put, List.setIfInBounds_toArray, List.set_cons_zero, List.set_cons_succ];done)|(simp only [putAll, Act.put, List.setIfInBounds_toArray, List.set_cons_zero, List.set_cons_succ]; rfl)) (hJ0_3_5 (.slice (some adz_v132) t131.length co15, adz_v132) _ ⟨(by (with_reducible repeat (first|apply Kd.R_alloc|apply Kd.R_drewN|apply Kd.R_drew)); exact HO133.out), (by (with_reducible repeat (first|apply Kd.R_alloc|apply Kd.R_drewN|apply Kd.R_drew)); exact HO_3.out), ⟨_, rfl⟩, (by repeat (first|(with_reducible first|exact HI0.out|apply IsS90.alloc|apply IsS90.drewN|apply IsS90.drew|apply IsS90.set_1|apply IsS90.set_2)|exact HI0.out)), (by repeat (first|(with_reducible first|exact HK.out|apply KeepBut.set_|apply keep_drewN|apply keep_drew|apply keep_alloc)|exact HK.out)), (by repeat (first|(with_reducible first|exact HB.out|apply below_alloc|apply pw_below_drewN|apply below_drew1 | refine below_set ?_ (IsS90.ge HI0.out))|exact HB.out))⟩)
            ·skip
             refine box_step ?hg (N := 7) ?hd (cs := #[.string (⟨#[]⟩ : ByteArray), .string (⟨#[]⟩ : ByteArray), .int .i64 0, .int .i64 0]) (t := 29) ?hr ?_;(case hd => rfl);(case hg => rfl);(case hr => first|(go_simp;done)|(go_simp; rfl))
             intro gb138 hg w16 hbox hb
             have n0_ := Aside0.mk (Kd.R_below (Kd.R_elderB (by (with_reducible repeat (first|apply Kd.R_alloc|apply Kd.R_drewN|apply Kd.R_drew)); exact HO_3.out) gb138 (Nat.le_of_eq hg.symm)) hb)
             have n1_ := Aside0.mk (Kd.R_below (by (with_reducible repeat (first|apply Kd.R_alloc|apply Kd.R_drewN|apply Kd.R_drew)); exact HO133.out) hb)
             have n2_ := Aside0.mk (IsS90.below (by repeat (first|(with_reducible first|exact HI0.out|apply IsS90.alloc|apply IsS90.drewN|apply IsS90.drew|apply IsS90.set_1|apply IsS90.set_2)|exact HI0.out)) hb)
             have n3_ := Aside0.mk (KeepBut.trans (by repeat (first|(with_reducible first|exact HK.out|apply KeepBut.set_|apply keep_drewN|apply keep_drew|apply keep_alloc)|exact HK.out)) (KeepBut.of_below hb g none) (.inl rfl))
             have n4_ := Aside0.mk (below_step (by repeat (first|(with_reducible first|exact HB.out|apply below_alloc|apply pw_below_drewN|apply below_drew1 | refine below_set ?_ (IsS90.ge HI0.out))|exact HB.out)) hb)
             have n5_ := Aside0.mk (hbox)
             have n6_ := Aside0.mk ((by rw [hg]; exact (keep_size (w := w) (g := g) (row := none) (by repeat (first|(with_reducible first|exact HK.out|apply KeepBut.set_|apply keep_drewN|apply keep_drew|apply keep_alloc)|exact HK.out))) : w.heap.size ≤ gb138))
             have n7_ := Aside0.mk ((Nat.le_trans HW0.out (by rw [hg]; exact (keep_size (w := w) (g := g) (row := none) (by repeat (first|(with_reducible first|exact HK.out|apply KeepBut.set_|apply keep_drewN|apply keep_drew|apply keep_alloc)|exact HK.out))) : w.heap.size ≤ gb138) : w0.heap.size ≤ gb138))
             have n8_ := Aside0.mk ((by rw [hg]; exact Nat.ne_of_lt (IsS90.lt (show IsS90 w0 _ g s0_0 t136 t137 from by repeat (first|(with_reducible first|exact HI0.out|apply IsS90.alloc|apply IsS90.drewN|apply IsS90.drew|apply IsS90.set_1|apply IsS90.set_2)|exact HI0.out))) : g ≠ gb138))
             have n9_ := Aside0.mk ((by rw [hg]; exact Nat.ne_of_gt (IsS90.lt (show IsS90 w0 _ g s0_0 t136 t137 from by repeat (first|(with_reducible first|exact HI0.out|apply IsS90.alloc|apply IsS90.drewN|apply IsS90.drew|apply IsS90.set_1|apply IsS90.set_2)|exact HI0.out))) : gb138 ≠ g))
             clear HO_3
             clear HO133
             clear HI0
             clear HK
             clear HB
             have HO_3 := n0_
             have HO133 := n1_
             have HI0 := n2_
             have HK := n3_
             have HB := n4_
             have BK138 := n5_
             have GW138 := n6_
             have GE138 := n7_
             have NB0_138 := n8_
             have NB138_0 := n9_
             clear n0_ n1_ n2_ n3_ n4_ n5_ n6_ n7_ n8_ n9_
             clear hb hbox hg
             refine hK.out _ _ trivial (fun hHeld => ?_)
             clear hK K
             refine norm_ (a' := ?_) ?_ ?_
             rotate_left
             ·show Act.put _ (some 7) _ = _
              simp only [Act.put, List.setIfInBounds_toArray, List.set_cons_zero, List.set_cons_succ, i64_w, i32_w]
              rfl
             exact norm_ (by first|(simp only [putAll, Act.put, List.setIfInBounds_toArray, List.set_cons_zero, List.set_cons_succ];done)|(simp only [putAll, Act.put, List.setIfInBounds_toArray, List.set_cons_zero, List.set_cons_succ]; rfl)) (hJ0_5_8 (.slice (some adz_v132) t131.length co15, adz_v132, gb138) _ ⟨(by (with_reducible repeat (first|apply Kd.R_alloc|apply Kd.R_drewN|apply Kd.R_drew)); exact HO133.out), (by (with_reducible repeat (first|apply Kd.R_alloc|apply Kd.R_drewN|apply Kd.R_drew)); exact Kd.R_mono HO_3.out (fun _ hk => hk.2)), ⟨_, rfl⟩, (by (with_reducible repeat (first|refine blk_drewN ?_ _ | refine blk_drew ?_ | refine blk_alloc ?_ _)); exact BK138.out), GW138.out, GE138.out, NB0_138.out, NB138_0.out, (by repeat (first|(with_reducible first|exact HI0.out|apply IsS90.alloc|apply IsS90.drewN|apply IsS90.drew|apply IsS90.set_1|apply IsS90.set_2|exact IsS90.far HI0.out NB0_138.out _|exact IsS90.far (IsS90.far HI0.out NB0_138.out _) NB0_138.out _|exact IsS90.far (IsS90.far (IsS90.far HI0.out NB0_138.out _) NB0_138.out _) NB0_138.out _ | refine IsS90.far ?_ NB0_138.out _)|exact HI0.out)), (by repeat (first|(with_reducible first|exact HK.out|apply KeepBut.set_|apply keep_drewN|apply keep_drew|apply keep_alloc | refine keep_far ?_ GW138.out _)|exact HK.out)), (by repeat (first|(with_reducible first|exact HB.out|apply below_alloc|apply pw_below_drewN|apply below_drew1 | refine below_set ?_ (IsS90.ge HI0.out) | refine below_set ?_ GE138.out)|exact HB.out))⟩)
          ·skip
           rintro ⟨v132, adz_v132⟩ w13 ⟨h0_, h1_, h2_, h3_, h4_, h5_⟩
           have n0_ : Aside0 (Kd.R Kd.string 9 w13 w.heap.size (fun _ => True) v132 t131) := ⟨h0_⟩
           have n1_ : Aside0 (Kd.R k29 29 w13 w.heap.size (fun _ => True) u3 x3_1) := ⟨h1_⟩
           have n2_ : Aside0 (∃ c_, (v132 : Value) = .slice (some adz_v132) t131.length c_) := ⟨h2_⟩
           have n3_ : Aside0 (IsS90 w0 w13 g s0_0 x1001_1 x1002_1) := ⟨h3_⟩
           have n4_ : Aside0 (KeepBut w w13 g none) := ⟨h4_⟩
           have n5_ : Aside0 (Below w0.heap.size w0 w13) := ⟨h5_⟩
           clear HO_3
           clear HI0
           clear HK
           clear HB
           clear h0_ h1_ h2_ h3_ h4_ h5_
           have HO133 := n0_
           have HO_3 := n1_
           have HA_HO133 := n2_
           have HI0 := n3_
           have HK := n4_
           have HB := n5_
           clear n0_ n1_ n2_ n3_ n4_ n5_
           have hHeld := trivial
           obtain ⟨co14, eo14⟩ := HA_HO133.out
           clear HA_HO133
           subst eo14
           refine norm_ (a' := ?_) ?_ ?_
           rotate_left
           ·simp only [putAll, Act.put, List.setIfInBounds_toArray, List.set_cons_zero, List.set_cons_succ]
            rfl
           refine two_ (i := 5) (j := 8) (Ni := some 22) (Nj := some 7) #[true, true, true, true, true, true, true, false, false, false] #[true, true, true, true, true, false, true, false, true, false] rfl rfl rfl rfl (two_of HT_.out (by kernel_rfl)) (by decide) (by decide) (fun K hK => ?_) (fun K hK => ?_)
           ·skip
            refine goes_ Try.func71 (by kernel_rfl) rfl #[.pointer (some ⟨g, 0, none⟩)] (by rfl) rfl rfl (by (try simp only [List.map_toArray, List.map_cons, List.map_nil]); first | done | rfl|(simp only [List.length_drop, List.length_take]; rfl)) ?_
            with_reducible refine (spec_l1Cur_maker.calls g s0_0 x1001_1 x1002_1 t135 t136 t137 w0 _ ?side1 ?side2 A8.out).mono ?_
            (case side1 => repeat (first|(with_reducible first|exact HI0.out|apply IsS90.alloc|apply IsS90.drewN|apply IsS90.drew|apply IsS90.set_1|apply IsS90.set_2)|exact HI0.out))
            (case side2 => repeat (first|(with_reducible first|exact HB.out|apply below_alloc|apply pw_below_drewN|apply below_drew1 | refine below_set ?_ (IsS90.ge HI0.out))|exact HB.out))
            rintro e w15 ⟨rfl, hi, hb, hk⟩
            refine ⟨_, rfl, ?_⟩
            have n0_ := Aside0.mk (Kd.R_mono (Kd.R_keep (IsS90.apart (show IsS90 w0 _ g s0_0 x1001_1 x1002_1 from by repeat (first|(with_reducible first|exact HI0.out|apply IsS90.alloc|apply IsS90.drewN|apply IsS90.drew|apply IsS90.set_1|apply IsS90.set_2)|exact HI0.out)) (by (with_reducible repeat (first|apply Kd.R_alloc|apply Kd.R_drewN|apply Kd.R_drew)); exact HO_3.out) (by decide)) hk (fun _ h => h.2)) (fun _ h => h.1))
            have n1_ := Aside0.mk (Kd.R_mono (Kd.R_keep (IsS90.apart (show IsS90 w0 _ g s0_0 x1001_1 x1002_1 from by repeat (first|(with_reducible first|exact HI0.out|apply IsS90.alloc|apply IsS90.drewN|apply IsS90.drew|apply IsS90.set_1|apply IsS90.set_2)|exact HI0.out)) (by (with_reducible repeat (first|apply Kd.R_alloc|apply Kd.R_drewN|apply Kd.R_drew)); exact HO133.out) (by decide)) hk (fun _ h => h.2)) (fun _ h => h.1))
            have n2_ := Aside0.mk (KeepBut.trans (by repeat (first|(with_reducible first|exact HK.out|apply KeepBut.set_|apply keep_drewN|apply keep_drew|apply keep_alloc)|exact HK.out)) hk (.inl rfl))
            have n3_ := Aside0.mk (hb)
            have n4_ := Aside0.mk (hi)
            clear HO_3
            clear HO133
            clear HK
            clear HB
            clear HI0
            have HO_3 := n0_
            have HO133 := n1_
            have HK := n2_
            have HB := n3_
            have HI0 := n4_
            clear n0_ n1_ n2_ n3_ n4_
            (try clear hb)
            (try clear hb2)
            (try clear hk)
            (try clear hi)
            refine hK.out _ _ trivial (fun hHeld => ?_)
            clear hK K
            refine norm_ (a' := ?_) ?_ ?_
            rotate_left
            ·show Act.put _ (some 22) _ = _
             simp only [Act.put, List.setIfInBounds_toArray, List.set_cons_zero, List.set_cons_succ, i64_w, i32_w]
             rfl
            refine pure_ (i := 7) (N := some 24) (v := ?_) (a' := ?_) #[true, true, true, true, true, true, true, true, false, false] rfl rfl (any_of HT_.out (by kernel_rfl)) (fun _ _ _ h => h) (Or.inl ⟨by rfl, ?_⟩) ?_ ?_
            rotate_left
            ·intro w'
             go_simp
             with_reducible rfl
            rotate_left
            ·simp only [Act.put, List.setIfInBounds_toArray, List.set_cons_zero, List.set_cons_succ, i64_w, i32_w]
             rfl
            exact norm_ (by first|(simp only [putAll, Act.put, List.setIfInBounds_toArray, List.set_cons_zero, List.set_cons_succ];done)|(simp only [putAll, Act.put, List.setIfInBounds_toArray, List.set_cons_zero, List.set_cons_succ]; rfl)) (hJ0_3_5 (.slice (some adz_v132) t131.length co14, adz_v132) _ ⟨(by (with_reducible repeat (first|apply Kd.R_alloc|apply Kd.R_drewN|apply Kd.R_drew)); exact HO133.out), (by (with_reducible repeat (first|apply Kd.R_alloc|apply Kd.R_drewN|apply Kd.R_drew)); exact HO_3.out), ⟨_, rfl⟩, (by repeat (first|(with_reducible first|exact HI0.out|apply IsS90.alloc|apply IsS90.drewN|apply IsS90.drew|apply IsS90.set_1|apply IsS90.set_2)|exact HI0.out)), (by repeat (first|(with_reducible first|exact HK.out|apply KeepBut.set_|apply keep_drewN|apply keep_drew|apply keep_alloc)|exact HK.out)), (by repeat (first|(with_reducible first|exact HB.out|apply below_alloc|apply pw_below_drewN|apply below_drew1 | refine below_set ?_ (IsS90.ge HI0.out))|exact HB.out))⟩)
           ·skip
            refine box_step ?hg (N := 7) ?hd (cs := #[.string (⟨#[]⟩ : ByteArray), .string (⟨#[]⟩ : ByteArray), .int .i64 0, .int .i64 0]) (t := 29) ?hr ?_;(case hd => rfl);(case hg => rfl);(case hr => first|(go_simp;done)|(go_simp; rfl))
            intro gb138 hg w15 hbox hb
            have n0_ := Aside0.mk (Kd.R_below (Kd.R_elderB (by (with_reducible repeat (first|apply Kd.R_alloc|apply Kd.R_drewN|apply Kd.R_drew)); exact HO_3.out) gb138 (Nat.le_of_eq hg.symm)) hb)
            have n1_ := Aside0.mk (Kd.R_below (by (with_reducible repeat (first|apply Kd.R_alloc|apply Kd.R_drewN|apply Kd.R_drew)); exact HO133.out) hb)
            have n2_ := Aside0.mk (IsS90.below (by repeat (first|(with_reducible first|exact HI0.out|apply IsS90.alloc|apply IsS90.drewN|apply IsS90.drew|apply IsS90.set_1|apply IsS90.set_2)|exact HI0.out)) hb)
            have n3_ := Aside0.mk (KeepBut.trans (by repeat (first|(with_reducible first|exact HK.out|apply KeepBut.set_|apply keep_drewN|apply keep_drew|apply keep_alloc)|exact HK.out)) (KeepBut.of_below hb g none) (.inl rfl))
            have n4_ := Aside0.mk (below_step (by repeat (first|(with_reducible first|exact HB.out|apply below_alloc|apply pw_below_drewN|apply below_drew1 | refine below_set ?_ (IsS90.ge HI0.out))|exact HB.out)) hb)
            have n5_ := Aside0.mk (hbox)
            have n6_ := Aside0.mk ((by rw [hg]; exact (keep_size (w := w) (g := g) (row := none) (by repeat (first|(with_reducible first|exact HK.out|apply KeepBut.set_|apply keep_drewN|apply keep_drew|apply keep_alloc)|exact HK.out))) : w.heap.size ≤ gb138))
            have n7_ := Aside0.mk ((Nat.le_trans HW0.out (by rw [hg]; exact (keep_size (w := w) (g := g) (row := none) (by repeat (first|(with_reducible first|exact HK.out|apply KeepBut.set_|apply keep_drewN|apply keep_drew|apply keep_alloc)|exact HK.out))) : w.heap.size ≤ gb138) : w0.heap.size ≤ gb138))
            have n8_ := Aside0.mk ((by rw [hg]; exact Nat.ne_of_lt (IsS90.lt (show IsS90 w0 _ g s0_0 x1001_1 x1002_1 from by repeat (first|(with_reducible first|exact HI0.out|apply IsS90.alloc|apply IsS90.drewN|apply IsS90.drew|apply IsS90.set_1|apply IsS90.set_2)|exact HI0.out))) : g ≠ gb138))
            have n9_ := Aside0.mk ((by rw [hg]; exact Nat.ne_of_gt (IsS90.lt (show IsS90 w0 _ g s0_0 x1001_1 x1002_1 from by repeat (first|(with_reducible first|exact HI0.out|apply IsS90.alloc|apply IsS90.drewN|apply IsS90.drew|apply IsS90.set_1|apply IsS90.set_2)|exact HI0.out))) : gb138 ≠ g))
            clear HO_3
            clear HO133
            clear HI0
            clear HK
            clear HB
            have HO_3 := n0_
            have HO133 := n1_
            have HI0 := n2_
            have HK := n3_
            have HB := n4_
            have BK138 := n5_
            have GW138 := n6_
            have GE138 := n7_
            have NB0_138 := n8_
            have NB138_0 := n9_
            clear n0_ n1_ n2_ n3_ n4_ n5_ n6_ n7_ n8_ n9_
            clear hb hbox hg
            refine hK.out _ _ trivial (fun hHeld => ?_)
            clear hK K
            refine norm_ (a' := ?_) ?_ ?_
            rotate_left
            ·show Act.put _ (some 7) _ = _
             simp only [Act.put, List.setIfInBounds_toArray, List.set_cons_zero, List.set_cons_succ, i64_w, i32_w]
             rfl
            exact norm_ (by first|(simp only [putAll, Act.put, List.setIfInBounds_toArray, List.set_cons_zero, List.set_cons_succ];done)|(simp only [putAll, Act.put, List.setIfInBounds_toArray, List.set_cons_zero, List.set_cons_succ]; rfl)) (hJ0_3_8 (.slice (some adz_v132) t131.length co14, adz_v132, gb138) _ ⟨(by (with_reducible repeat (first|apply Kd.R_alloc|apply Kd.R_drewN|apply Kd.R_drew)); exact HO133.out), (by (with_reducible repeat (first|apply Kd.R_alloc|apply Kd.R_drewN|apply Kd.R_drew)); exact Kd.R_mono HO_3.out (fun _ hk => hk.2)), ⟨_, rfl⟩, (by (with_reducible repeat (first|refine blk_drewN ?_ _ | refine blk_drew ?_ | refine blk_alloc ?_ _)); exact BK138.out), GW138.out, GE138.out, NB0_138.out, NB138_0.out, (by repeat (first|(with_reducible first|exact HI0.out|apply IsS90.alloc|apply IsS90.drewN|apply IsS90.drew|apply IsS90.set_1|apply IsS90.set_2|exact IsS90.far HI0.out NB0_138.out _|exact IsS90.far (IsS90.far HI0.out NB0_138.out _) NB0_138.out _|exact IsS90.far (IsS90.far (IsS90.far HI0.out NB0_138.out _) NB0_138.out _) NB0_138.out _ | refine IsS90.far ?_ NB0_138.out _)|exact HI0.out)), (by repeat (first|(with_reducible first|exact HK.out|apply KeepBut.set_|apply keep_drewN|apply keep_drew|apply keep_alloc | refine keep_far ?_ GW138.out _)|exact HK.out)), (by repeat (first|(with_reducible first|exact HB.out|apply below_alloc|apply pw_below_drewN|apply below_drew1 | refine below_set ?_ (IsS90.ge HI0.out) | refine below_set ?_ GE138.out)|exact HB.out))⟩)
         ·skip
          rintro ⟨v132, adz_v132, gb138⟩ w15 ⟨h0_, h1_, h2_, h3_, h4_, h5_, h6_, h7_, h8_, h9_, h10_⟩
          have n0_ : Aside0 (Kd.R Kd.string 9 w15 w.heap.size (fun _ => True) v132 t131) := ⟨h0_⟩
          have n1_ : Aside0 (Kd.R k29 29 w15 w.heap.size (fun k_ => k_ ≠ gb138) u3 x3_1) := ⟨h1_⟩
          have n2_ : Aside0 (∃ c_, (v132 : Value) = .slice (some adz_v132) t131.length c_) := ⟨h2_⟩
          have n3_ : Aside0 (w15.heap[gb138]? = some (.cells #[.string (⟨#[]⟩ : ByteArray), .string (⟨#[]⟩ : ByteArray), .int .i64 0, .int .i64 0] 29 (0, 0))) := ⟨h3_⟩
          have n4_ : Aside0 (w.heap.size ≤ gb138) := ⟨h4_⟩
          have n5_ : Aside0 (w0.heap.size ≤ gb138) := ⟨h5_⟩
          have n6_ : Aside0 (g ≠ gb138) := ⟨h6_⟩
          have n7_ : Aside0 (gb138 ≠ g) := ⟨h7_⟩
          have n8_ : Aside0 (IsS90 w0 w15 g s0_0 t136 t137) := ⟨h8_⟩
          have n9_ : Aside0 (KeepBut w w15 g none) := ⟨h9_⟩
          have n10_ : Aside0 (Below w0.heap.size w0 w15) := ⟨h10_⟩
          clear HO_3
          clear HI0
          clear HK
          clear HB
          clear h0_ h1_ h2_ h3_ h4_ h5_ h6_ h7_ h8_ h9_ h10_
          have HO133 := n0_
          have HO_3 := n1_
          have HA_HO133 := n2_
          have BK138 := n3_
          have GW138 := n4_
          have GE138 := n5_
          have NB0_138 := n6_
          have NB138_0 := n7_
          have HI0 := n8_
          have HK := n9_
          have HB := n10_
          clear n0_ n1_ n2_ n3_ n4_ n5_ n6_ n7_ n8_ n9_ n10_
          have hHeld := trivial
          obtain ⟨co16, eo16⟩ := HA_HO133.out
          clear HA_HO133
          subst eo16
          refine norm_ (a' := ?_) ?_ ?_
          rotate_left
          ·simp only [putAll, Act.put, List.setIfInBounds_toArray, List.set_cons_zero, List.set_cons_succ]
           rfl
          refine one_ (i := 3) (N := some 20) #[true, true, true, true, true, true, true, false, true, false] rfl rfl (one_of HT_.out (by kernel_rfl)) (by decide) (fun K hK => ?_)
          (have p134 : 0 ≤ (x6_1 : Int) := of_decide_eq_true (by first|(with_reducible assumption) | assumption); have q134 : x6_1 < (t131.length : Int) := of_decide_eq_true (by first|(with_reducible assumption) | assumption); obtain ⟨ad134, e134, hx134_0⟩ := Kd.at_string (Kd.R_reads' HO133.out).2.2 x6_1 p134 q134; obtain rfl : adz_v132 = ad134 := (by injection e134))
          refine value_ (w1 := ?_) (v := ?_) (by rfl) rfl ?_ ?_
          rotate_left 2
          ·go_simp
           constructor
           ·rfl
           ·rfl
          clear hx134_0
          refine hK.out _ _ trivial (fun hHeld => ?_)
          clear hK K
          refine norm_ (a' := ?_) ?_ ?_
          rotate_left
          ·show Act.put _ (some 20) _ = _
           simp only [Act.put, List.setIfInBounds_toArray, List.set_cons_zero, List.set_cons_succ, i64_w, i32_w]
           rfl
          refine pure_ (i := 7) (N := some 24) (v := ?_) (a' := ?_) #[true, true, true, true, true, true, true, true, true, false] rfl rfl (any_of HT_.out (by kernel_rfl)) (fun _ _ _ h => h) (Or.inl ⟨by rfl, ?_⟩) ?_ ?_
          rotate_left
          ·intro w'
           go_simp
           with_reducible rfl
          rotate_left
          ·simp only [Act.put, List.setIfInBounds_toArray, List.set_cons_zero, List.set_cons_succ, i64_w, i32_w]
           rfl
          exact norm_ (by first|(simp only [putAll, Act.put, List.setIfInBounds_toArray, List.set_cons_zero, List.set_cons_succ];done)|(simp only [putAll, Act.put, List.setIfInBounds_toArray, List.set_cons_zero, List.set_cons_succ]; rfl)) (hJ0_3_5_8 (.slice (some adz_v132) t131.length co16, adz_v132, gb138) _ ⟨(by (with_reducible repeat (first|apply Kd.R_alloc|apply Kd.R_drewN|apply Kd.R_drew)); exact HO133.out), (by (with_reducible repeat (first|apply Kd.R_alloc|apply Kd.R_drewN|apply Kd.R_drew)); exact HO_3.out), ⟨_, rfl⟩, (by (with_reducible repeat (first|refine blk_drewN ?_ _ | refine blk_drew ?_ | refine blk_alloc ?_ _)); exact BK138.out), GW138.out, GE138.out, NB0_138.out, NB138_0.out, (by repeat (first|(with_reducible first|exact HI0.out|apply IsS90.alloc|apply IsS90.drewN|apply IsS90.drew|apply IsS90.set_1|apply IsS90.set_2|exact IsS90.far HI0.out NB0_138.out _|exact IsS90.far (IsS90.far HI0.out NB0_138.out _) NB0_138.out _|exact IsS90.far (IsS90.far (IsS90.far HI0.out NB0_138.out _) NB0_138.out _) NB0_138.out _ | refine IsS90.far ?_ NB0_138.out _)|exact HI0.out)), (by repeat (first|(with_reducible first|exact HK.out|apply KeepBut.set_|apply keep_drewN|apply keep_drew|apply keep_alloc | refine keep_far ?_ GW138.out _)|exact HK.out)), (by repeat (first|(with_reducible first|exact HB.out|apply below_alloc|apply pw_below_drewN|apply below_drew1 | refine below_set ?_ (IsS90.ge HI0.out) | refine below_set ?_ GE138.out)|exact HB.out))⟩)
        ·skip
         rintro ⟨v132, adz_v132, gb138⟩ w14 ⟨h0_, h1_, h2_, h3_, h4_, h5_, h6_, h7_, h8_, h9_, h10_⟩
         have n0_ : Aside0 (Kd.R Kd.string 9 w14 w.heap.size (fun _ => True) v132 t131) := ⟨h0_⟩
         have n1_ : Aside0 (Kd.R k29 29 w14 w.heap.size (fun k_ => k_ ≠ gb138) u3 x3_1) := ⟨h1_⟩
         have n2_ : Aside0 (∃ c_, (v132 : Value) = .slice (some adz_v132) t131.length c_) := ⟨h2_⟩
         have n3_ : Aside0 (w14.heap[gb138]? = some (.cells #[.string (⟨#[]⟩ : ByteArray), .string (⟨#[]⟩ : ByteArray), .int .i64 0, .int .i64 0] 29 (0, 0))) := ⟨h3_⟩
         have n4_ : Aside0 (w.heap.size ≤ gb138) := ⟨h4_⟩
         have n5_ : Aside0 (w0.heap.size ≤ gb138) := ⟨h5_⟩
         have n6_ : Aside0 (g ≠ gb138) := ⟨h6_⟩
         have n7_ : Aside0 (gb138 ≠ g) := ⟨h7_⟩
         have n8_ : Aside0 (IsS90 w0 w14 g s0_0 x1001_1 x1002_1) := ⟨h8_⟩
         have n9_ : Aside0 (KeepBut w w14 g none) := ⟨h9_⟩
         have n10_ : Aside0 (Below w0.heap.size w0 w14) := ⟨h10_⟩
         clear HO_3
         clear HI0
         clear HK
         clear HB
         clear h0_ h1_ h2_ h3_ h4_ h5_ h6_ h7_ h8_ h9_ h10_
         have HO133 := n0_
         have HO_3 := n1_
         have HA_HO133 := n2_
         have BK138 := n3_
         have GW138 := n4_
         have GE138 := n5_
         have NB0_138 := n6_
         have NB138_0 := n7_
         have HI0 := n8_
         have HK := n9_
         have HB := n10_
         clear n0_ n1_ n2_ n3_ n4_ n5_ n6_ n7_ n8_ n9_ n10_
         have hHeld := trivial
         obtain ⟨co15, eo15⟩ := HA_HO133.out
         clear HA_HO133
         subst eo15
         refine norm_ (a' := ?_) ?_ ?_
         rotate_left
         ·simp only [putAll, Act.put, List.setIfInBounds_toArray, List.set_cons_zero, List.set_cons_succ]
          rfl
         refine one_ (i := 5) (N := some 22) #[true, true, true, true, true, true, true, false, true, false] rfl rfl (one_of HT_.out (by kernel_rfl)) (by decide) (fun K hK => ?_)
         refine goes_ Try.func71 (by kernel_rfl) rfl #[.pointer (some ⟨g, 0, none⟩)] (by rfl) rfl rfl (by (try simp only [List.map_toArray, List.map_cons, List.map_nil]); first | done | rfl|(simp only [List.length_drop, List.length_take]; rfl)) ?_
         with_reducible refine (spec_l1Cur_maker.calls g s0_0 x1001_1 x1002_1 t135 t136 t137 w0 _ ?side1 ?side2 A8.out).mono ?_
         (case side1 => repeat (first|(with_reducible first|exact HI0.out|apply IsS90.alloc|apply IsS90.drewN|apply IsS90.drew|apply IsS90.set_1|apply IsS90.set_2|exact IsS90.far HI0.out NB0_138.out _|exact IsS90.far (IsS90.far HI0.out NB0_138.out _) NB0_138.out _|exact IsS90.far (IsS90.far (IsS90.far HI0.out NB0_138.out _) NB0_138.out _) NB0_138.out _ | refine IsS90.far ?_ NB0_138.out _)|exact HI0.out))
         (case side2 => repeat (first|(with_reducible first|exact HB.out|apply below_alloc|apply pw_below_drewN|apply below_drew1 | refine below_set ?_ (IsS90.ge HI0.out) | refine below_set ?_ GE138.out)|exact HB.out))
         rintro e w16 ⟨rfl, hi, hb, hk⟩
         refine ⟨_, rfl, ?_⟩
         have n0_ := Aside0.mk (Kd.R_mono (Kd.R_keep (IsS90.apart (show IsS90 w0 _ g s0_0 x1001_1 x1002_1 from by repeat (first|(with_reducible first|exact HI0.out|apply IsS90.alloc|apply IsS90.drewN|apply IsS90.drew|apply IsS90.set_1|apply IsS90.set_2|exact IsS90.far HI0.out NB0_138.out _|exact IsS90.far (IsS90.far HI0.out NB0_138.out _) NB0_138.out _|exact IsS90.far (IsS90.far (IsS90.far HI0.out NB0_138.out _) NB0_138.out _) NB0_138.out _ | refine IsS90.far ?_ NB0_138.out _)|exact HI0.out)) (by (with_reducible repeat (first|apply Kd.R_alloc|apply Kd.R_drewN|apply Kd.R_drew)); exact HO_3.out) (by decide)) hk (fun _ h => h.2)) (fun _ h => h.1))
         have n1_ := Aside0.mk (Kd.R_mono (Kd.R_keep (IsS90.apart (show IsS90 w0 _ g s0_0 x1001_1 x1002_1 from by repeat (first|(with_reducible first|exact HI0.out|apply IsS90.alloc|apply IsS90.drewN|apply IsS90.drew|apply IsS90.set_1|apply IsS90.set_2|exact IsS90.far HI0.out NB0_138.out _|exact IsS90.far (IsS90.far HI0.out NB0_138.out _) NB0_138.out _|exact IsS90.far (IsS90.far (IsS90.far HI0.out NB0_138.out _) NB0_138.out _) NB0_138.out _ | refine IsS90.far ?_ NB0_138.out _)|exact HI0.out)) (by (with_reducible repeat (first|apply Kd.R_alloc|apply Kd.R_drewN|apply Kd.R_drew)); exact HO133.out) (by decide)) hk (fun _ h => h.2)) (fun _ h => h.1))
         have n2_ := Aside0.mk (KeepBut.blk hk (g' := gb138) (o := .cells #[.string (⟨#[]⟩ : ByteArray), .string (⟨#[]⟩ : ByteArray), .int .i64 0, .int .i64 0] 29 (0, 0)) (by (with_reducible repeat (first|refine blk_drewN ?_ _ | refine blk_drew ?_ | refine blk_alloc ?_ _)); exact BK138.out) NB138_0.out (by simp))
         have n3_ := Aside0.mk (KeepBut.trans (by repeat (first|(with_reducible first|exact HK.out|apply KeepBut.set_|apply keep_drewN|apply keep_drew|apply keep_alloc | refine keep_far ?_ GW138.out _)|exact HK.out)) hk (.inl rfl))
         have n4_ := Aside0.mk (hb)
         have n5_ := Aside0.mk (hi)
         clear HO_3
         clear HO133
         clear BK138
         clear HK
         clear HB
         clear HI0
         have HO_3 := n0_
         have HO133 := n1_
         have BK138 := n2_
         have HK := n3_
         have HB := n4_
         have HI0 := n5_
         clear n0_ n1_ n2_ n3_ n4_ n5_
         (try clear hb)
         (try clear hb2)
         (try clear hk)
         (try clear hi)
         refine hK.out _ _ trivial (fun hHeld => ?_)
         clear hK K
         refine norm_ (a' := ?_) ?_ ?_
         rotate_left
         ·show Act.put _ (some 22) _ = _
          simp only [Act.put, List.setIfInBounds_toArray, List.set_cons_zero, List.set_cons_succ, i64_w, i32_w]
          rfl
         refine pure_ (i := 7) (N := some 24) (v := ?_) (a' := ?_) #[true, true, true, true, true, true, true, true, true, false] rfl rfl (any_of HT_.out (by kernel_rfl)) (fun _ _ _ h => h) (Or.inl ⟨by rfl, ?_⟩) ?_ ?_
         rotate_left
         ·intro w'
          go_simp
          with_reducible rfl
         rotate_left
         ·simp only [Act.put, List.setIfInBounds_toArray, List.set_cons_zero, List.set_cons_succ, i64_w, i32_w]
          rfl
         exact norm_ (by first|(simp only [putAll, Act.put, List.setIfInBounds_toArray, List.set_cons_zero, List.set_cons_succ];done)|(simp only [putAll, Act.put, List.setIfInBounds_toArray, List.set_cons_zero, List.set_cons_succ]; rfl)) (hJ0_3_5_8 (.slice (some adz_v132) t131.length co15, adz_v132, gb138) _ ⟨(by (with_reducible repeat (first|apply Kd.R_alloc|apply Kd.R_drewN|apply Kd.R_drew)); exact HO133.out), (by (with_reducible repeat (first|apply Kd.R_alloc|apply Kd.R_drewN|apply Kd.R_drew)); exact HO_3.out), ⟨_, rfl⟩, (by (with_reducible repeat (first|refine blk_drewN ?_ _ | refine blk_drew ?_ | refine blk_alloc ?_ _)); exact BK138.out), GW138.out, GE138.out, NB0_138.out, NB138_0.out, (by repeat (first|(with_reducible first|exact HI0.out|apply IsS90.alloc|apply IsS90.drewN|apply IsS90.drew|apply IsS90.set_1|apply IsS90.set_2|exact IsS90.far HI0.out NB0_138.out _|exact IsS90.far (IsS90.far HI0.out NB0_138.out _) NB0_138.out _|exact IsS90.far (IsS90.far (IsS90.far HI0.out NB0_138.out _) NB0_138.out _) NB0_138.out _ | refine IsS90.far ?_ NB0_138.out _)|exact HI0.out)), (by repeat (first|(with_reducible first|exact HK.out|apply KeepBut.set_|apply keep_drewN|apply keep_drew|apply keep_alloc | refine keep_far ?_ GW138.out _)|exact HK.out)), (by repeat (first|(with_reducible first|exact HB.out|apply below_alloc|apply pw_below_drewN|apply below_drew1 | refine below_set ?_ (IsS90.ge HI0.out) | refine below_set ?_ GE138.out)|exact HB.out))⟩)
       ·skip
        rintro ⟨v132, adz_v132⟩ w14 ⟨h0_, h1_, h2_, h3_, h4_, h5_⟩
        have n0_ : Aside0 (Kd.R Kd.string 9 w14 w.heap.size (fun _ => True) v132 t131) := ⟨h0_⟩
        have n1_ : Aside0 (Kd.R k29 29 w14 w.heap.size (fun _ => True) u3 x3_1) := ⟨h1_⟩
        have n2_ : Aside0 (∃ c_, (v132 : Value) = .slice (some adz_v132) t131.length c_) := ⟨h2_⟩
        have n3_ : Aside0 (IsS90 w0 w14 g s0_0 t136 t137) := ⟨h3_⟩
        have n4_ : Aside0 (KeepBut w w14 g none) := ⟨h4_⟩
        have n5_ : Aside0 (Below w0.heap.size w0 w14) := ⟨h5_⟩
        clear HO_3
        clear HI0
        clear HK
        clear HB
        clear h0_ h1_ h2_ h3_ h4_ h5_
        have HO133 := n0_
        have HO_3 := n1_
        have HA_HO133 := n2_
        have HI0 := n3_
        have HK := n4_
        have HB := n5_
        clear n0_ n1_ n2_ n3_ n4_ n5_
        have hHeld := trivial
        obtain ⟨co15, eo15⟩ := HA_HO133.out
        clear HA_HO133
        subst eo15
        refine norm_ (a' := ?_) ?_ ?_
        rotate_left
        ·simp only [putAll, Act.put, List.setIfInBounds_toArray, List.set_cons_zero, List.set_cons_succ]
         rfl
        refine one_ (i := 8) (N := some 7) #[true, true, true, true, true, true, true, true, true, false] rfl rfl (one_of HT_.out (by kernel_rfl)) (by decide) (fun K hK => ?_)
        refine box_step ?hg (N := 7) ?hd (cs := #[.string (⟨#[]⟩ : ByteArray), .string (⟨#[]⟩ : ByteArray), .int .i64 0, .int .i64 0]) (t := 29) ?hr ?_;(case hd => rfl);(case hg => rfl);(case hr => first|(go_simp;done)|(go_simp; rfl))
        intro gb138 hg w16 hbox hb
        have n0_ := Aside0.mk (Kd.R_below (Kd.R_elderB (by (with_reducible repeat (first|apply Kd.R_alloc|apply Kd.R_drewN|apply Kd.R_drew)); exact HO_3.out) gb138 (Nat.le_of_eq hg.symm)) hb)
        have n1_ := Aside0.mk (Kd.R_below (by (with_reducible repeat (first|apply Kd.R_alloc|apply Kd.R_drewN|apply Kd.R_drew)); exact HO133.out) hb)
        have n2_ := Aside0.mk (IsS90.below (by repeat (first|(with_reducible first|exact HI0.out|apply IsS90.alloc|apply IsS90.drewN|apply IsS90.drew|apply IsS90.set_1|apply IsS90.set_2)|exact HI0.out)) hb)
        have n3_ := Aside0.mk (KeepBut.trans (by repeat (first|(with_reducible first|exact HK.out|apply KeepBut.set_|apply keep_drewN|apply keep_drew|apply keep_alloc)|exact HK.out)) (KeepBut.of_below hb g none) (.inl rfl))
        have n4_ := Aside0.mk (below_step (by repeat (first|(with_reducible first|exact HB.out|apply below_alloc|apply pw_below_drewN|apply below_drew1 | refine below_set ?_ (IsS90.ge HI0.out))|exact HB.out)) hb)
        have n5_ := Aside0.mk (hbox)
        have n6_ := Aside0.mk ((by rw [hg]; exact (keep_size (w := w) (g := g) (row := none) (by repeat (first|(with_reducible first|exact HK.out|apply KeepBut.set_|apply keep_drewN|apply keep_drew|apply keep_alloc)|exact HK.out))) : w.heap.size ≤ gb138))
        have n7_ := Aside0.mk ((Nat.le_trans HW0.out (by rw [hg]; exact (keep_size (w := w) (g := g) (row := none) (by repeat (first|(with_reducible first|exact HK.out|apply KeepBut.set_|apply keep_drewN|apply keep_drew|apply keep_alloc)|exact HK.out))) : w.heap.size ≤ gb138) : w0.heap.size ≤ gb138))
        have n8_ := Aside0.mk ((by rw [hg]; exact Nat.ne_of_lt (IsS90.lt (show IsS90 w0 _ g s0_0 t136 t137 from by repeat (first|(with_reducible first|exact HI0.out|apply IsS90.alloc|apply IsS90.drewN|apply IsS90.drew|apply IsS90.set_1|apply IsS90.set_2)|exact HI0.out))) : g ≠ gb138))
        have n9_ := Aside0.mk ((by rw [hg]; exact Nat.ne_of_gt (IsS90.lt (show IsS90 w0 _ g s0_0 t136 t137 from by repeat (first|(with_reducible first|exact HI0.out|apply IsS90.alloc|apply IsS90.drewN|apply IsS90.drew|apply IsS90.set_1|apply IsS90.set_2)|exact HI0.out))) : gb138 ≠ g))
        clear HO_3
        clear HO133
        clear HI0
        clear HK
        clear HB
        have HO_3 := n0_
        have HO133 := n1_
        have HI0 := n2_
        have HK := n3_
        have HB := n4_
        have BK138 := n5_
        have GW138 := n6_
        have GE138 := n7_
        have NB0_138 := n8_
        have NB138_0 := n9_
        clear n0_ n1_ n2_ n3_ n4_ n5_ n6_ n7_ n8_ n9_
        clear hb hbox hg
        refine hK.out _ _ trivial (fun hHeld => ?_)
        clear hK K
        refine norm_ (a' := ?_) ?_ ?_
        rotate_left
        ·show Act.put _ (some 7) _ = _
         simp only [Act.put, List.setIfInBounds_toArray, List.set_cons_zero, List.set_cons_succ, i64_w, i32_w]
         rfl
        exact norm_ (by first|(simp only [putAll, Act.put, List.setIfInBounds_toArray, List.set_cons_zero, List.set_cons_succ];done)|(simp only [putAll, Act.put, List.setIfInBounds_toArray, List.set_cons_zero, List.set_cons_succ]; rfl)) (hJ0_3_5_8 (.slice (some adz_v132) t131.length co15, adz_v132, gb138) _ ⟨(by (with_reducible repeat (first|apply Kd.R_alloc|apply Kd.R_drewN|apply Kd.R_drew)); exact HO133.out), (by (with_reducible repeat (first|apply Kd.R_alloc|apply Kd.R_drewN|apply Kd.R_drew)); exact Kd.R_mono HO_3.out (fun _ hk => hk.2)), ⟨_, rfl⟩, (by (with_reducible repeat (first|refine blk_drewN ?_ _ | refine blk_drew ?_ | refine blk_alloc ?_ _)); exact BK138.out), GW138.out, GE138.out, NB0_138.out, NB138_0.out, (by repeat (first|(with_reducible first|exact HI0.out|apply IsS90.alloc|apply IsS90.drewN|apply IsS90.drew|apply IsS90.set_1|apply IsS90.set_2|exact IsS90.far HI0.out NB0_138.out _|exact IsS90.far (IsS90.far HI0.out NB0_138.out _) NB0_138.out _|exact IsS90.far (IsS90.far (IsS90.far HI0.out NB0_138.out _) NB0_138.out _) NB0_138.out _ | refine IsS90.far ?_ NB0_138.out _)|exact HI0.out)), (by repeat (first|(with_reducible first|exact HK.out|apply KeepBut.set_|apply keep_drewN|apply keep_drew|apply keep_alloc | refine keep_far ?_ GW138.out _)|exact HK.out)), (by repeat (first|(with_reducible first|exact HB.out|apply below_alloc|apply pw_below_drewN|apply below_drew1 | refine below_set ?_ (IsS90.ge HI0.out) | refine below_set ?_ GE138.out)|exact HB.out))⟩)
      rintro ⟨v132, adz_v132, gb138⟩ w15 ⟨h0_, h1_, h2_, h3_, h4_, h5_, h6_, h7_, h8_, h9_, h10_⟩
      have n0_ : Aside0 (Kd.R Kd.string 9 w15 w.heap.size (fun _ => True) v132 t131) := ⟨h0_⟩
      have n1_ : Aside0 (Kd.R k29 29 w15 w.heap.size (fun k_ => k_ ≠ gb138) u3 x3_1) := ⟨h1_⟩
      have n2_ : Aside0 (∃ c_, (v132 : Value) = .slice (some adz_v132) t131.length c_) := ⟨h2_⟩
      have n3_ : Aside0 (w15.heap[gb138]? = some (.cells #[.string (⟨#[]⟩ : ByteArray), .string (⟨#[]⟩ : ByteArray), .int .i64 0, .int .i64 0] 29 (0, 0))) := ⟨h3_⟩
      have n4_ : Aside0 (w.heap.size ≤ gb138) := ⟨h4_⟩
      have n5_ : Aside0 (w0.heap.size ≤ gb138) := ⟨h5_⟩
      have n6_ : Aside0 (g ≠ gb138) := ⟨h6_⟩
      have n7_ : Aside0 (gb138 ≠ g) := ⟨h7_⟩
      have n8_ : Aside0 (IsS90 w0 w15 g s0_0 t136 t137) := ⟨h8_⟩
      have n9_ : Aside0 (KeepBut w w15 g none) := ⟨h9_⟩
      have n10_ : Aside0 (Below w0.heap.size w0 w15) := ⟨h10_⟩
      clear HO_3
      clear HI0
      clear HK
      clear HB
      clear h0_ h1_ h2_ h3_ h4_ h5_ h6_ h7_ h8_ h9_ h10_
      have HO133 := n0_
      have HO_3 := n1_
      have HA_HO133 := n2_
      have BK138 := n3_
      have GW138 := n4_
      have GE138 := n5_
      have NB0_138 := n6_
      have NB138_0 := n7_
      have HI0 := n8_
      have HK := n9_
      have HB := n10_
      clear n0_ n1_ n2_ n3_ n4_ n5_ n6_ n7_ n8_ n9_ n10_
      have hHeld := trivial
      obtain ⟨co16, eo16⟩ := HA_HO133.out
      clear HA_HO133
      subst eo16
      refine norm_ (a' := ?_) ?_ ?_
      rotate_left
      ·simp only [putAll, Act.put, List.setIfInBounds_toArray, List.set_cons_zero, List.set_cons_succ]
       rfl
      refine one_ (i := 9) (N := none) #[true, true, true, true, true, true, true, true, true, true] rfl rfl (one_of HT_.out (by kernel_rfl)) (by decide) (fun K hK => ?_)
      have hs17 : w15.cell? ⟨gb138, 0, none⟩ = some (.string (⟨#[]⟩ : ByteArray)) := (blk_cell BK138.out 0).trans rfl
      have hfs17 := blk_frozen BK138.out 0
      have hs18 : w15.cell? ⟨gb138, 1, none⟩ = some (.string (⟨#[]⟩ : ByteArray)) := (blk_cell BK138.out 1).trans rfl
      have hfs18 := blk_frozen BK138.out 1
      have hs19 : w15.cell? ⟨gb138, 2, none⟩ = some (.int .i64 0) := (blk_cell BK138.out 2).trans rfl
      have hfs19 := blk_frozen BK138.out 2
      have hs20 : w15.cell? ⟨gb138, 3, none⟩ = some (.int .i64 0) := (blk_cell BK138.out 3).trans rfl
      have hfs20 := blk_frozen BK138.out 3
      refine skip_ (w1 := ?_) (by rfl) rfl ?_ ?_
      rotate_left
      ·go_simp
       rfl
      refine hK.out _ _ trivial (fun hHeld => ?_)
      clear hK K
      refine done_ (done_of HT_.out (by kernel_rfl)) ?_
      go_upto_region 8 with (fail)
      go_cut [31] (fun v31 wc => ∃ (kq : Nat) (x31_8 : Bool) (x1001_8 : Int) (x1002_8 : Int), v31 = .bool x31_8 ∧ Aside0 (spec_l1Cur_rolls.j1 kq x3_1 t128 x5_1 x6_1 x31_8 s0_0 x1001_8 x1002_8 (rdOf ByteArray.empty t131 x6_1) t135 x5_1 (-1) = some (r1, r2, r3)) ∧ Aside0 (kq ≤ k1) ∧ Aside0 (Kd.R k29 29 wc w.heap.size (fun k_ => k_ ≠ gb138) u3 x3_1) ∧ Aside0 (wc.heap[gb138]? = some (.cells #[.string (rdOf ByteArray.empty t131 x6_1), .string t135, .int .i64 x5_1, .int .i64 (-1)] 29 (0, 0))) ∧ Aside0 (IsS90 w0 wc g s0_0 x1001_8 x1002_8) ∧ Aside0 (KeepBut w wc g none) ∧ Aside0 (Below w0.heap.size w0 wc))
      case first =>
       have H := HC9.out
       clear HC9
       by_cases c21 : x6_1 > 0
       ·rw [if_pos c21] at H
        have c21b0 : decide (0 < x6_1) = true := decide_eq_true c21
        clear c21
        (first|rw [c21b0]|(simp only [i64_w, i32_w]; rw [c21b0]) | skip)
        replace H := Option.bind_eq_some_iff.mp H
        obtain ⟨⟨t139, t140, t141⟩, A220, H⟩ := H
        try dsimp only at H
        have A22 := Aside0.mk A220
        clear A220
        have H' := Aside0.mk H
        clear H
        go_wp2_with (first|(go_at_call 90; (with_reducible refine (spec_l1Cur_one.calls g s0_0 t136 t137 3 t139 t140 t141 w0 _ ?side1 ?side2 A22.out).mono ?_);(case side1 => repeat (first|(with_reducible first|exact HI0.out|apply IsS90.alloc|apply IsS90.drewN|apply IsS90.drew|apply IsS90.set_1|apply IsS90.set_2|exact IsS90.far HI0.out NB0_138.out _|exact IsS90.far (IsS90.far HI0.out NB0_138.out _) NB0_138.out _|exact IsS90.far (IsS90.far (IsS90.far HI0.out NB0_138.out _) NB0_138.out _) NB0_138.out _ | refine IsS90.far ?_ NB0_138.out _)|exact HI0.out));(case side2 => repeat (first|(with_reducible first|exact HB.out|apply below_alloc|apply pw_below_drewN|apply below_drew1 | refine below_set ?_ (IsS90.ge HI0.out) | refine below_set ?_ GE138.out)|exact HB.out)); rintro e w23 ⟨rfl, hi, hb, hk⟩; have n0_ := Aside0.mk (Kd.R_mono (Kd.R_keep (IsS90.apart (show IsS90 w0 _ g s0_0 t136 t137 from by repeat (first|(with_reducible first|exact HI0.out|apply IsS90.alloc|apply IsS90.drewN|apply IsS90.drew|apply IsS90.set_1|apply IsS90.set_2|exact IsS90.far HI0.out NB0_138.out _|exact IsS90.far (IsS90.far HI0.out NB0_138.out _) NB0_138.out _|exact IsS90.far (IsS90.far (IsS90.far HI0.out NB0_138.out _) NB0_138.out _) NB0_138.out _ | refine IsS90.far ?_ NB0_138.out _)|exact HI0.out)) (by (with_reducible repeat (first|apply Kd.R_alloc|apply Kd.R_drewN|apply Kd.R_drew)); exact (Kd.R_mono (Kd.R_far (p := ⟨gb138, 3, none⟩) (Kd.R_far (p := ⟨gb138, 2, none⟩) (Kd.R_far (p := ⟨gb138, 1, none⟩) (Kd.R_far (p := ⟨gb138, 0, none⟩) (Kd.R_mono HO_3.out (fun k_ hk => (⟨hk, hk⟩ : _ ∧ k_ ≠ gb138))) (fun _ hk => hk.2) (.string (rdOf ByteArray.empty t131 x6_1))) (fun _ hk => hk.2) (.string t135)) (fun _ hk => hk.2) (.int .i64 x5_1)) (fun _ hk => hk.2) (.int .i64 (-1))) (fun _ h_ => h_.1))) (by decide)) hk (fun _ h => h.2)) (fun _ h => h.1)); have n1_ := Aside0.mk (Kd.R_mono (Kd.R_keep (IsS90.apart (show IsS90 w0 _ g s0_0 t136 t137 from by repeat (first|(with_reducible first|exact HI0.out|apply IsS90.alloc|apply IsS90.drewN|apply IsS90.drew|apply IsS90.set_1|apply IsS90.set_2|exact IsS90.far HI0.out NB0_138.out _|exact IsS90.far (IsS90.far HI0.out NB0_138.out _) NB0_138.out _|exact IsS90.far (IsS90.far (IsS90.far HI0.out NB0_138.out _) NB0_138.out _) NB0_138.out _ | refine IsS90.far ?_ NB0_138.out _)|exact HI0.out)) (by (with_reducible repeat (first|apply Kd.R_alloc|apply Kd.R_drewN|apply Kd.R_drew)); exact (Kd.R_mono (Kd.R_far (p := ⟨gb138, 3, none⟩) (Kd.R_far (p := ⟨gb138, 2, none⟩) (Kd.R_far (p := ⟨gb138, 1, none⟩) (Kd.R_far (p := ⟨gb138, 0, none⟩) (Kd.R_types HO133.out BK138.out (by decide)) (fun _ hk => hk.2) (.string (rdOf ByteArray.empty t131 x6_1))) (fun _ hk => hk.2) (.string t135)) (fun _ hk => hk.2) (.int .i64 x5_1)) (fun _ hk => hk.2) (.int .i64 (-1))) (fun _ h_ => h_.1))) (by decide)) hk (fun _ h => h.2)) (fun _ h => h.1)); have n2_ := Aside0.mk (KeepBut.blk hk (g' := gb138) (o := .cells #[.string (rdOf ByteArray.empty t131 x6_1), .string t135, .int .i64 x5_1, .int .i64 (-1)] 29 (0, 0)) (by (with_reducible repeat (first|refine blk_drewN ?_ _ | refine blk_drew ?_ | refine blk_alloc ?_ _)); refine blk_put (cs := #[.string (rdOf ByteArray.empty t131 x6_1), .string t135, .int .i64 x5_1, .int .i64 0]) ?_ 3 _ rfl; (with_reducible repeat (first|refine blk_drewN ?_ _ | refine blk_drew ?_ | refine blk_alloc ?_ _)); refine blk_put (cs := #[.string (rdOf ByteArray.empty t131 x6_1), .string t135, .int .i64 0, .int .i64 0]) ?_ 2 _ rfl; (with_reducible repeat (first|refine blk_drewN ?_ _ | refine blk_drew ?_ | refine blk_alloc ?_ _)); refine blk_put (cs := #[.string (rdOf ByteArray.empty t131 x6_1), .string (⟨#[]⟩ : ByteArray), .int .i64 0, .int .i64 0]) ?_ 1 _ rfl; (with_reducible repeat (first|refine blk_drewN ?_ _ | refine blk_drew ?_ | refine blk_alloc ?_ _)); refine blk_put (cs := #[.string (⟨#[]⟩ : ByteArray), .string (⟨#[]⟩ : ByteArray), .int .i64 0, .int .i64 0]) ?_ 0 _ rfl; (with_reducible repeat (first|refine blk_drewN ?_ _ | refine blk_drew ?_ | refine blk_alloc ?_ _)); exact BK138.out) NB138_0.out (by simp)); have n3_ := Aside0.mk (KeepBut.trans (by repeat (first|(with_reducible first|exact HK.out|apply KeepBut.set_|apply keep_drewN|apply keep_drew|apply keep_alloc | refine keep_far ?_ GW138.out _)|exact HK.out)) hk (.inl rfl)); have n4_ := Aside0.mk (hb); have n5_ := Aside0.mk (hi); clear HO_3; clear HO133; clear BK138; clear HK; clear HB; clear HI0; have HO_3 := n0_; have HO133 := n1_; have BK138 := n2_; have HK := n3_; have HB := n4_; have HI0 := n5_; clear n0_ n1_ n2_ n3_ n4_ n5_; (try clear hb); (try clear hb2); (try clear hk); (try clear hi)))
        go_meet
        case rel => exact ⟨_, (!t139), (t140), (t141), (by first | rfl|(simp;done)|(simp [*];done)), H', ⟨by have := HK1.out; first | omega|exact Nat.le_refl _⟩, ⟨by (with_reducible repeat (first|apply Kd.R_alloc|apply Kd.R_drewN|apply Kd.R_drew)); exact HO_3.out⟩, ⟨by (with_reducible repeat (first|refine blk_drewN ?_ _ | refine blk_drew ?_ | refine blk_alloc ?_ _)); exact BK138.out⟩, ⟨by repeat (first|(with_reducible first|exact HI0.out|apply IsS90.alloc|apply IsS90.drewN|apply IsS90.drew|apply IsS90.set_1|apply IsS90.set_2|exact IsS90.far HI0.out NB0_138.out _|exact IsS90.far (IsS90.far HI0.out NB0_138.out _) NB0_138.out _|exact IsS90.far (IsS90.far (IsS90.far HI0.out NB0_138.out _) NB0_138.out _) NB0_138.out _ | refine IsS90.far ?_ NB0_138.out _)|exact HI0.out)⟩, ⟨by repeat (first|(with_reducible first|exact HK.out|apply KeepBut.set_|apply keep_drewN|apply keep_drew|apply keep_alloc | refine keep_far ?_ GW138.out _)|exact HK.out)⟩, ⟨by repeat (first|(with_reducible first|exact HB.out|apply below_alloc|apply pw_below_drewN|apply below_drew1 | refine below_set ?_ (IsS90.ge HI0.out) | refine below_set ?_ GE138.out)|exact HB.out)⟩⟩
       ·rw [if_neg c21] at H
        have c21b0 : decide (0 < x6_1) = false := decide_eq_false c21
        clear c21
        (first|rw [c21b0]|(simp only [i64_w, i32_w]; rw [c21b0]) | skip)
        have H' := Aside0.mk H
        clear H
        go_wp2
        go_meet
        case rel => exact ⟨_, (false), (t136), (t137), (by first | rfl|(simp;done)|(simp [*];done)), H', ⟨by have := HK1.out; first | omega|exact Nat.le_refl _⟩, ⟨by (with_reducible repeat (first|apply Kd.R_alloc|apply Kd.R_drewN|apply Kd.R_drew)); exact Kd.R_mono (Kd.R_far (p := ⟨gb138, 3, none⟩) (Kd.R_far (p := ⟨gb138, 2, none⟩) (Kd.R_far (p := ⟨gb138, 1, none⟩) (Kd.R_far (p := ⟨gb138, 0, none⟩) (Kd.R_mono HO_3.out (fun k_ hk => (⟨hk, hk⟩ : _ ∧ k_ ≠ gb138))) (fun _ hk => hk.2) (.string (rdOf ByteArray.empty t131 x6_1))) (fun _ hk => hk.2) (.string t135)) (fun _ hk => hk.2) (.int .i64 x5_1)) (fun _ hk => hk.2) (.int .i64 (-1))) (fun _ hk => hk.1)⟩, ⟨by (with_reducible repeat (first|refine blk_drewN ?_ _ | refine blk_drew ?_ | refine blk_alloc ?_ _)); refine blk_put (cs := #[.string (rdOf ByteArray.empty t131 x6_1), .string t135, .int .i64 x5_1, .int .i64 0]) ?_ 3 _ rfl; (with_reducible repeat (first|refine blk_drewN ?_ _ | refine blk_drew ?_ | refine blk_alloc ?_ _)); refine blk_put (cs := #[.string (rdOf ByteArray.empty t131 x6_1), .string t135, .int .i64 0, .int .i64 0]) ?_ 2 _ rfl; (with_reducible repeat (first|refine blk_drewN ?_ _ | refine blk_drew ?_ | refine blk_alloc ?_ _)); refine blk_put (cs := #[.string (rdOf ByteArray.empty t131 x6_1), .string (⟨#[]⟩ : ByteArray), .int .i64 0, .int .i64 0]) ?_ 1 _ rfl; (with_reducible repeat (first|refine blk_drewN ?_ _ | refine blk_drew ?_ | refine blk_alloc ?_ _)); refine blk_put (cs := #[.string (⟨#[]⟩ : ByteArray), .string (⟨#[]⟩ : ByteArray), .int .i64 0, .int .i64 0]) ?_ 0 _ rfl; (with_reducible repeat (first|refine blk_drewN ?_ _ | refine blk_drew ?_ | refine blk_alloc ?_ _)); exact BK138.out⟩, ⟨by repeat (first|(with_reducible first|exact HI0.out|apply IsS90.alloc|apply IsS90.drewN|apply IsS90.drew|apply IsS90.set_1|apply IsS90.set_2|exact IsS90.far HI0.out NB0_138.out _|exact IsS90.far (IsS90.far HI0.out NB0_138.out _) NB0_138.out _|exact IsS90.far (IsS90.far (IsS90.far HI0.out NB0_138.out _) NB0_138.out _) NB0_138.out _ | refine IsS90.far ?_ NB0_138.out _)|exact HI0.out)⟩, ⟨by repeat (first|(with_reducible first|exact HK.out|apply KeepBut.set_|apply keep_drewN|apply keep_drew|apply keep_alloc | refine keep_far ?_ GW138.out _)|exact HK.out)⟩, ⟨by repeat (first|(with_reducible first|exact HB.out|apply below_alloc|apply pw_below_drewN|apply below_drew1 | refine below_set ?_ (IsS90.ge HI0.out) | refine below_set ?_ GE138.out)|exact HB.out)⟩⟩
      case rest =>
       clear HC9
       try clear p1
       try clear q1
       try clear hx1
       try clear c2
       try clear p2
       try clear c7
       try clear p13
       try clear q13
       try clear hx13
       try clear c21
       try clear c21b0
       try clear hx134_0
       try clear p134
       try clear q134
       obtain ⟨kq, x31_8, x1001_8, x1002_8, rfl, HA, HJ8, HO_3, BK138, HI0, HK, HB⟩ := hcut
       cases kq with
       | zero => exact absurd HA.out (by simp [spec_l1Cur_rolls.j1])
       | succ kj8 =>
        have H := HA.out
        clear HA
        simp only [spec_l1Cur_rolls.j1] at H
        by_cases c24 : x31_8 = true
        ·subst c24
         have H1 : ((spec_l1Cur_pick.f s0_0 x1001_8 x1002_8 x6_1).bind fun bt142 => (if x3_1.length < 2932031007402 then ((spec_l1Cur_among.f s0_0 bt142.2.1 bt142.2.2 (([0, 0, 1, 10] : List Int))).bind fun bt151 => (spec_l1Cur_rolls.l0 kj8 (x3_1 ++ [(⟨(rdOf ByteArray.empty t131 x6_1), t135, x5_1, bt142.1⟩ : S29)]) t128 (wrap64 (x5_1 + bt151.1)) (wrap64 (x6_1 + 1)) s0_0 bt151.2.1 bt151.2.2)) else (none))) = some (r1, r2, r3) := by rw [if_pos rfl] at H; exact H
         clear H
         have H := H1
         clear H1
         replace H := Option.bind_eq_some_iff.mp H
         obtain ⟨⟨t142, t143, t144⟩, A250, H⟩ := H
         try dsimp only at H
         have A25 := Aside0.mk A250
         clear A250
         by_cases c26 : x3_1.length < 2932031007402
         ·rw [if_pos c26] at H
          have LMc26 := Aside0.mk c26
          clear c26
          obtain ⟨y145, hy145⟩ : ∃ y_ : List (S29), y_ = (x3_1 ++ [(⟨(rdOf ByteArray.empty t131 x6_1), t135, x5_1, t142⟩ : S29)]) := ⟨_, rfl⟩
          replace H : ((spec_l1Cur_among.f s0_0 t143 t144 (([0, 0, 1, 10] : List Int))).bind fun bt151 => (spec_l1Cur_rolls.l0 kj8 y145 t128 (wrap64 (x5_1 + bt151.1)) (wrap64 (x6_1 + 1)) s0_0 bt151.2.1 bt151.2.2)) = some (r1, r2, r3) := by first|(rw [hy145]; with_reducible exact H)|(have H2_ := (Option.bind_some _ _).symm.trans H; rw [hy145]; with_reducible exact H2_)|(have H2_ := (Option.bind_some _ _).symm.trans H; with_reducible exact H2_) | with_reducible exact H|(rw [hy145]; exact H)|exact H
          have Ny145 := Aside0.mk hy145
          clear hy145
          obtain ⟨y148, hy148⟩ : ∃ y_ : List Int, y_ = (([0, 0, 1, 10] : List Int)) := ⟨_, rfl⟩
          replace H : ((spec_l1Cur_among.f s0_0 t143 t144 y148).bind fun bt151 => (spec_l1Cur_rolls.l0 kj8 y145 t128 (wrap64 (x5_1 + bt151.1)) (wrap64 (x6_1 + 1)) s0_0 bt151.2.1 bt151.2.2)) = some (r1, r2, r3) := by first|(rw [hy148]; with_reducible exact H)|(have H2_ := (Option.bind_some _ _).symm.trans H; rw [hy148]; with_reducible exact H2_)|(have H2_ := (Option.bind_some _ _).symm.trans H; with_reducible exact H2_) | with_reducible exact H|(rw [hy148]; exact H)|exact H
          have Ny148 := Aside0.mk hy148
          clear hy148
          replace H := Option.bind_eq_some_iff.mp H
          obtain ⟨⟨t151, t152, t153⟩, A270, H⟩ := H
          try dsimp only at H
          have A27 := Aside0.mk A270
          clear A270
          have H' := Aside0.mk H
          clear H
          go_wp2_with (first|((with_reducible refine gate_callee (f := 89) rfl ?_); refine goesL_ (some 34) rfl rfl Try.func89 (by kernel_rfl) rfl #[.pointer (some ⟨g, 0, none⟩), .int .i64 x6_1] rfl (by (try simp only [List.map_toArray, List.map_cons, List.map_nil]); first | done | rfl|(simp only [List.length_drop, List.length_take]; rfl)) ?_; (with_reducible refine (spec_l1Cur_pick.calls g s0_0 x1001_8 x1002_8 x6_1 t142 t143 t144 w0 _ ?side1 ?side2 A25.out).mono ?_);(case side1 => repeat (first|(with_reducible first|exact HI0.out|apply IsS90.alloc|apply IsS90.drewN|apply IsS90.drew|apply IsS90.set_1|apply IsS90.set_2|exact IsS90.far HI0.out NB0_138.out _|exact IsS90.far (IsS90.far HI0.out NB0_138.out _) NB0_138.out _|exact IsS90.far (IsS90.far (IsS90.far HI0.out NB0_138.out _) NB0_138.out _) NB0_138.out _ | refine IsS90.far ?_ NB0_138.out _)|exact HI0.out));(case side2 => repeat (first|(with_reducible first|exact HB.out|apply below_alloc|apply pw_below_drewN|apply below_drew1 | refine below_set ?_ (IsS90.ge HI0.out) | refine below_set ?_ GE138.out)|exact HB.out)); rintro e w28 ⟨rfl, hi, hb, hk⟩; refine ⟨_, rfl, ?_⟩; have n0_ := Aside0.mk (Kd.R_mono (Kd.R_keep (IsS90.apart (show IsS90 w0 _ g s0_0 x1001_8 x1002_8 from by repeat (first|(with_reducible first|exact HI0.out|apply IsS90.alloc|apply IsS90.drewN|apply IsS90.drew|apply IsS90.set_1|apply IsS90.set_2|exact IsS90.far HI0.out NB0_138.out _|exact IsS90.far (IsS90.far HI0.out NB0_138.out _) NB0_138.out _|exact IsS90.far (IsS90.far (IsS90.far HI0.out NB0_138.out _) NB0_138.out _) NB0_138.out _ | refine IsS90.far ?_ NB0_138.out _)|exact HI0.out)) (by (with_reducible repeat (first|apply Kd.R_alloc|apply Kd.R_drewN|apply Kd.R_drew)); exact HO_3.out) (by decide)) hk (fun _ h => h.2)) (fun _ h => h.1)); have n1_ := Aside0.mk (KeepBut.blk hk (g' := gb138) (o := .cells #[.string (rdOf ByteArray.empty t131 x6_1), .string t135, .int .i64 x5_1, .int .i64 (-1)] 29 (0, 0)) (by (with_reducible repeat (first|refine blk_drewN ?_ _ | refine blk_drew ?_ | refine blk_alloc ?_ _)); exact BK138.out) NB138_0.out (by simp)); have n2_ := Aside0.mk (KeepBut.trans (by repeat (first|(with_reducible first|exact HK.out|apply KeepBut.set_|apply keep_drewN|apply keep_drew|apply keep_alloc | refine keep_far ?_ GW138.out _)|exact HK.out)) hk (.inl rfl)); have n3_ := Aside0.mk (hb); have n4_ := Aside0.mk (hi); clear HO_3; clear BK138; clear HK; clear HB; clear HI0; have HO_3 := n0_; have BK138 := n1_; have HK := n2_; have HB := n3_; have HI0 := n4_; clear n0_ n1_ n2_ n3_ n4_; (try clear hb); (try clear hb2); (try clear hk); (try clear hi); have hnb29 := NB138_0.out; have hnc29 := NB0_138.out; have hcz30_0 : w28.cell? ⟨gb138, 0, none⟩ = some (.string (rdOf ByteArray.empty t131 x6_1)) := (blk_cell BK138.out 0).trans rfl; have hcz30_1 : w28.cell? ⟨gb138, 1, none⟩ = some (.string t135) := (blk_cell BK138.out 1).trans rfl; have hcz30_2 : w28.cell? ⟨gb138, 2, none⟩ = some (.int .i64 x5_1) := (blk_cell BK138.out 2).trans rfl; have hcz30_3 : w28.cell? ⟨gb138, 3, none⟩ = some (.int .i64 (-1)) := (blk_cell BK138.out 3).trans rfl; have hfz30_0 := blk_frozen BK138.out 0; have hfz30_1 := blk_frozen BK138.out 1; have hfz30_2 := blk_frozen BK138.out 2; have hfz30_3 := blk_frozen BK138.out 3)|((with_reducible refine gate_builtin (b := .append) (xs := #[.tmp 36, .tmp 38]) rfl ?_); at_builtin; refine Kd.R_append k29 w.heap.size rfl (.tmp 36) (.tmp 38) 23 29 (.agg #[(.string ⟨#[]⟩), (.string ⟨#[]⟩), (.int .i64 0), (.int .i64 0)]) 48 rfl Try.underlying23 info29 rfl (by decide) (by omega) u3 x3_1 (⟨(rdOf ByteArray.empty t131 x6_1), t135, x5_1, t142⟩ : S29) [.string (rdOf ByteArray.empty t131 x6_1), .string t135, .int .i64 x5_1, .int .i64 t142] (fun k_ => k_ ≠ gb138) (fun _ => False) rfl (by first|(go_simp;done)|(go_simp; rfl)) ?aP (fun _ hk => hk.elim) ?aF ?aO (Below.refl _ _) ?aS ?aL ?_;(case aP => exact k29_mkM _ _ _ (⟨(rdOf ByteArray.empty t131 x6_1), t135, x5_1, t142⟩ : S29));(case aF => exact (fun k_ hk => Kd.freshB (g := gb138) (o := .cells #[.string (rdOf ByteArray.empty t131 x6_1), .string t135, .int .i64 x5_1, .int .i64 t142] 29 (0, 0)) (by (with_reducible repeat (first|refine blk_drewN ?_ _ | refine blk_drew ?_ | refine blk_alloc ?_ _)); refine blk_put (cs := #[.string (rdOf ByteArray.empty t131 x6_1), .string t135, .int .i64 x5_1, .int .i64 (-1)]) ?_ 3 _ rfl; (with_reducible repeat (first|refine blk_drewN ?_ _ | refine blk_drew ?_ | refine blk_alloc ?_ _)); exact BK138.out) k_ hk));(case aO => exact (by (with_reducible repeat (first|apply Kd.R_alloc|apply Kd.R_drewN|apply Kd.R_drew)); exact Kd.R_mono (Kd.R_far (p := ⟨gb138, 3, none⟩) (Kd.R_mono HO_3.out (fun k_ hk => (⟨hk, hk⟩ : _ ∧ k_ ≠ gb138))) (fun _ hk => hk.2) (.int .i64 t142)) (fun _ hk => hk.1)));(case aS => exact (keep_size (w := w) (g := g) (row := none) (by repeat (first|(with_reducible first|exact HK.out|apply KeepBut.set_|apply keep_drewN|apply keep_drew|apply keep_alloc | refine keep_far ?_ GW138.out _)|exact HK.out))));(case aL => have := LMc26.out; omega); intro v146 w31 ho hb hg hat; rw [← Ny145.out] at ho; have n0_ := Aside0.mk (blk_grown (g := gb138) (o := .cells #[.string (rdOf ByteArray.empty t131 x6_1), .string t135, .int .i64 x5_1, .int .i64 t142] 29 (0, 0)) (by (with_reducible repeat (first|refine blk_drewN ?_ _ | refine blk_drew ?_ | refine blk_alloc ?_ _)); refine blk_put (cs := #[.string (rdOf ByteArray.empty t131 x6_1), .string t135, .int .i64 x5_1, .int .i64 (-1)]) ?_ 3 _ rfl; (with_reducible repeat (first|refine blk_drewN ?_ _ | refine blk_drew ?_ | refine blk_alloc ?_ _)); exact BK138.out) hg (Kd.R_away HO_3.out (fun _ hk => hk))); have n1_ := Aside0.mk (IsS90.grown (by repeat (first|(with_reducible first|exact HI0.out|apply IsS90.alloc|apply IsS90.drewN|apply IsS90.drew|apply IsS90.set_1|apply IsS90.set_2|exact IsS90.far HI0.out NB0_138.out _|exact IsS90.far (IsS90.far HI0.out NB0_138.out _) NB0_138.out _|exact IsS90.far (IsS90.far (IsS90.far HI0.out NB0_138.out _) NB0_138.out _) NB0_138.out _ | refine IsS90.far ?_ NB0_138.out _)|exact HI0.out)) hg (IsS90.own_ne HI0.out HO_3.out (by decide))); have n2_ := Aside0.mk (below_weaken (by repeat (first|(with_reducible first|exact HB.out|apply below_alloc|apply pw_below_drewN|apply below_drew1 | refine below_set ?_ (IsS90.ge HI0.out) | refine below_set ?_ GE138.out)|exact HB.out)) HL.out hb); have n3_ := Aside0.mk (KeepBut.trans (by repeat (first|(with_reducible first|exact HK.out|apply KeepBut.set_|apply keep_drewN|apply keep_drew|apply keep_alloc | refine keep_far ?_ GW138.out _)|exact HK.out)) (KeepBut.of_grown hg g) (Kd.R_base2 HO_3.out)); have n4_ := Aside0.mk (ho); clear BK138; clear HI0; clear HB; clear HK; clear HO_3; have BK138 := n0_; have HI0 := n1_; have HB := n2_; have HK := n3_; have HO147 := n4_; clear n0_ n1_ n2_ n3_ n4_; clear ho hb hg hat)|((with_reducible refine gate_dst (N := 42) rfl ?_); refine Kd.R_lit (Kd.int .i64) _ 3 ?hg (N := 42) ?hd (xs := ([0, 0, 1, 10] : List Int)) (inner := [.int .i64 0, .int .i64 0, .int .i64 1, .int .i64 10]) (ok := fun _ => True) (okp := fun _ => True) ?hr ?hp (fun _ hk => hk) trivial (Below.refl _ _) (Nat.le_refl _) (by simp) ?_;(case hd => rfl);(case hg => rfl);(case hr => first|(go_simp;done)|(go_simp; rfl));(case hp => exact (Reps.one (show Kd.M (Kd.int .i64) _ _ _ 0 [.int .i64 0] from rfl) (Reps.one (show Kd.M (Kd.int .i64) _ _ _ 0 [.int .i64 0] from rfl) (Reps.one (show Kd.M (Kd.int .i64) _ _ _ 1 [.int .i64 1] from rfl) (Reps.one (show Kd.M (Kd.int .i64) _ _ _ 10 [.int .i64 10] from rfl) (Reps.none _ _)))))); intro v149 w32 ho33 hb hg_ hnew_; clear hg_ hnew_; (first|rw [← Ny148.out] at ho33|(simp only [Int.reduceToNat] at ho33; rw [← Ny148.out] at ho33)); have n0_ := Aside0.mk (Kd.R_below (by (with_reducible repeat (first|apply Kd.R_alloc|apply Kd.R_drewN|apply Kd.R_drew)); exact HO147.out) hb); have n1_ := Aside0.mk (Kd.R_lower ho33 (keep_size (w := w) (g := g) (row := none) (by repeat (first|(with_reducible first|exact HK.out|apply KeepBut.set_|apply keep_drewN|apply keep_drew|apply keep_alloc | refine keep_far ?_ GW138.out _)|exact HK.out)))); have n2_ := Aside0.mk (blk_below (g := gb138) (o := .cells #[.string (rdOf ByteArray.empty t131 x6_1), .string t135, .int .i64 x5_1, .int .i64 t142] 29 (0, 0)) (by (with_reducible repeat (first|refine blk_drewN ?_ _ | refine blk_drew ?_ | refine blk_alloc ?_ _)); exact BK138.out) hb); have n3_ := Aside0.mk (IsS90.below (by repeat (first|(with_reducible first|exact HI0.out|apply IsS90.alloc|apply IsS90.drewN|apply IsS90.drew|apply IsS90.set_1|apply IsS90.set_2|exact IsS90.far HI0.out NB0_138.out _|exact IsS90.far (IsS90.far HI0.out NB0_138.out _) NB0_138.out _|exact IsS90.far (IsS90.far (IsS90.far HI0.out NB0_138.out _) NB0_138.out _) NB0_138.out _ | refine IsS90.far ?_ NB0_138.out _)|exact HI0.out)) hb); have n4_ := Aside0.mk (KeepBut.trans (by repeat (first|(with_reducible first|exact HK.out|apply KeepBut.set_|apply keep_drewN|apply keep_drew|apply keep_alloc | refine keep_far ?_ GW138.out _)|exact HK.out)) (KeepBut.of_below hb g none) (.inl rfl)); have n5_ := Aside0.mk (below_step (by repeat (first|(with_reducible first|exact HB.out|apply below_alloc|apply pw_below_drewN|apply below_drew1 | refine below_set ?_ (IsS90.ge HI0.out) | refine below_set ?_ GE138.out)|exact HB.out)) hb); clear HO147; clear BK138; clear HI0; clear HK; clear HB; have HO147 := n0_; have HO150 := n1_; have BK138 := n2_; have HI0 := n3_; have HK := n4_; have HB := n5_; clear n0_ n1_ n2_ n3_ n4_ n5_; clear hb ho33; obtain ⟨Ao34, co34, eo34⟩ := Kd.R_slice HO150.out; subst eo34)|((with_reducible refine gate_callee (f := 72) rfl ?_); refine goesL_ (some 43) rfl rfl Try.func72 (by kernel_rfl) rfl #[.pointer (some ⟨g, 0, none⟩), .slice Ao34 y148.length co34] rfl (by (try simp only [List.map_toArray, List.map_cons, List.map_nil]); first | done | rfl|(simp only [List.length_drop, List.length_take]; rfl)) ?_; (with_reducible refine (spec_l1Cur_among.calls g s0_0 t143 t144 _ _ y148 t151 t152 t153 w0 _ ?side1 ?side2 ?side3 ?side4 ?side5 A27.out).mono ?_);(case side1 => repeat (first|(with_reducible first|exact HI0.out|apply IsS90.alloc|apply IsS90.drewN|apply IsS90.drew|apply IsS90.set_1|apply IsS90.set_2|exact IsS90.far HI0.out NB0_138.out _|exact IsS90.far (IsS90.far HI0.out NB0_138.out _) NB0_138.out _|exact IsS90.far (IsS90.far (IsS90.far HI0.out NB0_138.out _) NB0_138.out _) NB0_138.out _ | refine IsS90.far ?_ NB0_138.out _)|exact HI0.out));(case side2 => repeat (first|(with_reducible first|exact HB.out|apply below_alloc|apply pw_below_drewN|apply below_drew1 | refine below_set ?_ (IsS90.ge HI0.out) | refine below_set ?_ GE138.out)|exact HB.out));(case side3 => repeat (first|exact (Kd.R_reads' HO150.out).2.2|(with_reducible refine Kd.C_alloc ?_ _)|(with_reducible refine Kd.C_drewN ?_ _)|(with_reducible refine Kd.C_drew ?_)));(case side4 => exact (Kd.R_reads' HO150.out).2.1);(case side5 => exact far_slice (IsS90.own_ne HI0.out HO150.out (by decide))); rintro e w35 ⟨rfl, hi, hb, hk⟩; refine ⟨_, rfl, ?_⟩; have n0_ := Aside0.mk (KeepBut.blk hk (g' := gb138) (o := .cells #[.string (rdOf ByteArray.empty t131 x6_1), .string t135, .int .i64 x5_1, .int .i64 t142] 29 (0, 0)) (by (with_reducible repeat (first|refine blk_drewN ?_ _ | refine blk_drew ?_ | refine blk_alloc ?_ _)); exact BK138.out) NB138_0.out (by simp)); have n1_ := Aside0.mk (Kd.R_mono (Kd.R_keep (IsS90.apart (show IsS90 w0 _ g s0_0 t143 t144 from by repeat (first|(with_reducible first|exact HI0.out|apply IsS90.alloc|apply IsS90.drewN|apply IsS90.drew|apply IsS90.set_1|apply IsS90.set_2|exact IsS90.far HI0.out NB0_138.out _|exact IsS90.far (IsS90.far HI0.out NB0_138.out _) NB0_138.out _|exact IsS90.far (IsS90.far (IsS90.far HI0.out NB0_138.out _) NB0_138.out _) NB0_138.out _ | refine IsS90.far ?_ NB0_138.out _)|exact HI0.out)) (by (with_reducible repeat (first|apply Kd.R_alloc|apply Kd.R_drewN|apply Kd.R_drew)); exact HO147.out) (by decide)) hk (fun _ h => h.2)) (fun _ h => h.1)); have n2_ := Aside0.mk (Kd.R_mono (Kd.R_keep (IsS90.apart (show IsS90 w0 _ g s0_0 t143 t144 from by repeat (first|(with_reducible first|exact HI0.out|apply IsS90.alloc|apply IsS90.drewN|apply IsS90.drew|apply IsS90.set_1|apply IsS90.set_2|exact IsS90.far HI0.out NB0_138.out _|exact IsS90.far (IsS90.far HI0.out NB0_138.out _) NB0_138.out _|exact IsS90.far (IsS90.far (IsS90.far HI0.out NB0_138.out _) NB0_138.out _) NB0_138.out _ | refine IsS90.far ?_ NB0_138.out _)|exact HI0.out)) (by (with_reducible repeat (first|apply Kd.R_alloc|apply Kd.R_drewN|apply Kd.R_drew)); exact HO150.out) (by decide)) hk (fun _ h => h.2)) (fun _ h => h.1)); have n3_ := Aside0.mk (KeepBut.trans (by repeat (first|(with_reducible first|exact HK.out|apply KeepBut.set_|apply keep_drewN|apply keep_drew|apply keep_alloc | refine keep_far ?_ GW138.out _)|exact HK.out)) hk (.inl rfl)); have n4_ := Aside0.mk (hb); have n5_ := Aside0.mk (hi); clear BK138; clear HO147; clear HO150; clear HK; clear HB; clear HI0; have BK138 := n0_; have HO147 := n1_; have HO150 := n2_; have HK := n3_; have HB := n4_; have HI0 := n5_; clear n0_ n1_ n2_ n3_ n4_ n5_; (try clear hb); (try clear hb2); (try clear hk); (try clear hi)))
          go_roundg kj8
          case measure => have := HK1.out; have := HJ8.out; omega
          case rel => exact ⟨(y145), (wrap64 (x5_1 + t151)), (wrap64 (x6_1 + 1)), (t152), (t153), (by first | rfl|(simp;done)|(simp [*];done)), (by first | rfl|(simp;done)|(simp [*];done)), H', ⟨by have := HK1.out; have := HJ8.out; omega⟩, ⟨by (with_reducible repeat (first|apply Kd.R_alloc|apply Kd.R_drewN|apply Kd.R_drew)); exact Kd.R_mono HO147.out (fun _ hk => trivial)⟩, ⟨by repeat (first|(with_reducible first|exact HI0.out|apply IsS90.alloc|apply IsS90.drewN|apply IsS90.drew|apply IsS90.set_1|apply IsS90.set_2|exact IsS90.far HI0.out NB0_138.out _|exact IsS90.far (IsS90.far HI0.out NB0_138.out _) NB0_138.out _|exact IsS90.far (IsS90.far (IsS90.far HI0.out NB0_138.out _) NB0_138.out _) NB0_138.out _ | refine IsS90.far ?_ NB0_138.out _)|exact HI0.out)⟩, ⟨by repeat (first|(with_reducible first|exact HK.out|apply KeepBut.set_|apply keep_drewN|apply keep_drew|apply keep_alloc | refine keep_far ?_ GW138.out _)|exact HK.out)⟩, ⟨by repeat (first|(with_reducible first|exact HB.out|apply below_alloc|apply pw_below_drewN|apply below_drew1 | refine below_set ?_ (IsS90.ge HI0.out) | refine below_set ?_ GE138.out)|exact HB.out)⟩⟩
         ·rw [if_neg c26] at H
          exact absurd H (by simp)
        ·replace c24 := Bool.eq_false_iff.mpr c24
         subst c24
         have H1 : (if x3_1.length < 2932031007402 then ((spec_l1Cur_among.f s0_0 x1001_8 x1002_8 (([0, 0, 1, 10] : List Int))).bind fun bt160 => (spec_l1Cur_rolls.l0 kj8 (x3_1 ++ [(⟨(rdOf ByteArray.empty t131 x6_1), t135, x5_1, (-1)⟩ : S29)]) t128 (wrap64 (x5_1 + bt160.1)) (wrap64 (x6_1 + 1)) s0_0 bt160.2.1 bt160.2.2)) else (none)) = some (r1, r2, r3) := by rw [if_neg (show ¬ (false = true) by decide)] at H; exact H
         clear H
         have H := H1
         clear H1
         by_cases c36 : x3_1.length < 2932031007402
         ·rw [if_pos c36] at H
          have LMc36 := Aside0.mk c36
          clear c36
          obtain ⟨y154, hy154⟩ : ∃ y_ : List (S29), y_ = (x3_1 ++ [(⟨(rdOf ByteArray.empty t131 x6_1), t135, x5_1, (-1)⟩ : S29)]) := ⟨_, rfl⟩
          replace H : ((spec_l1Cur_among.f s0_0 x1001_8 x1002_8 (([0, 0, 1, 10] : List Int))).bind fun bt160 => (spec_l1Cur_rolls.l0 kj8 y154 t128 (wrap64 (x5_1 + bt160.1)) (wrap64 (x6_1 + 1)) s0_0 bt160.2.1 bt160.2.2)) = some (r1, r2, r3) := by first|(rw [hy154]; with_reducible exact H)|(have H2_ := (Option.bind_some _ _).symm.trans H; rw [hy154]; with_reducible exact H2_)|(have H2_ := (Option.bind_some _ _).symm.trans H; with_reducible exact H2_) | with_reducible exact H|(rw [hy154]; exact H)|exact H
          have Ny154 := Aside0.mk hy154
          clear hy154
          obtain ⟨y157, hy157⟩ : ∃ y_ : List Int, y_ = (([0, 0, 1, 10] : List Int)) := ⟨_, rfl⟩
          replace H : ((spec_l1Cur_among.f s0_0 x1001_8 x1002_8 y157).bind fun bt160 => (spec_l1Cur_rolls.l0 kj8 y154 t128 (wrap64 (x5_1 + bt160.1)) (wrap64 (x6_1 + 1)) s0_0 bt160.2.1 bt160.2.2)) = some (r1, r2, r3) := by first|(rw [hy157]; with_reducible exact H)|(have H2_ := (Option.bind_some _ _).symm.trans H; rw [hy157]; with_reducible exact H2_)|(have H2_ := (Option.bind_some _ _).symm.trans H; with_reducible exact H2_) | with_reducible exact H|(rw [hy157]; exact H)|exact H
          have Ny157 := Aside0.mk hy157
          clear hy157
          replace H := Option.bind_eq_some_iff.mp H
          obtain ⟨⟨t160, t161, t162⟩, A370, H⟩ := H
          try dsimp only at H
          have A37 := Aside0.mk A370
          clear A370
          have H' := Aside0.mk H
          clear H
          have hnb38 := NB138_0.out
          have hnc38 := NB0_138.out
          have hcz39_0 : wc.cell? ⟨gb138, 0, none⟩ = some (.string (rdOf ByteArray.empty t131 x6_1)) := (blk_cell BK138.out 0).trans rfl
          have hcz39_1 : wc.cell? ⟨gb138, 1, none⟩ = some (.string t135) := (blk_cell BK138.out 1).trans rfl
          have hcz39_2 : wc.cell? ⟨gb138, 2, none⟩ = some (.int .i64 x5_1) := (blk_cell BK138.out 2).trans rfl
          have hcz39_3 : wc.cell? ⟨gb138, 3, none⟩ = some (.int .i64 (-1)) := (blk_cell BK138.out 3).trans rfl
          have hfz39_0 := blk_frozen BK138.out 0
          have hfz39_1 := blk_frozen BK138.out 1
          have hfz39_2 := blk_frozen BK138.out 2
          have hfz39_3 := blk_frozen BK138.out 3
          go_wp2_with (first|((with_reducible refine gate_builtin (b := .append) (xs := #[.tmp 36, .tmp 38]) rfl ?_); at_builtin; refine Kd.R_append k29 w.heap.size rfl (.tmp 36) (.tmp 38) 23 29 (.agg #[(.string ⟨#[]⟩), (.string ⟨#[]⟩), (.int .i64 0), (.int .i64 0)]) 48 rfl Try.underlying23 info29 rfl (by decide) (by omega) u3 x3_1 (⟨(rdOf ByteArray.empty t131 x6_1), t135, x5_1, (-1)⟩ : S29) [.string (rdOf ByteArray.empty t131 x6_1), .string t135, .int .i64 x5_1, .int .i64 (-1)] (fun k_ => k_ ≠ gb138) (fun _ => False) rfl rfl ?aP (fun _ hk => hk.elim) ?aF ?aO (Below.refl _ _) ?aS ?aL ?_;(case aP => exact k29_mkM _ _ _ (⟨(rdOf ByteArray.empty t131 x6_1), t135, x5_1, (-1)⟩ : S29));(case aF => exact (fun k_ hk => Kd.freshB (g := gb138) (o := .cells #[.string (rdOf ByteArray.empty t131 x6_1), .string t135, .int .i64 x5_1, .int .i64 (-1)] 29 (0, 0)) (by (with_reducible repeat (first|refine blk_drewN ?_ _ | refine blk_drew ?_ | refine blk_alloc ?_ _)); exact BK138.out) k_ hk));(case aO => exact (by (with_reducible repeat (first|apply Kd.R_alloc|apply Kd.R_drewN|apply Kd.R_drew)); exact HO_3.out));(case aS => exact (keep_size (w := w) (g := g) (row := none) (by repeat (first|(with_reducible first|exact HK.out|apply KeepBut.set_|apply keep_drewN|apply keep_drew|apply keep_alloc | refine keep_far ?_ GW138.out _)|exact HK.out))));(case aL => have := LMc36.out; omega); intro v155 w40 ho hb hg hat; rw [← Ny154.out] at ho; have n0_ := Aside0.mk (blk_grown (g := gb138) (o := .cells #[.string (rdOf ByteArray.empty t131 x6_1), .string t135, .int .i64 x5_1, .int .i64 (-1)] 29 (0, 0)) (by (with_reducible repeat (first|refine blk_drewN ?_ _ | refine blk_drew ?_ | refine blk_alloc ?_ _)); exact BK138.out) hg (Kd.R_away HO_3.out (fun _ hk => hk))); have n1_ := Aside0.mk (IsS90.grown (by repeat (first|(with_reducible first|exact HI0.out|apply IsS90.alloc|apply IsS90.drewN|apply IsS90.drew|apply IsS90.set_1|apply IsS90.set_2|exact IsS90.far HI0.out NB0_138.out _|exact IsS90.far (IsS90.far HI0.out NB0_138.out _) NB0_138.out _|exact IsS90.far (IsS90.far (IsS90.far HI0.out NB0_138.out _) NB0_138.out _) NB0_138.out _ | refine IsS90.far ?_ NB0_138.out _)|exact HI0.out)) hg (IsS90.own_ne HI0.out HO_3.out (by decide))); have n2_ := Aside0.mk (below_weaken (by repeat (first|(with_reducible first|exact HB.out|apply below_alloc|apply pw_below_drewN|apply below_drew1 | refine below_set ?_ (IsS90.ge HI0.out) | refine below_set ?_ GE138.out)|exact HB.out)) HL.out hb); have n3_ := Aside0.mk (KeepBut.trans (by repeat (first|(with_reducible first|exact HK.out|apply KeepBut.set_|apply keep_drewN|apply keep_drew|apply keep_alloc | refine keep_far ?_ GW138.out _)|exact HK.out)) (KeepBut.of_grown hg g) (Kd.R_base2 HO_3.out)); have n4_ := Aside0.mk (ho); clear BK138; clear HI0; clear HB; clear HK; clear HO_3; have BK138 := n0_; have HI0 := n1_; have HB := n2_; have HK := n3_; have HO156 := n4_; clear n0_ n1_ n2_ n3_ n4_; clear ho hb hg hat)|((with_reducible refine gate_dst (N := 42) rfl ?_); refine Kd.R_lit (Kd.int .i64) _ 3 ?hg (N := 42) ?hd (xs := ([0, 0, 1, 10] : List Int)) (inner := [.int .i64 0, .int .i64 0, .int .i64 1, .int .i64 10]) (ok := fun _ => True) (okp := fun _ => True) ?hr ?hp (fun _ hk => hk) trivial (Below.refl _ _) (Nat.le_refl _) (by simp) ?_;(case hd => rfl);(case hg => rfl);(case hr => first|(go_simp;done)|(go_simp; rfl));(case hp => exact (Reps.one (show Kd.M (Kd.int .i64) _ _ _ 0 [.int .i64 0] from rfl) (Reps.one (show Kd.M (Kd.int .i64) _ _ _ 0 [.int .i64 0] from rfl) (Reps.one (show Kd.M (Kd.int .i64) _ _ _ 1 [.int .i64 1] from rfl) (Reps.one (show Kd.M (Kd.int .i64) _ _ _ 10 [.int .i64 10] from rfl) (Reps.none _ _)))))); intro v158 w41 ho42 hb hg_ hnew_; clear hg_ hnew_; (first|rw [← Ny157.out] at ho42|(simp only [Int.reduceToNat] at ho42; rw [← Ny157.out] at ho42)); have n0_ := Aside0.mk (Kd.R_below (by (with_reducible repeat (first|apply Kd.R_alloc|apply Kd.R_drewN|apply Kd.R_drew)); exact HO156.out) hb); have n1_ := Aside0.mk (Kd.R_lower ho42 (keep_size (w := w) (g := g) (row := none) (by repeat (first|(with_reducible first|exact HK.out|apply KeepBut.set_|apply keep_drewN|apply keep_drew|apply keep_alloc | refine keep_far ?_ GW138.out _)|exact HK.out)))); have n2_ := Aside0.mk (blk_below (g := gb138) (o := .cells #[.string (rdOf ByteArray.empty t131 x6_1), .string t135, .int .i64 x5_1, .int .i64 (-1)] 29 (0, 0)) (by (with_reducible repeat (first|refine blk_drewN ?_ _ | refine blk_drew ?_ | refine blk_alloc ?_ _)); exact BK138.out) hb); have n3_ := Aside0.mk (IsS90.below (by repeat (first|(with_reducible first|exact HI0.out|apply IsS90.alloc|apply IsS90.drewN|apply IsS90.drew|apply IsS90.set_1|apply IsS90.set_2|exact IsS90.far HI0.out NB0_138.out _|exact IsS90.far (IsS90.far HI0.out NB0_138.out _) NB0_138.out _|exact IsS90.far (IsS90.far (IsS90.far HI0.out NB0_138.out _) NB0_138.out _) NB0_138.out _ | refine IsS90.far ?_ NB0_138.out _)|exact HI0.out)) hb); have n4_ := Aside0.mk (KeepBut.trans (by repeat (first|(with_reducible first|exact HK.out|apply KeepBut.set_|apply keep_drewN|apply keep_drew|apply keep_alloc | refine keep_far ?_ GW138.out _)|exact HK.out)) (KeepBut.of_below hb g none) (.inl rfl)); have n5_ := Aside0.mk (below_step (by repeat (first|(with_reducible first|exact HB.out|apply below_alloc|apply pw_below_drewN|apply below_drew1 | refine below_set ?_ (IsS90.ge HI0.out) | refine below_set ?_ GE138.out)|exact HB.out)) hb); clear HO156; clear BK138; clear HI0; clear HK; clear HB; have HO156 := n0_; have HO159 := n1_; have BK138 := n2_; have HI0 := n3_; have HK := n4_; have HB := n5_; clear n0_ n1_ n2_ n3_ n4_ n5_; clear hb ho42; obtain ⟨Ao43, co43, eo43⟩ := Kd.R_slice HO159.out; subst eo43)|((with_reducible refine gate_callee (f := 72) rfl ?_); refine goesL_ (some 43) rfl rfl Try.func72 (by kernel_rfl) rfl #[.pointer (some ⟨g, 0, none⟩), .slice Ao43 y157.length co43] rfl (by (try simp only [List.map_toArray, List.map_cons, List.map_nil]); first | done | rfl|(simp only [List.length_drop, List.length_take]; rfl)) ?_; (with_reducible refine (spec_l1Cur_among.calls g s0_0 x1001_8 x1002_8 _ _ y157 t160 t161 t162 w0 _ ?side1 ?side2 ?side3 ?side4 ?side5 A37.out).mono ?_);(case side1 => repeat (first|(with_reducible first|exact HI0.out|apply IsS90.alloc|apply IsS90.drewN|apply IsS90.drew|apply IsS90.set_1|apply IsS90.set_2|exact IsS90.far HI0.out NB0_138.out _|exact IsS90.far (IsS90.far HI0.out NB0_138.out _) NB0_138.out _|exact IsS90.far (IsS90.far (IsS90.far HI0.out NB0_138.out _) NB0_138.out _) NB0_138.out _ | refine IsS90.far ?_ NB0_138.out _)|exact HI0.out));(case side2 => repeat (first|(with_reducible first|exact HB.out|apply below_alloc|apply pw_below_drewN|apply below_drew1 | refine below_set ?_ (IsS90.ge HI0.out) | refine below_set ?_ GE138.out)|exact HB.out));(case side3 => repeat (first|exact (Kd.R_reads' HO159.out).2.2|(with_reducible refine Kd.C_alloc ?_ _)|(with_reducible refine Kd.C_drewN ?_ _)|(with_reducible refine Kd.C_drew ?_)));(case side4 => exact (Kd.R_reads' HO159.out).2.1);(case side5 => exact far_slice (IsS90.own_ne HI0.out HO159.out (by decide))); rintro e w44 ⟨rfl, hi, hb, hk⟩; refine ⟨_, rfl, ?_⟩; have n0_ := Aside0.mk (KeepBut.blk hk (g' := gb138) (o := .cells #[.string (rdOf ByteArray.empty t131 x6_1), .string t135, .int .i64 x5_1, .int .i64 (-1)] 29 (0, 0)) (by (with_reducible repeat (first|refine blk_drewN ?_ _ | refine blk_drew ?_ | refine blk_alloc ?_ _)); exact BK138.out) NB138_0.out (by simp)); have n1_ := Aside0.mk (Kd.R_mono (Kd.R_keep (IsS90.apart (show IsS90 w0 _ g s0_0 x1001_8 x1002_8 from by repeat (first|(with_reducible first|exact HI0.out|apply IsS90.alloc|apply IsS90.drewN|apply IsS90.drew|apply IsS90.set_1|apply IsS90.set_2|exact IsS90.far HI0.out NB0_138.out _|exact IsS90.far (IsS90.far HI0.out NB0_138.out _) NB0_138.out _|exact IsS90.far (IsS90.far (IsS90.far HI0.out NB0_138.out _) NB0_138.out _) NB0_138.out _ | refine IsS90.far ?_ NB0_138.out _)|exact HI0.out)) (by (with_reducible repeat (first|apply Kd.R_alloc|apply Kd.R_drewN|apply Kd.R_drew)); exact HO156.out) (by decide)) hk (fun _ h => h.2)) (fun _ h => h.1)); have n2_ := Aside0.mk (Kd.R_mono (Kd.R_keep (IsS90.apart (show IsS90 w0 _ g s0_0 x1001_8 x1002_8 from by repeat (first|(with_reducible first|exact HI0.out|apply IsS90.alloc|apply IsS90.drewN|apply IsS90.drew|apply IsS90.set_1|apply IsS90.set_2|exact IsS90.far HI0.out NB0_138.out _|exact IsS90.far (IsS90.far HI0.out NB0_138.out _) NB0_138.out _|exact IsS90.far (IsS90.far (IsS90.far HI0.out NB0_138.out _) NB0_138.out _) NB0_138.out _ | refine IsS90.far ?_ NB0_138.out _)|exact HI0.out)) (by (with_reducible repeat (first|apply Kd.R_alloc|apply Kd.R_drewN|apply Kd.R_drew)); exact HO159.out) (by decide)) hk (fun _ h => h.2)) (fun _ h => h.1)); have n3_ := Aside0.mk (KeepBut.trans (by repeat (first|(with_reducible first|exact HK.out|apply KeepBut.set_|apply keep_drewN|apply keep_drew|apply keep_alloc | refine keep_far ?_ GW138.out _)|exact HK.out)) hk (.inl rfl)); have n4_ := Aside0.mk (hb); have n5_ := Aside0.mk (hi); clear BK138; clear HO156; clear HO159; clear HK; clear HB; clear HI0; have BK138 := n0_; have HO156 := n1_; have HO159 := n2_; have HK := n3_; have HB := n4_; have HI0 := n5_; clear n0_ n1_ n2_ n3_ n4_ n5_; (try clear hb); (try clear hb2); (try clear hk); (try clear hi)))
          go_roundg kj8
          case measure => have := HK1.out; have := HJ8.out; omega
          case rel => exact ⟨(y154), (wrap64 (x5_1 + t160)), (wrap64 (x6_1 + 1)), (t161), (t162), (by first | rfl|(simp;done)|(simp [*];done)), (by first | rfl|(simp;done)|(simp [*];done)), H', ⟨by have := HK1.out; have := HJ8.out; omega⟩, ⟨by (with_reducible repeat (first|apply Kd.R_alloc|apply Kd.R_drewN|apply Kd.R_drew)); exact Kd.R_mono HO156.out (fun _ hk => trivial)⟩, ⟨by repeat (first|(with_reducible first|exact HI0.out|apply IsS90.alloc|apply IsS90.drewN|apply IsS90.drew|apply IsS90.set_1|apply IsS90.set_2|exact IsS90.far HI0.out NB0_138.out _|exact IsS90.far (IsS90.far HI0.out NB0_138.out _) NB0_138.out _|exact IsS90.far (IsS90.far (IsS90.far HI0.out NB0_138.out _) NB0_138.out _) NB0_138.out _ | refine IsS90.far ?_ NB0_138.out _)|exact HI0.out)⟩, ⟨by repeat (first|(with_reducible first|exact HK.out|apply KeepBut.set_|apply keep_drewN|apply keep_drew|apply keep_alloc | refine keep_far ?_ GW138.out _)|exact HK.out)⟩, ⟨by repeat (first|(with_reducible first|exact HB.out|apply below_alloc|apply pw_below_drewN|apply below_drew1 | refine below_set ?_ (IsS90.ge HI0.out) | refine below_set ?_ GE138.out)|exact HB.out)⟩⟩
         ·rw [if_neg c36] at H
          exact absurd H (by simp)
     ·rw [if_neg c7] at H
      exact absurd H (by simp)
    ·rw [if_neg c6] at H
     exact absurd H (by simp)
   ·rw [if_neg c4] at H
    have c4b0 : decide (x6_1 < t128) = false := decide_eq_false c4
    clear c4
    replace H := Option.bind_eq_some_iff.mp H
    obtain ⟨⟨t163, t164, t165⟩, A450, H⟩ := H
    try dsimp only at H
    have A45 := Aside0.mk A450
    clear A450
    have HC46 := Aside0.mk H
    clear H
    go_upto_if 46 with (first|((with_reducible refine gate_callee (f := 90) rfl ?_); refine goesL_ (some 46) rfl rfl Try.func90 (by kernel_rfl) rfl #[.pointer (some ⟨g, 0, none⟩), .int .i64 20] rfl (by (try simp only [List.map_toArray, List.map_cons, List.map_nil]); first | done | rfl|(simp only [List.length_drop, List.length_take]; rfl)) ?_; (with_reducible refine (spec_l1Cur_one.calls g s0_0 x1001_1 x1002_1 20 t163 t164 t165 w0 _ ?side1 ?side2 A45.out).mono ?_);(case side1 => repeat (first|(with_reducible first|exact HI0.out|apply IsS90.alloc|apply IsS90.drewN|apply IsS90.drew|apply IsS90.set_1|apply IsS90.set_2)|exact HI0.out));(case side2 => repeat (first|(with_reducible first|exact HB.out|apply below_alloc|apply pw_below_drewN|apply below_drew1 | refine below_set ?_ (IsS90.ge HI0.out))|exact HB.out)); rintro e w47 ⟨rfl, hi, hb, hk⟩; refine ⟨_, rfl, ?_⟩; have n0_ := Aside0.mk (Kd.R_mono (Kd.R_keep (IsS90.apart (show IsS90 w0 _ g s0_0 x1001_1 x1002_1 from by repeat (first|(with_reducible first|exact HI0.out|apply IsS90.alloc|apply IsS90.drewN|apply IsS90.drew|apply IsS90.set_1|apply IsS90.set_2)|exact HI0.out)) (by (with_reducible repeat (first|apply Kd.R_alloc|apply Kd.R_drewN|apply Kd.R_drew)); exact HO_3.out) (by decide)) hk (fun _ h => h.2)) (fun _ h => h.1)); have n1_ := Aside0.mk (KeepBut.trans (by repeat (first|(with_reducible first|exact HK.out|apply KeepBut.set_|apply keep_drewN|apply keep_drew|apply keep_alloc)|exact HK.out)) hk (.inl rfl)); have n2_ := Aside0.mk (hb); have n3_ := Aside0.mk (hi); clear HO_3; clear HK; clear HB; clear HI0; have HO_3 := n0_; have HK := n1_; have HB := n2_; have HI0 := n3_; clear n0_ n1_ n2_ n3_; (try clear hb); (try clear hb2); (try clear hk); (try clear hi)))
    (try simp only [Act.put, List.setIfInBounds_toArray, List.set_cons_zero, List.set_cons_succ])
    go_cut [3] (fun v3 wc => ∃ (kq : Nat) (x3_45 : List (S29)) (x1001_45 : Int) (x1002_45 : Int), Aside0 (spec_l1Cur_rolls.j3 kq x3_45 s0_0 x1001_45 x1002_45 = some (r1, r2, r3)) ∧ Aside0 (kq ≤ k1) ∧ Aside0 (Kd.R k29 29 wc w.heap.size (fun _ => True) v3 x3_45) ∧ Aside0 (IsS90 w0 wc g s0_0 x1001_45 x1002_45) ∧ Aside0 (KeepBut w wc g none) ∧ Aside0 (Below w0.heap.size w0 wc))
    case first =>
     have H := HC46.out
     clear HC46
     by_cases c48 : t163 = true
     ·subst c48
      have H1 : ((spec_l1Cur_pick.f s0_0 t164 t165 2).bind fun bt166 => (spec_l1Cur_rolls.l1 k1 ([] : List (S29)) (wrap64 (30 + bt166.1)) s0_0 bt166.2.1 bt166.2.2)) = some (r1, r2, r3) := by rw [if_pos rfl] at H; exact H
      clear H
      have H := H1
      clear H1
      replace H := Option.bind_eq_some_iff.mp H
      obtain ⟨⟨t166, t167, t168⟩, A490, H⟩ := H
      try dsimp only at H
      have A49 := Aside0.mk A490
      clear A490
      have H' := Aside0.mk H
      clear H
      go_wp2_with (first|((with_reducible refine gate_callee (f := 89) rfl ?_); refine goesL_ (some 48) rfl rfl Try.func89 (by kernel_rfl) rfl #[.pointer (some ⟨g, 0, none⟩), .int .i64 2] rfl (by (try simp only [List.map_toArray, List.map_cons, List.map_nil]); first | done | rfl|(simp only [List.length_drop, List.length_take]; rfl)) ?_; (with_reducible refine (spec_l1Cur_pick.calls g s0_0 t164 t165 2 t166 t167 t168 w0 _ ?side1 ?side2 A49.out).mono ?_);(case side1 => repeat (first|(with_reducible first|exact HI0.out|apply IsS90.alloc|apply IsS90.drewN|apply IsS90.drew|apply IsS90.set_1|apply IsS90.set_2)|exact HI0.out));(case side2 => repeat (first|(with_reducible first|exact HB.out|apply below_alloc|apply pw_below_drewN|apply below_drew1 | refine below_set ?_ (IsS90.ge HI0.out))|exact HB.out)); rintro e w50 ⟨rfl, hi, hb, hk⟩; refine ⟨_, rfl, ?_⟩; have n0_ := Aside0.mk (Kd.R_mono (Kd.R_keep (IsS90.apart (show IsS90 w0 _ g s0_0 t164 t165 from by repeat (first|(with_reducible first|exact HI0.out|apply IsS90.alloc|apply IsS90.drewN|apply IsS90.drew|apply IsS90.set_1|apply IsS90.set_2)|exact HI0.out)) (by (with_reducible repeat (first|apply Kd.R_alloc|apply Kd.R_drewN|apply Kd.R_drew)); exact HO_3.out) (by decide)) hk (fun _ h => h.2)) (fun _ h => h.1)); have n1_ := Aside0.mk (KeepBut.trans (by repeat (first|(with_reducible first|exact HK.out|apply KeepBut.set_|apply keep_drewN|apply keep_drew|apply keep_alloc)|exact HK.out)) hk (.inl rfl)); have n2_ := Aside0.mk (hb); have n3_ := Aside0.mk (hi); clear HO_3; clear HK; clear HB; clear HI0; have HO_3 := n0_; have HK := n1_; have HB := n2_; have HI0 := n3_; clear n0_ n1_ n2_ n3_; (try clear hb); (try clear hb2); (try clear hk); (try clear hi)))
      go_loopg [3] k1 (fun kq v3 w' => ∃ (x3_2 : List (S29)), Aside0 (spec_l1Cur_rolls.l1 kq x3_2 (wrap64 (30 + t166)) s0_0 t167 t168 = some (r1, r2, r3)) ∧ Aside0 (kq ≤ k1) ∧ Aside0 (Kd.R k29 29 w' w.heap.size (fun _ => True) v3 x3_2) ∧ Aside0 (IsS90 w0 w' g s0_0 t167 t168) ∧ Aside0 (KeepBut w w' g none) ∧ Aside0 (Below w0.heap.size w0 w'))
      case atStart => exact ⟨(([] : List (S29))), H', ⟨Nat.le_refl _⟩, ⟨by first|exact Kd.R_nil _ _ _ _ _|exact Kd.N_nil _ _ _ _ _|exact Kd.V_nil _ _ _ _ _|exact Kd.Q_nil _ _ _ _ _|exact Kd.S_nil _ _ _ _ _⟩, ⟨by repeat (first|(with_reducible first|exact HI0.out|apply IsS90.alloc|apply IsS90.drewN|apply IsS90.drew|apply IsS90.set_1|apply IsS90.set_2)|exact HI0.out)⟩, ⟨by repeat (first|(with_reducible first|exact HK.out|apply KeepBut.set_|apply keep_drewN|apply keep_drew|apply keep_alloc)|exact HK.out)⟩, ⟨by repeat (first|(with_reducible first|exact HB.out|apply below_alloc|apply pw_below_drewN|apply below_drew1 | refine below_set ?_ (IsS90.ge HI0.out))|exact HB.out)⟩⟩
      case round =>
       clear H'
       try clear p1
       try clear q1
       try clear hx1
       try clear c2
       try clear p2
       try clear c3
       try clear c4
       try clear c4b0
       try clear c6
       try clear p6
       try clear c7
       try clear c8
       try clear c9
       try clear p13
       try clear q13
       try clear hx13
       try clear c21
       try clear c21b0
       try clear c24
       try clear c26
       try clear c29
       try clear c36
       try clear c38
       try clear c48
       try clear hcz30_0
       try clear hcz30_1
       try clear hcz30_2
       try clear hcz30_3
       try clear hcz39_0
       try clear hcz39_1
       try clear hcz39_2
       try clear hcz39_3
       try clear hfz30_0
       try clear hfz30_1
       try clear hfz30_2
       try clear hfz30_3
       try clear hfz39_0
       try clear hfz39_1
       try clear hfz39_2
       try clear hfz39_3
       try clear hx134_0
       try clear p1
       try clear p13
       try clear p134
       try clear p2
       try clear q1
       try clear q13
       try clear q134
       obtain ⟨x3_2, HA, HK2, HO_3, HI0, HK, HB⟩ := hrel
       cases gk with
       | zero => exact absurd HA.out (by simp [spec_l1Cur_rolls.l1])
       | succ k2 =>
        have H := HA.out
        clear HA
        simp only [spec_l1Cur_rolls.l1] at H
        by_cases c51 : (x3_2.length : Int) < (wrap64 (30 + t166))
        ·rw [if_pos c51] at H
         have c51b0 : decide ((x3_2.length : Int) < (wrap64 (30 + t166))) = true := decide_eq_true c51
         clear c51
         (first|rw [c51b0]|(simp only [i64_w, i32_w]; rw [c51b0]) | skip)
         obtain ⟨y169, hy169⟩ : ∃ y_ : List Int, y_ = (([97 + ((x3_2.length : Int) % 26), (wrap64 (97 + (wrap64 ((x3_2.length : Int) / 26)))) % 256] : List Int)) := ⟨_, rfl⟩
         replace H : (if 1 + (strOfNums y169).size ≤ 9223372036854775807 then (if x3_2.length < 2932031007402 then (spec_l1Cur_rolls.l1 k2 (x3_2 ++ [(⟨(⟨#[120]⟩ : ByteArray) ++ (strOfNums y169), (⟨#[119, 101, 108, 116, 101]⟩ : ByteArray), 1900, wrap64 ((x3_2.length : Int) - 1)⟩ : S29)]) (wrap64 (30 + t166)) s0_0 t167 t168) else (none)) else (none)) = some (r1, r2, r3) := by first|(rw [hy169]; with_reducible exact H)|(have H2_ := (Option.bind_some _ _).symm.trans H; rw [hy169]; with_reducible exact H2_)|(have H2_ := (Option.bind_some _ _).symm.trans H; with_reducible exact H2_) | with_reducible exact H|(rw [hy169]; exact H)|exact H
         have Ny169 := Aside0.mk hy169
         clear hy169
         by_cases c52 : 1 + (strOfNums y169).size ≤ 9223372036854775807
         ·rw [if_pos c52] at H
          have c52b0 := eq_true c52
          have c52b1 : decide (1 + (strOfNums y169).size ≤ 9223372036854775807) = true := decide_eq_true c52
          try have c52b2 : (9223372036854775807 < 1 + (strOfNums y169).size) = False := eq_false (Nat.not_lt.2 c52)
          by_cases c53 : x3_2.length < 2932031007402
          ·rw [if_pos c53] at H
           have LMc53 := Aside0.mk c53
           clear c53
           obtain ⟨y172, hy172⟩ : ∃ y_ : List (S29), y_ = (x3_2 ++ [(⟨(⟨#[120]⟩ : ByteArray) ++ (strOfNums y169), (⟨#[119, 101, 108, 116, 101]⟩ : ByteArray), 1900, wrap64 ((x3_2.length : Int) - 1)⟩ : S29)]) := ⟨_, rfl⟩
           replace H : (spec_l1Cur_rolls.l1 k2 y172 (wrap64 (30 + t166)) s0_0 t167 t168) = some (r1, r2, r3) := by first|(rw [hy172]; with_reducible exact H)|(have H2_ := (Option.bind_some _ _).symm.trans H; rw [hy172]; with_reducible exact H2_)|(have H2_ := (Option.bind_some _ _).symm.trans H; with_reducible exact H2_) | with_reducible exact H|(rw [hy172]; exact H)|exact H
           have Ny172 := Aside0.mk hy172
           clear hy172
           have H' := Aside0.mk H
           clear H
           obtain ⟨Ao54, co54, eo54⟩ := Kd.R_slice HO_3.out
           subst eo54
           go_wp2_with (first|((with_reducible refine gate_dst (N := 65) rfl ?_); refine Kd.R_lit (Kd.int .u8) _ 5 ?hg (N := 65) ?hd (xs := ([97 + ((x3_2.length : Int) % 26), (wrap64 (97 + (wrap64 ((x3_2.length : Int) / 26)))) % 256] : List Int)) (inner := [.int .u8 (97 + ((x3_2.length : Int) % 26)), .int .u8 ((wrap64 (97 + (wrap64 ((x3_2.length : Int) / 26)))) % 256)]) (ok := fun _ => True) (okp := fun _ => True) ?hr ?hp (fun _ hk => hk) trivial (Below.refl _ _) (Nat.le_refl _) (by simp) ?_;(case hd => rfl);(case hg => rfl);(case hr => first|(go_simp;done)|(go_simp; rfl));(case hp => exact (Reps.one (show Kd.M (Kd.int .u8) _ _ _ (97 + ((x3_2.length : Int) % 26)) [.int .u8 (97 + ((x3_2.length : Int) % 26))] from rfl) (Reps.one (show Kd.M (Kd.int .u8) _ _ _ ((wrap64 (97 + (wrap64 ((x3_2.length : Int) / 26)))) % 256) [.int .u8 ((wrap64 (97 + (wrap64 ((x3_2.length : Int) / 26)))) % 256)] from rfl) (Reps.none _ _)))); intro v170 w55 ho56 hb hg_ hnew_; clear hg_ hnew_; (first|rw [← Ny169.out] at ho56|(simp only [Int.reduceToNat] at ho56; rw [← Ny169.out] at ho56)); have n0_ := Aside0.mk (Kd.R_below (by (with_reducible repeat (first|apply Kd.R_alloc|apply Kd.R_drewN|apply Kd.R_drew)); exact HO_3.out) hb); have n1_ := Aside0.mk (Kd.R_lower ho56 (keep_size (w := w) (g := g) (row := none) (by repeat (first|(with_reducible first|exact HK.out|apply KeepBut.set_|apply keep_drewN|apply keep_drew|apply keep_alloc)|exact HK.out)))); have n2_ := Aside0.mk (IsS90.below (by repeat (first|(with_reducible first|exact HI0.out|apply IsS90.alloc|apply IsS90.drewN|apply IsS90.drew|apply IsS90.set_1|apply IsS90.set_2)|exact HI0.out)) hb); have n3_ := Aside0.mk (KeepBut.trans (by repeat (first|(with_reducible first|exact HK.out|apply KeepBut.set_|apply keep_drewN|apply keep_drew|apply keep_alloc)|exact HK.out)) (KeepBut.of_below hb g none) (.inl rfl)); have n4_ := Aside0.mk (below_step (by repeat (first|(with_reducible first|exact HB.out|apply below_alloc|apply pw_below_drewN|apply below_drew1 | refine below_set ?_ (IsS90.ge HI0.out))|exact HB.out)) hb); clear HO_3; clear HI0; clear HK; clear HB; have HO_3 := n0_; have HO171 := n1_; have HI0 := n2_; have HK := n3_; have HB := n4_; clear n0_ n1_ n2_ n3_ n4_; clear hb ho56; have hcv57 := own_string (P := Try.prog) Try.underlying22 Try.underlying5 Try.underlying9 (Kd.own_of_R HO171.out))|((with_reducible refine gate_builtin (b := .append) (xs := #[.tmp 54, .tmp 72]) rfl ?_); at_builtin; refine Kd.R_append k29 w.heap.size rfl (.tmp 54) (.tmp 72) 23 29 (.agg #[(.string ⟨#[]⟩), (.string ⟨#[]⟩), (.int .i64 0), (.int .i64 0)]) 48 rfl Try.underlying23 info29 rfl (by decide) (by omega) (.slice Ao54 x3_2.length co54) x3_2 (⟨(⟨#[120]⟩ : ByteArray) ++ (strOfNums y169), (⟨#[119, 101, 108, 116, 101]⟩ : ByteArray), 1900, wrap64 ((x3_2.length : Int) - 1)⟩ : S29) [.string ((⟨#[120]⟩ : ByteArray) ++ (strOfNums y169)), .string (⟨#[119, 101, 108, 116, 101]⟩ : ByteArray), .int .i64 1900, .int .i64 (wrap64 ((x3_2.length : Int) - 1))] (fun _ => True) (fun _ => False) rfl rfl ?aP (fun _ hk => hk.elim) ?aF ?aO (Below.refl _ _) ?aS ?aL ?_;(case aP => exact k29_mkM _ _ _ (⟨(⟨#[120]⟩ : ByteArray) ++ (strOfNums y169), (⟨#[119, 101, 108, 116, 101]⟩ : ByteArray), 1900, wrap64 ((x3_2.length : Int) - 1)⟩ : S29));(case aF => exact (fun _ _ => trivial));(case aO => exact (by (with_reducible repeat (first|apply Kd.R_alloc|apply Kd.R_drewN|apply Kd.R_drew)); exact HO_3.out));(case aS => exact (keep_size (w := w) (g := g) (row := none) (by repeat (first|(with_reducible first|exact HK.out|apply KeepBut.set_|apply keep_drewN|apply keep_drew|apply keep_alloc)|exact HK.out))));(case aL => have := LMc53.out; omega); intro v173 w58 ho hb hg hat; rw [← Ny172.out] at ho; have n0_ := Aside0.mk (IsS90.grown (by repeat (first|(with_reducible first|exact HI0.out|apply IsS90.alloc|apply IsS90.drewN|apply IsS90.drew|apply IsS90.set_1|apply IsS90.set_2)|exact HI0.out)) hg (IsS90.own_ne HI0.out HO_3.out (by decide))); have n1_ := Aside0.mk (Kd.R_over' (by (with_reducible repeat (first|apply Kd.R_alloc|apply Kd.R_drewN|apply Kd.R_drew)); exact HO171.out) (Kd.R_typed (by (with_reducible repeat (first|apply Kd.R_alloc|apply Kd.R_drewN|apply Kd.R_drew)); exact HO_3.out)) (by decide) hg); have n2_ := Aside0.mk (below_weaken (by repeat (first|(with_reducible first|exact HB.out|apply below_alloc|apply pw_below_drewN|apply below_drew1 | refine below_set ?_ (IsS90.ge HI0.out))|exact HB.out)) HL.out hb); have n3_ := Aside0.mk (KeepBut.trans (by repeat (first|(with_reducible first|exact HK.out|apply KeepBut.set_|apply keep_drewN|apply keep_drew|apply keep_alloc)|exact HK.out)) (KeepBut.of_grown hg g) (Kd.R_base2 HO_3.out)); have n4_ := Aside0.mk (ho); clear HI0; clear HO171; clear HB; clear HK; clear HO_3; have HI0 := n0_; have HO171 := n1_; have HB := n2_; have HK := n3_; have HO174 := n4_; clear n0_ n1_ n2_ n3_ n4_; clear ho hb hg hat))
           go_roundg k2
           case measure => have := HK1.out; have := HK2.out; omega
           case rel => exact ⟨(y172), H', ⟨by have := HK1.out; have := HK2.out; omega⟩, ⟨by (with_reducible repeat (first|apply Kd.R_alloc|apply Kd.R_drewN|apply Kd.R_drew)); exact HO174.out⟩, ⟨by repeat (first|(with_reducible first|exact HI0.out|apply IsS90.alloc|apply IsS90.drewN|apply IsS90.drew|apply IsS90.set_1|apply IsS90.set_2)|exact HI0.out)⟩, ⟨by repeat (first|(with_reducible first|exact HK.out|apply KeepBut.set_|apply keep_drewN|apply keep_drew|apply keep_alloc)|exact HK.out)⟩, ⟨by repeat (first|(with_reducible first|exact HB.out|apply below_alloc|apply pw_below_drewN|apply below_drew1 | refine below_set ?_ (IsS90.ge HI0.out))|exact HB.out)⟩⟩
          ·rw [if_neg c53] at H
           exact absurd H (by simp)
         ·rw [if_neg c52] at H
          exact absurd H (by simp)
        ·rw [if_neg c51] at H
         have c51b0 : decide ((x3_2.length : Int) < (wrap64 (30 + t166))) = false := decide_eq_false c51
         clear c51
         (first|rw [c51b0]|(simp only [i64_w, i32_w]; rw [c51b0]) | skip)
         have H' := Aside0.mk H
         clear H
         obtain ⟨Ao59, co59, eo59⟩ := Kd.R_slice HO_3.out
         subst eo59
         go_wp2
         go_meet
         case rel => exact ⟨_, (x3_2), (t167), (t168), H', ⟨by have := HK1.out; have := HK2.out; first | omega|exact Nat.le_refl _⟩, ⟨by (with_reducible repeat (first|apply Kd.R_alloc|apply Kd.R_drewN|apply Kd.R_drew)); exact HO_3.out⟩, ⟨by repeat (first|(with_reducible first|exact HI0.out|apply IsS90.alloc|apply IsS90.drewN|apply IsS90.drew|apply IsS90.set_1|apply IsS90.set_2)|exact HI0.out)⟩, ⟨by repeat (first|(with_reducible first|exact HK.out|apply KeepBut.set_|apply keep_drewN|apply keep_drew|apply keep_alloc)|exact HK.out)⟩, ⟨by repeat (first|(with_reducible first|exact HB.out|apply below_alloc|apply pw_below_drewN|apply below_drew1 | refine below_set ?_ (IsS90.ge HI0.out))|exact HB.out)⟩⟩
     ·replace c48 := Bool.eq_false_iff.mpr c48
      subst c48
      have H1 : (spec_l1Cur_rolls.j3 k1 x3_1 s0_0 t164 t165) = some (r1, r2, r3) := by rw [if_neg (show ¬ (false = true) by decide)] at H; exact H
      clear H
      have H := H1
      clear H1
      have H' := Aside0.mk H
      clear H
      go_wp2
      go_meet
      case rel => exact ⟨_, (x3_1), (t164), (t165), H', ⟨by have := HK1.out; first | omega|exact Nat.le_refl _⟩, ⟨by (with_reducible repeat (first|apply Kd.R_alloc|apply Kd.R_drewN|apply Kd.R_drew)); exact HO_3.out⟩, ⟨by repeat (first|(with_reducible first|exact HI0.out|apply IsS90.alloc|apply IsS90.drewN|apply IsS90.drew|apply IsS90.set_1|apply IsS90.set_2)|exact HI0.out)⟩, ⟨by repeat (first|(with_reducible first|exact HK.out|apply KeepBut.set_|apply keep_drewN|apply keep_drew|apply keep_alloc)|exact HK.out)⟩, ⟨by repeat (first|(with_reducible first|exact HB.out|apply below_alloc|apply pw_below_drewN|apply below_drew1 | refine below_set ?_ (IsS90.ge HI0.out))|exact HB.out)⟩⟩
    case rest =>
     clear HC46
     try clear p1
     try clear q1
     try clear hx1
     try clear c2
     try clear p2
     try clear c3
     try clear c4
     try clear c4b0
     try clear c5
     try clear hcv5
     try clear c6
     try clear p6
     try clear c7
     try clear c8
     try clear c9
     try clear p13
     try clear q13
     try clear hx13
     try clear c21
     try clear c21b0
     try clear c24
     try clear c26
     try clear c29
     try clear c36
     try clear c38
     try clear c48
     try clear c51
     try clear c51b0
     try clear c52
     try clear c52b0
     try clear c52b1
     try clear c52b2
     try clear c53
     try clear hcv57
     try clear hcz30_0
     try clear hcz30_1
     try clear hcz30_2
     try clear hcz30_3
     try clear hcz39_0
     try clear hcz39_1
     try clear hcz39_2
     try clear hcz39_3
     try clear hfz30_0
     try clear hfz30_1
     try clear hfz30_2
     try clear hfz30_3
     try clear hfz39_0
     try clear hfz39_1
     try clear hfz39_2
     try clear hfz39_3
     try clear hx134_0
     try clear p1
     try clear p13
     try clear p134
     try clear p2
     try clear p6
     try clear q1
     try clear q13
     try clear q134
     obtain ⟨kq, x3_45, x1001_45, x1002_45, HA, HJ45, HO_3, HI0, HK, HB⟩ := hcut
     cases kq with
     | zero => exact absurd HA.out (by simp [spec_l1Cur_rolls.j3])
     | succ kj45 =>
      have H := HA.out
      clear HA
      simp only [spec_l1Cur_rolls.j3] at H
      by_cases c60 : (x3_45.length : Int) > 0
      ·rw [if_pos c60] at H
       have c60b0 : decide (0 < (x3_45.length : Int)) = true := decide_eq_true c60
       have c60b1 : decide (0 < x3_45.length) = true := decide_eq_true (by omega)
       clear c60
       replace H := Option.bind_eq_some_iff.mp H
       obtain ⟨⟨t175, t176, t177⟩, A610, H⟩ := H
       try dsimp only at H
       have A61 := Aside0.mk A610
       clear A610
       by_cases c62 : 0 ≤ t175
       ·rw [if_pos c62] at H
        have c62b0 : decide (0 ≤ t175) = true := decide_eq_true c62
        clear c62
        by_cases c63 : t175 < (x3_45.length : Int)
        ·rw [if_pos c63] at H
         have c63b0 : decide (t175 < (x3_45.length : Int)) = true := decide_eq_true c63
         clear c63
         replace H := Option.bind_eq_some_iff.mp H
         obtain ⟨⟨t178, t179, t180⟩, A650, H⟩ := H
         try dsimp only at H
         have A65 := Aside0.mk A650
         clear A650
         by_cases c66 : t178 = 0
         ·rw [if_pos c66] at H
          have c66b0 : (t178 == 0) = true := beq_iff_eq.mpr c66
          have c66b1 : (t178 != 0) = false := bne_eq_false_iff_eq.mpr c66
          clear c66
          obtain ⟨y181, hy181⟩ : ∃ y_ : List ByteArray, y_ = (([(⟨#[]⟩ : ByteArray), (⟨#[65]⟩ : ByteArray), (⟨#[119, 97, 108, 116, 122]⟩ : ByteArray), (⟨#[97, 98, 99, 100, 101, 102, 103, 104, 105, 106, 107, 108, 109]⟩ : ByteArray), (⟨#[97, 32, 98]⟩ : ByteArray)] : List ByteArray)) := ⟨_, rfl⟩
          replace H : ((spec_l1Cur_of.f s0_0 t179 t180 y181).bind fun bt184 => (some ((x3_45.set (t175 : Int).toNat (⟨bt184.1, (rd_T29 x3_45 t175).f1, (rd_T29 x3_45 t175).f2, (rd_T29 x3_45 t175).f3⟩ : S29)), bt184.2.1, bt184.2.2))) = some (r1, r2, r3) := by first|(rw [hy181]; with_reducible exact H)|(have H2_ := (Option.bind_some _ _).symm.trans H; rw [hy181]; with_reducible exact H2_)|(have H2_ := (Option.bind_some _ _).symm.trans H; with_reducible exact H2_) | with_reducible exact H|(rw [hy181]; exact H)|exact H
          have Ny181 := Aside0.mk hy181
          clear hy181
          replace H := Option.bind_eq_some_iff.mp H
          obtain ⟨⟨t184, t185, t186⟩, A670, H⟩ := H
          try dsimp only at H
          have A67 := Aside0.mk A670
          clear A670
          obtain ⟨y187, hy187⟩ : ∃ y_ : List (S29), y_ = (x3_45.set (t175 : Int).toNat (⟨t184, (rd_T29 x3_45 t175).f1, (rd_T29 x3_45 t175).f2, (rd_T29 x3_45 t175).f3⟩ : S29)) := ⟨_, rfl⟩
          replace H : (some (y187, t185, t186)) = some (r1, r2, r3) := by first|(rw [hy187]; with_reducible exact H)|(have H2_ := (Option.bind_some _ _).symm.trans H; rw [hy187]; with_reducible exact H2_)|(have H2_ := (Option.bind_some _ _).symm.trans H; with_reducible exact H2_) | with_reducible exact H|(rw [hy187]; exact H)|exact H
          have Ny187 := Aside0.mk hy187
          clear hy187
          simp only [Option.some.injEq, Prod.mk.injEq] at H
          obtain ⟨rfl, rfl, rfl⟩ := H
          obtain ⟨Ao68, co68, eo68⟩ := Kd.R_slice HO_3.out
          subst eo68
          go_wp2_with (first|((with_reducible refine gate_callee (f := 89) rfl ?_); refine goesL_ (some 81) rfl rfl Try.func89 (by kernel_rfl) rfl #[.pointer (some ⟨g, 0, none⟩), .int .i64 (x3_45.length : Int)] rfl (by (try simp only [List.map_toArray, List.map_cons, List.map_nil]); first | done | rfl|(simp only [List.length_drop, List.length_take]; rfl)) ?_; (with_reducible refine (spec_l1Cur_pick.calls g s0_0 x1001_45 x1002_45 (x3_45.length : Int) t175 t176 t177 w0 _ ?side1 ?side2 A61.out).mono ?_);(case side1 => repeat (first|(with_reducible first|exact HI0.out|apply IsS90.alloc|apply IsS90.drewN|apply IsS90.drew|apply IsS90.set_1|apply IsS90.set_2)|exact HI0.out));(case side2 => repeat (first|(with_reducible first|exact HB.out|apply below_alloc|apply pw_below_drewN|apply below_drew1 | refine below_set ?_ (IsS90.ge HI0.out))|exact HB.out)); rintro e w69 ⟨rfl, hi, hb, hk⟩; refine ⟨_, rfl, ?_⟩; have n0_ := Aside0.mk (Kd.R_mono (Kd.R_keep (IsS90.apart (show IsS90 w0 _ g s0_0 x1001_45 x1002_45 from by repeat (first|(with_reducible first|exact HI0.out|apply IsS90.alloc|apply IsS90.drewN|apply IsS90.drew|apply IsS90.set_1|apply IsS90.set_2)|exact HI0.out)) (by (with_reducible repeat (first|apply Kd.R_alloc|apply Kd.R_drewN|apply Kd.R_drew)); exact HO_3.out) (by decide)) hk (fun _ h => h.2)) (fun _ h => h.1)); have n1_ := Aside0.mk (KeepBut.trans (by repeat (first|(with_reducible first|exact HK.out|apply KeepBut.set_|apply keep_drewN|apply keep_drew|apply keep_alloc)|exact HK.out)) hk (.inl rfl)); have n2_ := Aside0.mk (hb); have n3_ := Aside0.mk (hi); clear HO_3; clear HK; clear HB; clear HI0; have HO_3 := n0_; have HK := n1_; have HB := n2_; have HI0 := n3_; clear n0_ n1_ n2_ n3_; (try clear hb); (try clear hb2); (try clear hk); (try clear hi); have p64 : 0 ≤ (t175 : Int) := of_decide_eq_true (by first|(with_reducible assumption) | assumption); have q64 : (t175 : Int) < ((x3_45.length : Int) : Int) := of_decide_eq_true (by first|(with_reducible assumption) | assumption); obtain ⟨go64, co64, eo64, gb64, gl64, cl64, HG64⟩ := Kd.R_form HO_3.out (by omega); (first|cases eo64|(injection eo64 with ea_ en_ ec_; (first|subst ea_|(injection ea_ with ea_; subst ea_)); subst ec_; clear en_)); have GB64 := Aside0.mk gb64; have GG64 := Aside0.mk HG64; clear gb64 gl64 HG64; obtain ⟨ce64, hcl64, hM64, hcc64, hfr64⟩ := Kd.R_elem HO_3.out z29 (t175 : Int) p64 q64; obtain rfl := k29_openM hM64; have hx64_0 : w69.cell? ⟨go64, (t175 : Int).toNat * 4, none⟩ = some (.string ((rd_T29 x3_45 t175).f0)) := hcc64 0 _ rfl; have hx64_1 : w69.cell? ⟨go64, (t175 : Int).toNat * 4 + 1, none⟩ = some (.string ((rd_T29 x3_45 t175).f1)) := hcc64 1 _ rfl; have hx64_2 : w69.cell? ⟨go64, (t175 : Int).toNat * 4 + 2, none⟩ = some (.int .i64 ((rd_T29 x3_45 t175).f2)) := hcc64 2 _ rfl; have hx64_3 : w69.cell? ⟨go64, (t175 : Int).toNat * 4 + 3, none⟩ = some (.int .i64 ((rd_T29 x3_45 t175).f3)) := hcc64 3 _ rfl; have hf64_0 : w69.frozen? ⟨go64, (t175 : Int).toNat * 4, none⟩ = false := hfr64 0; have hf64_1 : w69.frozen? ⟨go64, (t175 : Int).toNat * 4 + 1, none⟩ = false := hfr64 1; have hf64_2 : w69.frozen? ⟨go64, (t175 : Int).toNat * 4 + 2, none⟩ = false := hfr64 2; have hf64_3 : w69.frozen? ⟨go64, (t175 : Int).toNat * 4 + 3, none⟩ = false := hfr64 3; clear hcl64 hcc64 hfr64; (try clear hM64); replace p64 := eq_true p64; replace q64 := eq_true q64)|((with_reducible refine gate_callee (f := 89) rfl ?_); refine goesL_ (some 84) rfl rfl Try.func89 (by kernel_rfl) rfl #[.pointer (some ⟨g, 0, none⟩), .int .i64 30] rfl (by (try simp only [List.map_toArray, List.map_cons, List.map_nil]); first | done | rfl|(simp only [List.length_drop, List.length_take]; rfl)) ?_; (with_reducible refine (spec_l1Cur_pick.calls g s0_0 t176 t177 30 t178 t179 t180 w0 _ ?side1 ?side2 A65.out).mono ?_);(case side1 => repeat (first|(with_reducible first|exact HI0.out|apply IsS90.alloc|apply IsS90.drewN|apply IsS90.drew|apply IsS90.set_1|apply IsS90.set_2)|exact HI0.out));(case side2 => repeat (first|(with_reducible first|exact HB.out|apply below_alloc|apply pw_below_drewN|apply below_drew1 | refine below_set ?_ (IsS90.ge HI0.out))|exact HB.out)); rintro e w70 ⟨rfl, hi, hb, hk⟩; refine ⟨_, rfl, ?_⟩; have n0_ := Aside0.mk (Kd.R_mono (Kd.R_keep (IsS90.apart (show IsS90 w0 _ g s0_0 t176 t177 from by repeat (first|(with_reducible first|exact HI0.out|apply IsS90.alloc|apply IsS90.drewN|apply IsS90.drew|apply IsS90.set_1|apply IsS90.set_2)|exact HI0.out)) (by (with_reducible repeat (first|apply Kd.R_alloc|apply Kd.R_drewN|apply Kd.R_drew)); exact HO_3.out) (by decide)) hk (fun _ h => h.2)) (fun _ h => h.1)); have n1_ := Aside0.mk (KeepBut.trans (by repeat (first|(with_reducible first|exact HK.out|apply KeepBut.set_|apply keep_drewN|apply keep_drew|apply keep_alloc)|exact HK.out)) hk (.inl rfl)); have n2_ := Aside0.mk (hb); have n3_ := Aside0.mk (hi); clear HO_3; clear HK; clear HB; clear HI0; have HO_3 := n0_; have HK := n1_; have HB := n2_; have HI0 := n3_; clear n0_ n1_ n2_ n3_; (try clear hb); (try clear hb2); (try clear hk); (try clear hi))|((with_reducible refine gate_dst (N := 89) rfl ?_); refine Kd.R_lit Kd.string _ 9 ?hg (N := 89) ?hd (xs := ([(⟨#[]⟩ : ByteArray), (⟨#[65]⟩ : ByteArray), (⟨#[119, 97, 108, 116, 122]⟩ : ByteArray), (⟨#[97, 98, 99, 100, 101, 102, 103, 104, 105, 106, 107, 108, 109]⟩ : ByteArray), (⟨#[97, 32, 98]⟩ : ByteArray)] : List ByteArray)) (inner := [.string (⟨#[]⟩ : ByteArray), .string (⟨#[65]⟩ : ByteArray), .string (⟨#[119, 97, 108, 116, 122]⟩ : ByteArray), .string (⟨#[97, 98, 99, 100, 101, 102, 103, 104, 105, 106, 107, 108, 109]⟩ : ByteArray), .string (⟨#[97, 32, 98]⟩ : ByteArray)]) (ok := fun _ => True) (okp := fun _ => True) ?hr ?hp (fun _ hk => hk) trivial (Below.refl _ _) (Nat.le_refl _) (by simp) ?_;(case hd => rfl);(case hg => rfl);(case hr => first|(go_simp;done)|(go_simp; rfl));(case hp => exact (Reps.one (show Kd.M Kd.string _ _ _ (⟨#[]⟩ : ByteArray) [.string (⟨#[]⟩ : ByteArray)] from rfl) (Reps.one (show Kd.M Kd.string _ _ _ (⟨#[65]⟩ : ByteArray) [.string (⟨#[65]⟩ : ByteArray)] from rfl) (Reps.one (show Kd.M Kd.string _ _ _ (⟨#[119, 97, 108, 116, 122]⟩ : ByteArray) [.string (⟨#[119, 97, 108, 116, 122]⟩ : ByteArray)] from rfl) (Reps.one (show Kd.M Kd.string _ _ _ (⟨#[97, 98, 99, 100, 101, 102, 103, 104, 105, 106, 107, 108, 109]⟩ : ByteArray) [.string (⟨#[97, 98, 99, 100, 101, 102, 103, 104, 105, 106, 107, 108, 109]⟩ : ByteArray)] from rfl) (Reps.one (show Kd.M Kd.string _ _ _ (⟨#[97, 32, 98]⟩ : ByteArray) [.string (⟨#[97, 32, 98]⟩ : ByteArray)] from rfl) (Reps.none _ _))))))); intro v182 w71 ho72 hb hg_ hnew_; clear hg_ hnew_; (first|rw [← Ny181.out] at ho72|(simp only [Int.reduceToNat] at ho72; rw [← Ny181.out] at ho72)); have n0_ := Aside0.mk (Kd.R_below (by (with_reducible repeat (first|apply Kd.R_alloc|apply Kd.R_drewN|apply Kd.R_drew)); exact HO_3.out) hb); have n1_ := Aside0.mk (Kd.R_lower ho72 (keep_size (w := w) (g := g) (row := none) (by repeat (first|(with_reducible first|exact HK.out|apply KeepBut.set_|apply keep_drewN|apply keep_drew|apply keep_alloc)|exact HK.out)))); have n2_ := Aside0.mk (IsS90.below (by repeat (first|(with_reducible first|exact HI0.out|apply IsS90.alloc|apply IsS90.drewN|apply IsS90.drew|apply IsS90.set_1|apply IsS90.set_2)|exact HI0.out)) hb); have n3_ := Aside0.mk (KeepBut.trans (by repeat (first|(with_reducible first|exact HK.out|apply KeepBut.set_|apply keep_drewN|apply keep_drew|apply keep_alloc)|exact HK.out)) (KeepBut.of_below hb g none) (.inl rfl)); have n4_ := Aside0.mk (below_step (by repeat (first|(with_reducible first|exact HB.out|apply below_alloc|apply pw_below_drewN|apply below_drew1 | refine below_set ?_ (IsS90.ge HI0.out))|exact HB.out)) hb); clear HO_3; clear HI0; clear HK; clear HB; have HO_3 := n0_; have HO183 := n1_; have HI0 := n2_; have HK := n3_; have HB := n4_; clear n0_ n1_ n2_ n3_ n4_; clear hb ho72; obtain ⟨Ao73, co73, eo73⟩ := Kd.R_slice HO183.out; subst eo73)|((with_reducible refine gate_callee (f := 70) rfl ?_); refine goesL_ (some 90) rfl rfl Try.func70 (by kernel_rfl) rfl #[.pointer (some ⟨g, 0, none⟩), .slice Ao73 y181.length co73] rfl (by (try simp only [List.map_toArray, List.map_cons, List.map_nil]); first | done | rfl|(simp only [List.length_drop, List.length_take]; rfl)) ?_; (with_reducible refine (spec_l1Cur_of.calls g s0_0 t179 t180 _ _ y181 t184 t185 t186 w0 _ ?side1 ?side2 ?side3 ?side4 ?side5 A67.out).mono ?_);(case side1 => repeat (first|(with_reducible first|exact HI0.out|apply IsS90.alloc|apply IsS90.drewN|apply IsS90.drew|apply IsS90.set_1|apply IsS90.set_2)|exact HI0.out));(case side2 => repeat (first|(with_reducible first|exact HB.out|apply below_alloc|apply pw_below_drewN|apply below_drew1 | refine below_set ?_ (IsS90.ge HI0.out))|exact HB.out));(case side3 => repeat (first|exact (Kd.R_reads' HO183.out).2.2|(with_reducible refine Kd.C_alloc ?_ _)|(with_reducible refine Kd.C_drewN ?_ _)|(with_reducible refine Kd.C_drew ?_)));(case side4 => exact (Kd.R_reads' HO183.out).2.1);(case side5 => exact far_slice (IsS90.own_ne HI0.out HO183.out (by decide))); rintro e w74 ⟨rfl, hi, hb, hk⟩; refine ⟨_, rfl, ?_⟩; have n0_ := Aside0.mk (Kd.R_mono (Kd.R_keep (IsS90.apart (show IsS90 w0 _ g s0_0 t179 t180 from by repeat (first|(with_reducible first|exact HI0.out|apply IsS90.alloc|apply IsS90.drewN|apply IsS90.drew|apply IsS90.set_1|apply IsS90.set_2)|exact HI0.out)) (by (with_reducible repeat (first|apply Kd.R_alloc|apply Kd.R_drewN|apply Kd.R_drew)); exact HO_3.out) (by decide)) hk (fun _ h => h.2)) (fun _ h => h.1)); have n1_ := Aside0.mk (Kd.R_mono (Kd.R_keep (IsS90.apart (show IsS90 w0 _ g s0_0 t179 t180 from by repeat (first|(with_reducible first|exact HI0.out|apply IsS90.alloc|apply IsS90.drewN|apply IsS90.drew|apply IsS90.set_1|apply IsS90.set_2)|exact HI0.out)) (by (with_reducible repeat (first|apply Kd.R_alloc|apply Kd.R_drewN|apply Kd.R_drew)); exact HO183.out) (by decide)) hk (fun _ h => h.2)) (fun _ h => h.1)); have n2_ := Aside0.mk (KeepBut.trans (by repeat (first|(with_reducible first|exact HK.out|apply KeepBut.set_|apply keep_drewN|apply keep_drew|apply keep_alloc)|exact HK.out)) hk (.inl rfl)); have n3_ := Aside0.mk (hb); have n4_ := Aside0.mk (hi); clear HO_3; clear HO183; clear HK; clear HB; clear HI0; have HO_3 := n0_; have HO183 := n1_; have HK := n2_; have HB := n3_; have HI0 := n4_; clear n0_ n1_ n2_ n3_ n4_; (try clear hb); (try clear hb2); (try clear hk); (try clear hi); have HX75 := Aside0.mk (show Kd.R k29 29 w74 w.heap.size (fun _ => True) (.slice (some ⟨go64, 0, none⟩) x3_45.length co68) x3_45 from (by (with_reducible repeat (first|apply Kd.R_alloc|apply Kd.R_drewN|apply Kd.R_drew)); exact HO_3.out)); obtain ⟨ce75, hcl75, hM75, hcc75, hfr75⟩ := Kd.R_elem HX75.out z29 (t175 : Int) (of_decide_eq_true (by first|(with_reducible assumption) | assumption)) (by have h_ : (t175 : Int) < ((x3_45.length : Int) : Int) := of_decide_eq_true (by first|(with_reducible assumption) | assumption); first|exact h_|(have e_ := (Kd.R_reads' HO_3.out).1; omega) | simpa using h_); obtain rfl := k29_openM hM75; have HP75 := Kd.R_seg HX75.out (t175 : Int) (of_decide_eq_true (by first|(with_reducible assumption) | assumption)) (by have h_ : (t175 : Int) < ((x3_45.length : Int) : Int) := of_decide_eq_true (by first|(with_reducible assumption) | assumption); first|exact h_|(have e_ := (Kd.R_reads' HO_3.out).1; omega) | simpa using h_) (seg := [.string t184]) (j := 0) hcl75 hcc75 (show 1 ≤ 4 from by decide) (x' := (⟨t184, (rd_T29 x3_45 t175).f1, (rd_T29 x3_45 t175).f2, (rd_T29 x3_45 t175).f3⟩ : S29)) (k29_mkM _ _ _ (⟨t184, (rd_T29 x3_45 t175).f1, (rd_T29 x3_45 t175).f2, (rd_T29 x3_45 t175).f3⟩ : S29) ) (fun _ hk => hk); have hx75_0 := hcc75 0 _ rfl; (try simp only [show (k29).sz = 4 from rfl, Nat.mul_one, Nat.add_zero] at hx75_0); have hf75_0 := hfr75 0; (try simp only [show (k29).sz = 4 from rfl, Nat.mul_one, Nat.add_zero] at hf75_0); clear hcl75 hcc75 hfr75; (try clear hM75))|((with_reducible refine gate_store (t := 9) (p := 92) rfl ?_); refine store_event (t := 9) (p := 92) (v := ?vo_w76) (w1 := (w74.setCell ⟨go64, (t175 : Int).toNat * 4, none⟩ (.string t184))) ?hg ?ho ?hn ?hr ?_;(case ho => rfl);(case hg => rfl);(case hn => rfl);(case hr => first|(go_simp;done)|(go_simp; rfl)); intro w76 hw; have hg : w74.grownBy w76 (some go64) := (by rw [hw]; exact HP75.2); have hp_ : Kd.R k29 29 w76 w.heap.size (fun _ => True) (.slice (some ⟨go64, 0, none⟩) x3_45.length co68) y187 := (by rw [hw, Ny187.out]; exact HP75.1); clear HP75; have n0_ := Aside0.mk (hp_); have n1_ := Aside0.mk (IsS90.grown (by repeat (first|(with_reducible first|exact HI0.out|apply IsS90.alloc|apply IsS90.drewN|apply IsS90.drew|apply IsS90.set_1|apply IsS90.set_2)|exact HI0.out)) hg (IsS90.own_ne HI0.out HO_3.out (by decide))); have n2_ := Aside0.mk (Kd.R_over' (v := (.slice (some ⟨go64, 0, none⟩) x3_45.length co68)) (by (with_reducible repeat (first|apply Kd.R_alloc|apply Kd.R_drewN|apply Kd.R_drew)); exact HO183.out) (Kd.R_typed HO_3.out) (by decide) hg); have n3_ := Aside0.mk ((by rw [hw]; exact below_set (HB.out) (Nat.le_trans HL.out GB64.out) : Below w0.heap.size w0 w76)); have n4_ := Aside0.mk (KeepBut.trans (by repeat (first|(with_reducible first|exact HK.out|apply KeepBut.set_|apply keep_drewN|apply keep_drew|apply keep_alloc)|exact HK.out)) (KeepBut.of_grown hg g) (Kd.R_base2 HO_3.out)); clear HO_3; clear HI0; clear HO183; clear HB; clear HK; have HO_3 := n0_; have HI0 := n1_; have HO183 := n2_; have HB := n3_; have HK := n4_; clear n0_ n1_ n2_ n3_ n4_; clear hg hw hp_))
          go_ret
          exact ⟨_, by first | rfl|(simp [errW_none, errW_some] <;> rfl)|(simp [*, errW_none, errW_some] <;> rfl), by (with_reducible repeat (first|apply Kd.R_alloc|apply Kd.R_drewN|apply Kd.R_drew)); exact HO_3.out, by repeat (first|(with_reducible first|exact HI0.out|apply IsS90.alloc|apply IsS90.drewN|apply IsS90.drew|apply IsS90.set_1|apply IsS90.set_2)|exact HI0.out), by repeat (first|(with_reducible first|exact HB.out|apply below_alloc|apply pw_below_drewN|apply below_drew1 | refine below_set ?_ (IsS90.ge HI0.out))|exact HB.out), by repeat (first|(with_reducible first|exact HK.out|apply KeepBut.set_|apply keep_drewN|apply keep_drew|apply keep_alloc)|exact HK.out)⟩
         ·rw [if_neg c66] at H
          have c66b0 : (t178 == 0) = false := beq_eq_false_iff_ne.mpr c66
          have c66b1 : (t178 != 0) = true := bne_iff_ne.mpr c66
          by_cases c77 : t178 = 1
          ·rw [if_pos c77] at H
           have c77b0 : (t178 == 1) = true := beq_iff_eq.mpr c77
           have c77b1 : (t178 != 1) = false := bne_eq_false_iff_eq.mpr c77
           clear c77
           obtain ⟨y188, hy188⟩ : ∃ y_ : List ByteArray, y_ = (([(⟨#[]⟩ : ByteArray), (⟨#[66]⟩ : ByteArray), (⟨#[97, 98, 99, 100, 101, 102, 103, 104, 105, 106, 107, 108, 109]⟩ : ByteArray)] : List ByteArray)) := ⟨_, rfl⟩
           replace H : ((spec_l1Cur_of.f s0_0 t179 t180 y188).bind fun bt191 => (some ((x3_45.set (t175 : Int).toNat (⟨(rd_T29 x3_45 t175).f0, bt191.1, (rd_T29 x3_45 t175).f2, (rd_T29 x3_45 t175).f3⟩ : S29)), bt191.2.1, bt191.2.2))) = some (r1, r2, r3) := by first|(rw [hy188]; with_reducible exact H)|(have H2_ := (Option.bind_some _ _).symm.trans H; rw [hy188]; with_reducible exact H2_)|(have H2_ := (Option.bind_some _ _).symm.trans H; with_reducible exact H2_) | with_reducible exact H|(rw [hy188]; exact H)|exact H
           have Ny188 := Aside0.mk hy188
           clear hy188
           replace H := Option.bind_eq_some_iff.mp H
           obtain ⟨⟨t191, t192, t193⟩, A780, H⟩ := H
           try dsimp only at H
           have A78 := Aside0.mk A780
           clear A780
           obtain ⟨y194, hy194⟩ : ∃ y_ : List (S29), y_ = (x3_45.set (t175 : Int).toNat (⟨(rd_T29 x3_45 t175).f0, t191, (rd_T29 x3_45 t175).f2, (rd_T29 x3_45 t175).f3⟩ : S29)) := ⟨_, rfl⟩
           replace H : (some (y194, t192, t193)) = some (r1, r2, r3) := by first|(rw [hy194]; with_reducible exact H)|(have H2_ := (Option.bind_some _ _).symm.trans H; rw [hy194]; with_reducible exact H2_)|(have H2_ := (Option.bind_some _ _).symm.trans H; with_reducible exact H2_) | with_reducible exact H|(rw [hy194]; exact H)|exact H
           have Ny194 := Aside0.mk hy194
           clear hy194
           simp only [Option.some.injEq, Prod.mk.injEq] at H
           obtain ⟨rfl, rfl, rfl⟩ := H
           obtain ⟨Ao79, co79, eo79⟩ := Kd.R_slice HO_3.out
           subst eo79
           go_wp2_with (first|((with_reducible refine gate_callee (f := 89) rfl ?_); refine goesL_ (some 81) rfl rfl Try.func89 (by kernel_rfl) rfl #[.pointer (some ⟨g, 0, none⟩), .int .i64 (x3_45.length : Int)] rfl (by (try simp only [List.map_toArray, List.map_cons, List.map_nil]); first | done | rfl|(simp only [List.length_drop, List.length_take]; rfl)) ?_; (with_reducible refine (spec_l1Cur_pick.calls g s0_0 x1001_45 x1002_45 (x3_45.length : Int) t175 t176 t177 w0 _ ?side1 ?side2 A61.out).mono ?_);(case side1 => repeat (first|(with_reducible first|exact HI0.out|apply IsS90.alloc|apply IsS90.drewN|apply IsS90.drew|apply IsS90.set_1|apply IsS90.set_2)|exact HI0.out));(case side2 => repeat (first|(with_reducible first|exact HB.out|apply below_alloc|apply pw_below_drewN|apply below_drew1 | refine below_set ?_ (IsS90.ge HI0.out))|exact HB.out)); rintro e w80 ⟨rfl, hi, hb, hk⟩; refine ⟨_, rfl, ?_⟩; have n0_ := Aside0.mk (Kd.R_mono (Kd.R_keep (IsS90.apart (show IsS90 w0 _ g s0_0 x1001_45 x1002_45 from by repeat (first|(with_reducible first|exact HI0.out|apply IsS90.alloc|apply IsS90.drewN|apply IsS90.drew|apply IsS90.set_1|apply IsS90.set_2)|exact HI0.out)) (by (with_reducible repeat (first|apply Kd.R_alloc|apply Kd.R_drewN|apply Kd.R_drew)); exact HO_3.out) (by decide)) hk (fun _ h => h.2)) (fun _ h => h.1)); have n1_ := Aside0.mk (KeepBut.trans (by repeat (first|(with_reducible first|exact HK.out|apply KeepBut.set_|apply keep_drewN|apply keep_drew|apply keep_alloc)|exact HK.out)) hk (.inl rfl)); have n2_ := Aside0.mk (hb); have n3_ := Aside0.mk (hi); clear HO_3; clear HK; clear HB; clear HI0; have HO_3 := n0_; have HK := n1_; have HB := n2_; have HI0 := n3_; clear n0_ n1_ n2_ n3_; (try clear hb); (try clear hb2); (try clear hk); (try clear hi); have p64 : 0 ≤ (t175 : Int) := of_decide_eq_true (by first|(with_reducible assumption) | assumption); have q64 : (t175 : Int) < ((x3_45.length : Int) : Int) := of_decide_eq_true (by first|(with_reducible assumption) | assumption); obtain ⟨go64, co64, eo64, gb64, gl64, cl64, HG64⟩ := Kd.R_form HO_3.out (by omega); (first|cases eo64|(injection eo64 with ea_ en_ ec_; (first|subst ea_|(injection ea_ with ea_; subst ea_)); subst ec_; clear en_)); have GB64 := Aside0.mk gb64; have GG64 := Aside0.mk HG64; clear gb64 gl64 HG64; obtain ⟨ce64, hcl64, hM64, hcc64, hfr64⟩ := Kd.R_elem HO_3.out z29 (t175 : Int) p64 q64; obtain rfl := k29_openM hM64; have hx64_0 : w80.cell? ⟨go64, (t175 : Int).toNat * 4, none⟩ = some (.string ((rd_T29 x3_45 t175).f0)) := hcc64 0 _ rfl; have hx64_1 : w80.cell? ⟨go64, (t175 : Int).toNat * 4 + 1, none⟩ = some (.string ((rd_T29 x3_45 t175).f1)) := hcc64 1 _ rfl; have hx64_2 : w80.cell? ⟨go64, (t175 : Int).toNat * 4 + 2, none⟩ = some (.int .i64 ((rd_T29 x3_45 t175).f2)) := hcc64 2 _ rfl; have hx64_3 : w80.cell? ⟨go64, (t175 : Int).toNat * 4 + 3, none⟩ = some (.int .i64 ((rd_T29 x3_45 t175).f3)) := hcc64 3 _ rfl; have hf64_0 : w80.frozen? ⟨go64, (t175 : Int).toNat * 4, none⟩ = false := hfr64 0; have hf64_1 : w80.frozen? ⟨go64, (t175 : Int).toNat * 4 + 1, none⟩ = false := hfr64 1; have hf64_2 : w80.frozen? ⟨go64, (t175 : Int).toNat * 4 + 2, none⟩ = false := hfr64 2; have hf64_3 : w80.frozen? ⟨go64, (t175 : Int).toNat * 4 + 3, none⟩ = false := hfr64 3; clear hcl64 hcc64 hfr64; (try clear hM64); replace p64 := eq_true p64; replace q64 := eq_true q64)|((with_reducible refine gate_callee (f := 89) rfl ?_); refine goesL_ (some 84) rfl rfl Try.func89 (by kernel_rfl) rfl #[.pointer (some ⟨g, 0, none⟩), .int .i64 30] rfl (by (try simp only [List.map_toArray, List.map_cons, List.map_nil]); first | done | rfl|(simp only [List.length_drop, List.length_take]; rfl)) ?_; (with_reducible refine (spec_l1Cur_pick.calls g s0_0 t176 t177 30 t178 t179 t180 w0 _ ?side1 ?side2 A65.out).mono ?_);(case side1 => repeat (first|(with_reducible first|exact HI0.out|apply IsS90.alloc|apply IsS90.drewN|apply IsS90.drew|apply IsS90.set_1|apply IsS90.set_2)|exact HI0.out));(case side2 => repeat (first|(with_reducible first|exact HB.out|apply below_alloc|apply pw_below_drewN|apply below_drew1 | refine below_set ?_ (IsS90.ge HI0.out))|exact HB.out)); rintro e w81 ⟨rfl, hi, hb, hk⟩; refine ⟨_, rfl, ?_⟩; have n0_ := Aside0.mk (Kd.R_mono (Kd.R_keep (IsS90.apart (show IsS90 w0 _ g s0_0 t176 t177 from by repeat (first|(with_reducible first|exact HI0.out|apply IsS90.alloc|apply IsS90.drewN|apply IsS90.drew|apply IsS90.set_1|apply IsS90.set_2)|exact HI0.out)) (by (with_reducible repeat (first|apply Kd.R_alloc|apply Kd.R_drewN|apply Kd.R_drew)); exact HO_3.out) (by decide)) hk (fun _ h => h.2)) (fun _ h => h.1)); have n1_ := Aside0.mk (KeepBut.trans (by repeat (first|(with_reducible first|exact HK.out|apply KeepBut.set_|apply keep_drewN|apply keep_drew|apply keep_alloc)|exact HK.out)) hk (.inl rfl)); have n2_ := Aside0.mk (hb); have n3_ := Aside0.mk (hi); clear HO_3; clear HK; clear HB; clear HI0; have HO_3 := n0_; have HK := n1_; have HB := n2_; have HI0 := n3_; clear n0_ n1_ n2_ n3_; (try clear hb); (try clear hb2); (try clear hk); (try clear hi))|((with_reducible refine gate_dst (N := 97) rfl ?_); refine Kd.R_lit Kd.string _ 9 ?hg (N := 97) ?hd (xs := ([(⟨#[]⟩ : ByteArray), (⟨#[66]⟩ : ByteArray), (⟨#[97, 98, 99, 100, 101, 102, 103, 104, 105, 106, 107, 108, 109]⟩ : ByteArray)] : List ByteArray)) (inner := [.string (⟨#[]⟩ : ByteArray), .string (⟨#[66]⟩ : ByteArray), .string (⟨#[97, 98, 99, 100, 101, 102, 103, 104, 105, 106, 107, 108, 109]⟩ : ByteArray)]) (ok := fun _ => True) (okp := fun _ => True) ?hr ?hp (fun _ hk => hk) trivial (Below.refl _ _) (Nat.le_refl _) (by simp) ?_;(case hd => rfl);(case hg => rfl);(case hr => first|(go_simp;done)|(go_simp; rfl));(case hp => exact (Reps.one (show Kd.M Kd.string _ _ _ (⟨#[]⟩ : ByteArray) [.string (⟨#[]⟩ : ByteArray)] from rfl) (Reps.one (show Kd.M Kd.string _ _ _ (⟨#[66]⟩ : ByteArray) [.string (⟨#[66]⟩ : ByteArray)] from rfl) (Reps.one (show Kd.M Kd.string _ _ _ (⟨#[97, 98, 99, 100, 101, 102, 103, 104, 105, 106, 107, 108, 109]⟩ : ByteArray) [.string (⟨#[97, 98, 99, 100, 101, 102, 103, 104, 105, 106, 107, 108, 109]⟩ : ByteArray)] from rfl) (Reps.none _ _))))); intro v189 w82 ho83 hb hg_ hnew_; clear hg_ hnew_; (first|rw [← Ny188.out] at ho83|(simp only [Int.reduceToNat] at ho83; rw [← Ny188.out] at ho83)); have n0_ := Aside0.mk (Kd.R_below (by (with_reducible repeat (first|apply Kd.R_alloc|apply Kd.R_drewN|apply Kd.R_drew)); exact HO_3.out) hb); have n1_ := Aside0.mk (Kd.R_lower ho83 (keep_size (w := w) (g := g) (row := none) (by repeat (first|(with_reducible first|exact HK.out|apply KeepBut.set_|apply keep_drewN|apply keep_drew|apply keep_alloc)|exact HK.out)))); have n2_ := Aside0.mk (IsS90.below (by repeat (first|(with_reducible first|exact HI0.out|apply IsS90.alloc|apply IsS90.drewN|apply IsS90.drew|apply IsS90.set_1|apply IsS90.set_2)|exact HI0.out)) hb); have n3_ := Aside0.mk (KeepBut.trans (by repeat (first|(with_reducible first|exact HK.out|apply KeepBut.set_|apply keep_drewN|apply keep_drew|apply keep_alloc)|exact HK.out)) (KeepBut.of_below hb g none) (.inl rfl)); have n4_ := Aside0.mk (below_step (by repeat (first|(with_reducible first|exact HB.out|apply below_alloc|apply pw_below_drewN|apply below_drew1 | refine below_set ?_ (IsS90.ge HI0.out))|exact HB.out)) hb); clear HO_3; clear HI0; clear HK; clear HB; have HO_3 := n0_; have HO190 := n1_; have HI0 := n2_; have HK := n3_; have HB := n4_; clear n0_ n1_ n2_ n3_ n4_; clear hb ho83; obtain ⟨Ao84, co84, eo84⟩ := Kd.R_slice HO190.out; subst eo84)|((with_reducible refine gate_callee (f := 70) rfl ?_); refine goesL_ (some 98) rfl rfl Try.func70 (by kernel_rfl) rfl #[.pointer (some ⟨g, 0, none⟩), .slice Ao84 y188.length co84] rfl (by (try simp only [List.map_toArray, List.map_cons, List.map_nil]); first | done | rfl|(simp only [List.length_drop, List.length_take]; rfl)) ?_; (with_reducible refine (spec_l1Cur_of.calls g s0_0 t179 t180 _ _ y188 t191 t192 t193 w0 _ ?side1 ?side2 ?side3 ?side4 ?side5 A78.out).mono ?_);(case side1 => repeat (first|(with_reducible first|exact HI0.out|apply IsS90.alloc|apply IsS90.drewN|apply IsS90.drew|apply IsS90.set_1|apply IsS90.set_2)|exact HI0.out));(case side2 => repeat (first|(with_reducible first|exact HB.out|apply below_alloc|apply pw_below_drewN|apply below_drew1 | refine below_set ?_ (IsS90.ge HI0.out))|exact HB.out));(case side3 => repeat (first|exact (Kd.R_reads' HO190.out).2.2|(with_reducible refine Kd.C_alloc ?_ _)|(with_reducible refine Kd.C_drewN ?_ _)|(with_reducible refine Kd.C_drew ?_)));(case side4 => exact (Kd.R_reads' HO190.out).2.1);(case side5 => exact far_slice (IsS90.own_ne HI0.out HO190.out (by decide))); rintro e w85 ⟨rfl, hi, hb, hk⟩; refine ⟨_, rfl, ?_⟩; have n0_ := Aside0.mk (Kd.R_mono (Kd.R_keep (IsS90.apart (show IsS90 w0 _ g s0_0 t179 t180 from by repeat (first|(with_reducible first|exact HI0.out|apply IsS90.alloc|apply IsS90.drewN|apply IsS90.drew|apply IsS90.set_1|apply IsS90.set_2)|exact HI0.out)) (by (with_reducible repeat (first|apply Kd.R_alloc|apply Kd.R_drewN|apply Kd.R_drew)); exact HO_3.out) (by decide)) hk (fun _ h => h.2)) (fun _ h => h.1)); have n1_ := Aside0.mk (Kd.R_mono (Kd.R_keep (IsS90.apart (show IsS90 w0 _ g s0_0 t179 t180 from by repeat (first|(with_reducible first|exact HI0.out|apply IsS90.alloc|apply IsS90.drewN|apply IsS90.drew|apply IsS90.set_1|apply IsS90.set_2)|exact HI0.out)) (by (with_reducible repeat (first|apply Kd.R_alloc|apply Kd.R_drewN|apply Kd.R_drew)); exact HO190.out) (by decide)) hk (fun _ h => h.2)) (fun _ h => h.1)); have n2_ := Aside0.mk (KeepBut.trans (by repeat (first|(with_reducible first|exact HK.out|apply KeepBut.set_|apply keep_drewN|apply keep_drew|apply keep_alloc)|exact HK.out)) hk (.inl rfl)); have n3_ := Aside0.mk (hb); have n4_ := Aside0.mk (hi); clear HO_3; clear HO190; clear HK; clear HB; clear HI0; have HO_3 := n0_; have HO190 := n1_; have HK := n2_; have HB := n3_; have HI0 := n4_; clear n0_ n1_ n2_ n3_ n4_; (try clear hb); (try clear hb2); (try clear hk); (try clear hi); have HX86 := Aside0.mk (show Kd.R k29 29 w85 w.heap.size (fun _ => True) (.slice (some ⟨go64, 0, none⟩) x3_45.length co79) x3_45 from (by (with_reducible repeat (first|apply Kd.R_alloc|apply Kd.R_drewN|apply Kd.R_drew)); exact HO_3.out)); obtain ⟨ce86, hcl86, hM86, hcc86, hfr86⟩ := Kd.R_elem HX86.out z29 (t175 : Int) (of_decide_eq_true (by first|(with_reducible assumption) | assumption)) (by have h_ : (t175 : Int) < ((x3_45.length : Int) : Int) := of_decide_eq_true (by first|(with_reducible assumption) | assumption); first|exact h_|(have e_ := (Kd.R_reads' HO_3.out).1; omega) | simpa using h_); obtain rfl := k29_openM hM86; have HP86 := Kd.R_seg HX86.out (t175 : Int) (of_decide_eq_true (by first|(with_reducible assumption) | assumption)) (by have h_ : (t175 : Int) < ((x3_45.length : Int) : Int) := of_decide_eq_true (by first|(with_reducible assumption) | assumption); first|exact h_|(have e_ := (Kd.R_reads' HO_3.out).1; omega) | simpa using h_) (seg := [.string t191]) (j := 1) hcl86 hcc86 (show 2 ≤ 4 from by decide) (x' := (⟨(rd_T29 x3_45 t175).f0, t191, (rd_T29 x3_45 t175).f2, (rd_T29 x3_45 t175).f3⟩ : S29)) (k29_mkM _ _ _ (⟨(rd_T29 x3_45 t175).f0, t191, (rd_T29 x3_45 t175).f2, (rd_T29 x3_45 t175).f3⟩ : S29) ) (fun _ hk => hk); have hx86_1 := hcc86 1 _ rfl; (try simp only [show (k29).sz = 4 from rfl, Nat.mul_one, Nat.add_zero] at hx86_1); have hf86_1 := hfr86 1; (try simp only [show (k29).sz = 4 from rfl, Nat.mul_one, Nat.add_zero] at hf86_1); clear hcl86 hcc86 hfr86; (try clear hM86))|((with_reducible refine gate_store (t := 9) (p := 100) rfl ?_); refine store_event (t := 9) (p := 100) (v := ?vo_w87) (w1 := (w85.setCell ⟨go64, (t175 : Int).toNat * 4 + 1, none⟩ (.string t191))) ?hg ?ho ?hn ?hr ?_;(case ho => rfl);(case hg => rfl);(case hn => rfl);(case hr => first|(go_simp;done)|(go_simp; rfl)); intro w87 hw; have hg : w85.grownBy w87 (some go64) := (by rw [hw]; exact HP86.2); have hp_ : Kd.R k29 29 w87 w.heap.size (fun _ => True) (.slice (some ⟨go64, 0, none⟩) x3_45.length co79) y194 := (by rw [hw, Ny194.out]; exact HP86.1); clear HP86; have n0_ := Aside0.mk (hp_); have n1_ := Aside0.mk (IsS90.grown (by repeat (first|(with_reducible first|exact HI0.out|apply IsS90.alloc|apply IsS90.drewN|apply IsS90.drew|apply IsS90.set_1|apply IsS90.set_2)|exact HI0.out)) hg (IsS90.own_ne HI0.out HO_3.out (by decide))); have n2_ := Aside0.mk (Kd.R_over' (v := (.slice (some ⟨go64, 0, none⟩) x3_45.length co79)) (by (with_reducible repeat (first|apply Kd.R_alloc|apply Kd.R_drewN|apply Kd.R_drew)); exact HO190.out) (Kd.R_typed HO_3.out) (by decide) hg); have n3_ := Aside0.mk ((by rw [hw]; exact below_set (HB.out) (Nat.le_trans HL.out GB64.out) : Below w0.heap.size w0 w87)); have n4_ := Aside0.mk (KeepBut.trans (by repeat (first|(with_reducible first|exact HK.out|apply KeepBut.set_|apply keep_drewN|apply keep_drew|apply keep_alloc)|exact HK.out)) (KeepBut.of_grown hg g) (Kd.R_base2 HO_3.out)); clear HO_3; clear HI0; clear HO190; clear HB; clear HK; have HO_3 := n0_; have HI0 := n1_; have HO190 := n2_; have HB := n3_; have HK := n4_; clear n0_ n1_ n2_ n3_ n4_; clear hg hw hp_))
           go_ret
           exact ⟨_, by first | rfl|(simp [errW_none, errW_some] <;> rfl)|(simp [*, errW_none, errW_some] <;> rfl), by (with_reducible repeat (first|apply Kd.R_alloc|apply Kd.R_drewN|apply Kd.R_drew)); exact HO_3.out, by repeat (first|(with_reducible first|exact HI0.out|apply IsS90.alloc|apply IsS90.drewN|apply IsS90.drew|apply IsS90.set_1|apply IsS90.set_2)|exact HI0.out), by repeat (first|(with_reducible first|exact HB.out|apply below_alloc|apply pw_below_drewN|apply below_drew1 | refine below_set ?_ (IsS90.ge HI0.out))|exact HB.out), by repeat (first|(with_reducible first|exact HK.out|apply KeepBut.set_|apply keep_drewN|apply keep_drew|apply keep_alloc)|exact HK.out)⟩
          ·rw [if_neg c77] at H
           have c77b0 : (t178 == 1) = false := beq_eq_false_iff_ne.mpr c77
           have c77b1 : (t178 != 1) = true := bne_iff_ne.mpr c77
           by_cases c88 : t178 = 2
           ·rw [if_pos c88] at H
            have c88b0 : (t178 == 2) = true := beq_iff_eq.mpr c88
            have c88b1 : (t178 != 2) = false := bne_eq_false_iff_eq.mpr c88
            clear c88
            obtain ⟨y195, hy195⟩ : ∃ y_ : List Int, y_ = (([1799, 1800, 2100, 2101] : List Int)) := ⟨_, rfl⟩
            replace H : ((spec_l1Cur_among.f s0_0 t179 t180 y195).bind fun bt198 => (some ((x3_45.set (t175 : Int).toNat (⟨(rd_T29 x3_45 t175).f0, (rd_T29 x3_45 t175).f1, bt198.1, (rd_T29 x3_45 t175).f3⟩ : S29)), bt198.2.1, bt198.2.2))) = some (r1, r2, r3) := by first|(rw [hy195]; with_reducible exact H)|(have H2_ := (Option.bind_some _ _).symm.trans H; rw [hy195]; with_reducible exact H2_)|(have H2_ := (Option.bind_some _ _).symm.trans H; with_reducible exact H2_) | with_reducible exact H|(rw [hy195]; exact H)|exact H
            have Ny195 := Aside0.mk hy195
            clear hy195
            replace H := Option.bind_eq_some_iff.mp H
            obtain ⟨⟨t198, t199, t200⟩, A890, H⟩ := H
            try dsimp only at H
            have A89 := Aside0.mk A890
            clear A890
            obtain ⟨y201, hy201⟩ : ∃ y_ : List (S29), y_ = (x3_45.set (t175 : Int).toNat (⟨(rd_T29 x3_45 t175).f0, (rd_T29 x3_45 t175).f1, t198, (rd_T29 x3_45 t175).f3⟩ : S29)) := ⟨_, rfl⟩
            replace H : (some (y201, t199, t200)) = some (r1, r2, r3) := by first|(rw [hy201]; with_reducible exact H)|(have H2_ := (Option.bind_some _ _).symm.trans H; rw [hy201]; with_reducible exact H2_)|(have H2_ := (Option.bind_some _ _).symm.trans H; with_reducible exact H2_) | with_reducible exact H|(rw [hy201]; exact H)|exact H
            have Ny201 := Aside0.mk hy201
            clear hy201
            simp only [Option.some.injEq, Prod.mk.injEq] at H
            obtain ⟨rfl, rfl, rfl⟩ := H
            obtain ⟨Ao90, co90, eo90⟩ := Kd.R_slice HO_3.out
            subst eo90
            go_wp2_with (first|((with_reducible refine gate_callee (f := 89) rfl ?_); refine goesL_ (some 81) rfl rfl Try.func89 (by kernel_rfl) rfl #[.pointer (some ⟨g, 0, none⟩), .int .i64 (x3_45.length : Int)] rfl (by (try simp only [List.map_toArray, List.map_cons, List.map_nil]); first | done | rfl|(simp only [List.length_drop, List.length_take]; rfl)) ?_; (with_reducible refine (spec_l1Cur_pick.calls g s0_0 x1001_45 x1002_45 (x3_45.length : Int) t175 t176 t177 w0 _ ?side1 ?side2 A61.out).mono ?_);(case side1 => repeat (first|(with_reducible first|exact HI0.out|apply IsS90.alloc|apply IsS90.drewN|apply IsS90.drew|apply IsS90.set_1|apply IsS90.set_2)|exact HI0.out));(case side2 => repeat (first|(with_reducible first|exact HB.out|apply below_alloc|apply pw_below_drewN|apply below_drew1 | refine below_set ?_ (IsS90.ge HI0.out))|exact HB.out)); rintro e w91 ⟨rfl, hi, hb, hk⟩; refine ⟨_, rfl, ?_⟩; have n0_ := Aside0.mk (Kd.R_mono (Kd.R_keep (IsS90.apart (show IsS90 w0 _ g s0_0 x1001_45 x1002_45 from by repeat (first|(with_reducible first|exact HI0.out|apply IsS90.alloc|apply IsS90.drewN|apply IsS90.drew|apply IsS90.set_1|apply IsS90.set_2)|exact HI0.out)) (by (with_reducible repeat (first|apply Kd.R_alloc|apply Kd.R_drewN|apply Kd.R_drew)); exact HO_3.out) (by decide)) hk (fun _ h => h.2)) (fun _ h => h.1)); have n1_ := Aside0.mk (KeepBut.trans (by repeat (first|(with_reducible first|exact HK.out|apply KeepBut.set_|apply keep_drewN|apply keep_drew|apply keep_alloc)|exact HK.out)) hk (.inl rfl)); have n2_ := Aside0.mk (hb); have n3_ := Aside0.mk (hi); clear HO_3; clear HK; clear HB; clear HI0; have HO_3 := n0_; have HK := n1_; have HB := n2_; have HI0 := n3_; clear n0_ n1_ n2_ n3_; (try clear hb); (try clear hb2); (try clear hk); (try clear hi); have p64 : 0 ≤ (t175 : Int) := of_decide_eq_true (by first|(with_reducible assumption) | assumption); have q64 : (t175 : Int) < ((x3_45.length : Int) : Int) := of_decide_eq_true (by first|(with_reducible assumption) | assumption); obtain ⟨go64, co64, eo64, gb64, gl64, cl64, HG64⟩ := Kd.R_form HO_3.out (by omega); (first|cases eo64|(injection eo64 with ea_ en_ ec_; (first|subst ea_|(injection ea_ with ea_; subst ea_)); subst ec_; clear en_)); have GB64 := Aside0.mk gb64; have GG64 := Aside0.mk HG64; clear gb64 gl64 HG64; obtain ⟨ce64, hcl64, hM64, hcc64, hfr64⟩ := Kd.R_elem HO_3.out z29 (t175 : Int) p64 q64; obtain rfl := k29_openM hM64; have hx64_0 : w91.cell? ⟨go64, (t175 : Int).toNat * 4, none⟩ = some (.string ((rd_T29 x3_45 t175).f0)) := hcc64 0 _ rfl; have hx64_1 : w91.cell? ⟨go64, (t175 : Int).toNat * 4 + 1, none⟩ = some (.string ((rd_T29 x3_45 t175).f1)) := hcc64 1 _ rfl; have hx64_2 : w91.cell? ⟨go64, (t175 : Int).toNat * 4 + 2, none⟩ = some (.int .i64 ((rd_T29 x3_45 t175).f2)) := hcc64 2 _ rfl; have hx64_3 : w91.cell? ⟨go64, (t175 : Int).toNat * 4 + 3, none⟩ = some (.int .i64 ((rd_T29 x3_45 t175).f3)) := hcc64 3 _ rfl; have hf64_0 : w91.frozen? ⟨go64, (t175 : Int).toNat * 4, none⟩ = false := hfr64 0; have hf64_1 : w91.frozen? ⟨go64, (t175 : Int).toNat * 4 + 1, none⟩ = false := hfr64 1; have hf64_2 : w91.frozen? ⟨go64, (t175 : Int).toNat * 4 + 2, none⟩ = false := hfr64 2; have hf64_3 : w91.frozen? ⟨go64, (t175 : Int).toNat * 4 + 3, none⟩ = false := hfr64 3; clear hcl64 hcc64 hfr64; (try clear hM64); replace p64 := eq_true p64; replace q64 := eq_true q64)|((with_reducible refine gate_callee (f := 89) rfl ?_); refine goesL_ (some 84) rfl rfl Try.func89 (by kernel_rfl) rfl #[.pointer (some ⟨g, 0, none⟩), .int .i64 30] rfl (by (try simp only [List.map_toArray, List.map_cons, List.map_nil]); first | done | rfl|(simp only [List.length_drop, List.length_take]; rfl)) ?_; (with_reducible refine (spec_l1Cur_pick.calls g s0_0 t176 t177 30 t178 t179 t180 w0 _ ?side1 ?side2 A65.out).mono ?_);(case side1 => repeat (first|(with_reducible first|exact HI0.out|apply IsS90.alloc|apply IsS90.drewN|apply IsS90.drew|apply IsS90.set_1|apply IsS90.set_2)|exact HI0.out));(case side2 => repeat (first|(with_reducible first|exact HB.out|apply below_alloc|apply pw_below_drewN|apply below_drew1 | refine below_set ?_ (IsS90.ge HI0.out))|exact HB.out)); rintro e w92 ⟨rfl, hi, hb, hk⟩; refine ⟨_, rfl, ?_⟩; have n0_ := Aside0.mk (Kd.R_mono (Kd.R_keep (IsS90.apart (show IsS90 w0 _ g s0_0 t176 t177 from by repeat (first|(with_reducible first|exact HI0.out|apply IsS90.alloc|apply IsS90.drewN|apply IsS90.drew|apply IsS90.set_1|apply IsS90.set_2)|exact HI0.out)) (by (with_reducible repeat (first|apply Kd.R_alloc|apply Kd.R_drewN|apply Kd.R_drew)); exact HO_3.out) (by decide)) hk (fun _ h => h.2)) (fun _ h => h.1)); have n1_ := Aside0.mk (KeepBut.trans (by repeat (first|(with_reducible first|exact HK.out|apply KeepBut.set_|apply keep_drewN|apply keep_drew|apply keep_alloc)|exact HK.out)) hk (.inl rfl)); have n2_ := Aside0.mk (hb); have n3_ := Aside0.mk (hi); clear HO_3; clear HK; clear HB; clear HI0; have HO_3 := n0_; have HK := n1_; have HB := n2_; have HI0 := n3_; clear n0_ n1_ n2_ n3_; (try clear hb); (try clear hb2); (try clear hk); (try clear hi))|((with_reducible refine gate_dst (N := 105) rfl ?_); refine Kd.R_lit (Kd.int .i64) _ 3 ?hg (N := 105) ?hd (xs := ([1799, 1800, 2100, 2101] : List Int)) (inner := [.int .i64 1799, .int .i64 1800, .int .i64 2100, .int .i64 2101]) (ok := fun _ => True) (okp := fun _ => True) ?hr ?hp (fun _ hk => hk) trivial (Below.refl _ _) (Nat.le_refl _) (by simp) ?_;(case hd => rfl);(case hg => rfl);(case hr => first|(go_simp;done)|(go_simp; rfl));(case hp => exact (Reps.one (show Kd.M (Kd.int .i64) _ _ _ 1799 [.int .i64 1799] from rfl) (Reps.one (show Kd.M (Kd.int .i64) _ _ _ 1800 [.int .i64 1800] from rfl) (Reps.one (show Kd.M (Kd.int .i64) _ _ _ 2100 [.int .i64 2100] from rfl) (Reps.one (show Kd.M (Kd.int .i64) _ _ _ 2101 [.int .i64 2101] from rfl) (Reps.none _ _)))))); intro v196 w93 ho94 hb hg_ hnew_; clear hg_ hnew_; (first|rw [← Ny195.out] at ho94|(simp only [Int.reduceToNat] at ho94; rw [← Ny195.out] at ho94)); have n0_ := Aside0.mk (Kd.R_below (by (with_reducible repeat (first|apply Kd.R_alloc|apply Kd.R_drewN|apply Kd.R_drew)); exact HO_3.out) hb); have n1_ := Aside0.mk (Kd.R_lower ho94 (keep_size (w := w) (g := g) (row := none) (by repeat (first|(with_reducible first|exact HK.out|apply KeepBut.set_|apply keep_drewN|apply keep_drew|apply keep_alloc)|exact HK.out)))); have n2_ := Aside0.mk (IsS90.below (by repeat (first|(with_reducible first|exact HI0.out|apply IsS90.alloc|apply IsS90.drewN|apply IsS90.drew|apply IsS90.set_1|apply IsS90.set_2)|exact HI0.out)) hb); have n3_ := Aside0.mk (KeepBut.trans (by repeat (first|(with_reducible first|exact HK.out|apply KeepBut.set_|apply keep_drewN|apply keep_drew|apply keep_alloc)|exact HK.out)) (KeepBut.of_below hb g none) (.inl rfl)); have n4_ := Aside0.mk (below_step (by repeat (first|(with_reducible first|exact HB.out|apply below_alloc|apply pw_below_drewN|apply below_drew1 | refine below_set ?_ (IsS90.ge HI0.out))|exact HB.out)) hb); clear HO_3; clear HI0; clear HK; clear HB; have HO_3 := n0_; have HO197 := n1_; have HI0 := n2_; have HK := n3_; have HB := n4_; clear n0_ n1_ n2_ n3_ n4_; clear hb ho94; obtain ⟨Ao95, co95, eo95⟩ := Kd.R_slice HO197.out; subst eo95)|((with_reducible refine gate_callee (f := 72) rfl ?_); refine goesL_ (some 106) rfl rfl Try.func72 (by kernel_rfl) rfl #[.pointer (some ⟨g, 0, none⟩), .slice Ao95 y195.length co95] rfl (by (try simp only [List.map_toArray, List.map_cons, List.map_nil]); first | done | rfl|(simp only [List.length_drop, List.length_take]; rfl)) ?_; (with_reducible refine (spec_l1Cur_among.calls g s0_0 t179 t180 _ _ y195 t198 t199 t200 w0 _ ?side1 ?side2 ?side3 ?side4 ?side5 A89.out).mono ?_);(case side1 => repeat (first|(with_reducible first|exact HI0.out|apply IsS90.alloc|apply IsS90.drewN|apply IsS90.drew|apply IsS90.set_1|apply IsS90.set_2)|exact HI0.out));(case side2 => repeat (first|(with_reducible first|exact HB.out|apply below_alloc|apply pw_below_drewN|apply below_drew1 | refine below_set ?_ (IsS90.ge HI0.out))|exact HB.out));(case side3 => repeat (first|exact (Kd.R_reads' HO197.out).2.2|(with_reducible refine Kd.C_alloc ?_ _)|(with_reducible refine Kd.C_drewN ?_ _)|(with_reducible refine Kd.C_drew ?_)));(case side4 => exact (Kd.R_reads' HO197.out).2.1);(case side5 => exact far_slice (IsS90.own_ne HI0.out HO197.out (by decide))); rintro e w96 ⟨rfl, hi, hb, hk⟩; refine ⟨_, rfl, ?_⟩; have n0_ := Aside0.mk (Kd.R_mono (Kd.R_keep (IsS90.apart (show IsS90 w0 _ g s0_0 t179 t180 from by repeat (first|(with_reducible first|exact HI0.out|apply IsS90.alloc|apply IsS90.drewN|apply IsS90.drew|apply IsS90.set_1|apply IsS90.set_2)|exact HI0.out)) (by (with_reducible repeat (first|apply Kd.R_alloc|apply Kd.R_drewN|apply Kd.R_drew)); exact HO_3.out) (by decide)) hk (fun _ h => h.2)) (fun _ h => h.1)); have n1_ := Aside0.mk (Kd.R_mono (Kd.R_keep (IsS90.apart (show IsS90 w0 _ g s0_0 t179 t180 from by repeat (first|(with_reducible first|exact HI0.out|apply IsS90.alloc|apply IsS90.drewN|apply IsS90.drew|apply IsS90.set_1|apply IsS90.set_2)|exact HI0.out)) (by (with_reducible repeat (first|apply Kd.R_alloc|apply Kd.R_drewN|apply Kd.R_drew)); exact HO197.out) (by decide)) hk (fun _ h => h.2)) (fun _ h => h.1)); have n2_ := Aside0.mk (KeepBut.trans (by repeat (first|(with_reducible first|exact HK.out|apply KeepBut.set_|apply keep_drewN|apply keep_drew|apply keep_alloc)|exact HK.out)) hk (.inl rfl)); have n3_ := Aside0.mk (hb); have n4_ := Aside0.mk (hi); clear HO_3; clear HO197; clear HK; clear HB; clear HI0; have HO_3 := n0_; have HO197 := n1_; have HK := n2_; have HB := n3_; have HI0 := n4_; clear n0_ n1_ n2_ n3_ n4_; (try clear hb); (try clear hb2); (try clear hk); (try clear hi); have HX97 := Aside0.mk (show Kd.R k29 29 w96 w.heap.size (fun _ => True) (.slice (some ⟨go64, 0, none⟩) x3_45.length co90) x3_45 from (by (with_reducible repeat (first|apply Kd.R_alloc|apply Kd.R_drewN|apply Kd.R_drew)); exact HO_3.out)); obtain ⟨ce97, hcl97, hM97, hcc97, hfr97⟩ := Kd.R_elem HX97.out z29 (t175 : Int) (of_decide_eq_true (by first|(with_reducible assumption) | assumption)) (by have h_ : (t175 : Int) < ((x3_45.length : Int) : Int) := of_decide_eq_true (by first|(with_reducible assumption) | assumption); first|exact h_|(have e_ := (Kd.R_reads' HO_3.out).1; omega) | simpa using h_); obtain rfl := k29_openM hM97; have HP97 := Kd.R_seg HX97.out (t175 : Int) (of_decide_eq_true (by first|(with_reducible assumption) | assumption)) (by have h_ : (t175 : Int) < ((x3_45.length : Int) : Int) := of_decide_eq_true (by first|(with_reducible assumption) | assumption); first|exact h_|(have e_ := (Kd.R_reads' HO_3.out).1; omega) | simpa using h_) (seg := [.int .i64 t198]) (j := 2) hcl97 hcc97 (show 3 ≤ 4 from by decide) (x' := (⟨(rd_T29 x3_45 t175).f0, (rd_T29 x3_45 t175).f1, t198, (rd_T29 x3_45 t175).f3⟩ : S29)) (k29_mkM _ _ _ (⟨(rd_T29 x3_45 t175).f0, (rd_T29 x3_45 t175).f1, t198, (rd_T29 x3_45 t175).f3⟩ : S29) ) (fun _ hk => hk); have hx97_2 := hcc97 2 _ rfl; (try simp only [show (k29).sz = 4 from rfl, Nat.mul_one, Nat.add_zero] at hx97_2); have hf97_2 := hfr97 2; (try simp only [show (k29).sz = 4 from rfl, Nat.mul_one, Nat.add_zero] at hf97_2); clear hcl97 hcc97 hfr97; (try clear hM97))|((with_reducible refine gate_store (t := 3) (p := 108) rfl ?_); refine store_event (t := 3) (p := 108) (v := ?vo_w98) (w1 := (w96.setCell ⟨go64, (t175 : Int).toNat * 4 + 2, none⟩ (.int .i64 t198))) ?hg ?ho ?hn ?hr ?_;(case ho => rfl);(case hg => rfl);(case hn => rfl);(case hr => first|(go_simp;done)|(go_simp; rfl)); intro w98 hw; have hg : w96.grownBy w98 (some go64) := (by rw [hw]; exact HP97.2); have hp_ : Kd.R k29 29 w98 w.heap.size (fun _ => True) (.slice (some ⟨go64, 0, none⟩) x3_45.length co90) y201 := (by rw [hw, Ny201.out]; exact HP97.1); clear HP97; have n0_ := Aside0.mk (hp_); have n1_ := Aside0.mk (IsS90.grown (by repeat (first|(with_reducible first|exact HI0.out|apply IsS90.alloc|apply IsS90.drewN|apply IsS90.drew|apply IsS90.set_1|apply IsS90.set_2)|exact HI0.out)) hg (IsS90.own_ne HI0.out HO_3.out (by decide))); have n2_ := Aside0.mk (Kd.R_over' (v := (.slice (some ⟨go64, 0, none⟩) x3_45.length co90)) (by (with_reducible repeat (first|apply Kd.R_alloc|apply Kd.R_drewN|apply Kd.R_drew)); exact HO197.out) (Kd.R_typed HO_3.out) (by decide) hg); have n3_ := Aside0.mk ((by rw [hw]; exact below_set (HB.out) (Nat.le_trans HL.out GB64.out) : Below w0.heap.size w0 w98)); have n4_ := Aside0.mk (KeepBut.trans (by repeat (first|(with_reducible first|exact HK.out|apply KeepBut.set_|apply keep_drewN|apply keep_drew|apply keep_alloc)|exact HK.out)) (KeepBut.of_grown hg g) (Kd.R_base2 HO_3.out)); clear HO_3; clear HI0; clear HO197; clear HB; clear HK; have HO_3 := n0_; have HI0 := n1_; have HO197 := n2_; have HB := n3_; have HK := n4_; clear n0_ n1_ n2_ n3_ n4_; clear hg hw hp_))
            go_ret
            exact ⟨_, by first | rfl|(simp [errW_none, errW_some] <;> rfl)|(simp [*, errW_none, errW_some] <;> rfl), by (with_reducible repeat (first|apply Kd.R_alloc|apply Kd.R_drewN|apply Kd.R_drew)); exact HO_3.out, by repeat (first|(with_reducible first|exact HI0.out|apply IsS90.alloc|apply IsS90.drewN|apply IsS90.drew|apply IsS90.set_1|apply IsS90.set_2)|exact HI0.out), by repeat (first|(with_reducible first|exact HB.out|apply below_alloc|apply pw_below_drewN|apply below_drew1 | refine below_set ?_ (IsS90.ge HI0.out))|exact HB.out), by repeat (first|(with_reducible first|exact HK.out|apply KeepBut.set_|apply keep_drewN|apply keep_drew|apply keep_alloc)|exact HK.out)⟩
           ·rw [if_neg c88] at H
            have c88b0 : (t178 == 2) = false := beq_eq_false_iff_ne.mpr c88
            have c88b1 : (t178 != 2) = true := bne_iff_ne.mpr c88
            by_cases c99 : t178 = 3
            ·rw [if_pos c99] at H
             have c99b0 : (t178 == 3) = true := beq_iff_eq.mpr c99
             have c99b1 : (t178 != 3) = false := bne_eq_false_iff_eq.mpr c99
             clear c99
             obtain ⟨y202, hy202⟩ : ∃ y_ : List Int, y_ = (([(-2), 0, wrap64 ((x3_45.length : Int) - 1), (x3_45.length : Int)] : List Int)) := ⟨_, rfl⟩
             replace H : ((spec_l1Cur_among.f s0_0 t179 t180 y202).bind fun bt205 => (some ((x3_45.set (t175 : Int).toNat (⟨(rd_T29 x3_45 t175).f0, (rd_T29 x3_45 t175).f1, (rd_T29 x3_45 t175).f2, bt205.1⟩ : S29)), bt205.2.1, bt205.2.2))) = some (r1, r2, r3) := by first|(rw [hy202]; with_reducible exact H)|(have H2_ := (Option.bind_some _ _).symm.trans H; rw [hy202]; with_reducible exact H2_)|(have H2_ := (Option.bind_some _ _).symm.trans H; with_reducible exact H2_) | with_reducible exact H|(rw [hy202]; exact H)|exact H
             have Ny202 := Aside0.mk hy202
             clear hy202
             replace H := Option.bind_eq_some_iff.mp H
             obtain ⟨⟨t205, t206, t207⟩, A1000, H⟩ := H
             try dsimp only at H
             have A100 := Aside0.mk A1000
             clear A1000
             obtain ⟨y208, hy208⟩ : ∃ y_ : List (S29), y_ = (x3_45.set (t175 : Int).toNat (⟨(rd_T29 x3_45 t175).f0, (rd_T29 x3_45 t175).f1, (rd_T29 x3_45 t175).f2, t205⟩ : S29)) := ⟨_, rfl⟩
             replace H : (some (y208, t206, t207)) = some (r1, r2, r3) := by first|(rw [hy208]; with_reducible exact H)|(have H2_ := (Option.bind_some _ _).symm.trans H; rw [hy208]; with_reducible exact H2_)|(have H2_ := (Option.bind_some _ _).symm.trans H; with_reducible exact H2_) | with_reducible exact H|(rw [hy208]; exact H)|exact H
             have Ny208 := Aside0.mk hy208
             clear hy208
             simp only [Option.some.injEq, Prod.mk.injEq] at H
             obtain ⟨rfl, rfl, rfl⟩ := H
             obtain ⟨Ao101, co101, eo101⟩ := Kd.R_slice HO_3.out
             subst eo101
             go_wp2_with (first|((with_reducible refine gate_callee (f := 89) rfl ?_); refine goesL_ (some 81) rfl rfl Try.func89 (by kernel_rfl) rfl #[.pointer (some ⟨g, 0, none⟩), .int .i64 (x3_45.length : Int)] rfl (by (try simp only [List.map_toArray, List.map_cons, List.map_nil]); first | done | rfl|(simp only [List.length_drop, List.length_take]; rfl)) ?_; (with_reducible refine (spec_l1Cur_pick.calls g s0_0 x1001_45 x1002_45 (x3_45.length : Int) t175 t176 t177 w0 _ ?side1 ?side2 A61.out).mono ?_);(case side1 => repeat (first|(with_reducible first|exact HI0.out|apply IsS90.alloc|apply IsS90.drewN|apply IsS90.drew|apply IsS90.set_1|apply IsS90.set_2)|exact HI0.out));(case side2 => repeat (first|(with_reducible first|exact HB.out|apply below_alloc|apply pw_below_drewN|apply below_drew1 | refine below_set ?_ (IsS90.ge HI0.out))|exact HB.out)); rintro e w102 ⟨rfl, hi, hb, hk⟩; refine ⟨_, rfl, ?_⟩; have n0_ := Aside0.mk (Kd.R_mono (Kd.R_keep (IsS90.apart (show IsS90 w0 _ g s0_0 x1001_45 x1002_45 from by repeat (first|(with_reducible first|exact HI0.out|apply IsS90.alloc|apply IsS90.drewN|apply IsS90.drew|apply IsS90.set_1|apply IsS90.set_2)|exact HI0.out)) (by (with_reducible repeat (first|apply Kd.R_alloc|apply Kd.R_drewN|apply Kd.R_drew)); exact HO_3.out) (by decide)) hk (fun _ h => h.2)) (fun _ h => h.1)); have n1_ := Aside0.mk (KeepBut.trans (by repeat (first|(with_reducible first|exact HK.out|apply KeepBut.set_|apply keep_drewN|apply keep_drew|apply keep_alloc)|exact HK.out)) hk (.inl rfl)); have n2_ := Aside0.mk (hb); have n3_ := Aside0.mk (hi); clear HO_3; clear HK; clear HB; clear HI0; have HO_3 := n0_; have HK := n1_; have HB := n2_; have HI0 := n3_; clear n0_ n1_ n2_ n3_; (try clear hb); (try clear hb2); (try clear hk); (try clear hi); have p64 : 0 ≤ (t175 : Int) := of_decide_eq_true (by first|(with_reducible assumption) | assumption); have q64 : (t175 : Int) < ((x3_45.length : Int) : Int) := of_decide_eq_true (by first|(with_reducible assumption) | assumption); obtain ⟨go64, co64, eo64, gb64, gl64, cl64, HG64⟩ := Kd.R_form HO_3.out (by omega); (first|cases eo64|(injection eo64 with ea_ en_ ec_; (first|subst ea_|(injection ea_ with ea_; subst ea_)); subst ec_; clear en_)); have GB64 := Aside0.mk gb64; have GG64 := Aside0.mk HG64; clear gb64 gl64 HG64; obtain ⟨ce64, hcl64, hM64, hcc64, hfr64⟩ := Kd.R_elem HO_3.out z29 (t175 : Int) p64 q64; obtain rfl := k29_openM hM64; have hx64_0 : w102.cell? ⟨go64, (t175 : Int).toNat * 4, none⟩ = some (.string ((rd_T29 x3_45 t175).f0)) := hcc64 0 _ rfl; have hx64_1 : w102.cell? ⟨go64, (t175 : Int).toNat * 4 + 1, none⟩ = some (.string ((rd_T29 x3_45 t175).f1)) := hcc64 1 _ rfl; have hx64_2 : w102.cell? ⟨go64, (t175 : Int).toNat * 4 + 2, none⟩ = some (.int .i64 ((rd_T29 x3_45 t175).f2)) := hcc64 2 _ rfl; have hx64_3 : w102.cell? ⟨go64, (t175 : Int).toNat * 4 + 3, none⟩ = some (.int .i64 ((rd_T29 x3_45 t175).f3)) := hcc64 3 _ rfl; have hf64_0 : w102.frozen? ⟨go64, (t175 : Int).toNat * 4, none⟩ = false := hfr64 0; have hf64_1 : w102.frozen? ⟨go64, (t175 : Int).toNat * 4 + 1, none⟩ = false := hfr64 1; have hf64_2 : w102.frozen? ⟨go64, (t175 : Int).toNat * 4 + 2, none⟩ = false := hfr64 2; have hf64_3 : w102.frozen? ⟨go64, (t175 : Int).toNat * 4 + 3, none⟩ = false := hfr64 3; clear hcl64 hcc64 hfr64; (try clear hM64); replace p64 := eq_true p64; replace q64 := eq_true q64)|((with_reducible refine gate_callee (f := 89) rfl ?_); refine goesL_ (some 84) rfl rfl Try.func89 (by kernel_rfl) rfl #[.pointer (some ⟨g, 0, none⟩), .int .i64 30] rfl (by (try simp only [List.map_toArray, List.map_cons, List.map_nil]); first | done | rfl|(simp only [List.length_drop, List.length_take]; rfl)) ?_; (with_reducible refine (spec_l1Cur_pick.calls g s0_0 t176 t177 30 t178 t179 t180 w0 _ ?side1 ?side2 A65.out).mono ?_);(case side1 => repeat (first|(with_reducible first|exact HI0.out|apply IsS90.alloc|apply IsS90.drewN|apply IsS90.drew|apply IsS90.set_1|apply IsS90.set_2)|exact HI0.out));(case side2 => repeat (first|(with_reducible first|exact HB.out|apply below_alloc|apply pw_below_drewN|apply below_drew1 | refine below_set ?_ (IsS90.ge HI0.out))|exact HB.out)); rintro e w103 ⟨rfl, hi, hb, hk⟩; refine ⟨_, rfl, ?_⟩; have n0_ := Aside0.mk (Kd.R_mono (Kd.R_keep (IsS90.apart (show IsS90 w0 _ g s0_0 t176 t177 from by repeat (first|(with_reducible first|exact HI0.out|apply IsS90.alloc|apply IsS90.drewN|apply IsS90.drew|apply IsS90.set_1|apply IsS90.set_2)|exact HI0.out)) (by (with_reducible repeat (first|apply Kd.R_alloc|apply Kd.R_drewN|apply Kd.R_drew)); exact HO_3.out) (by decide)) hk (fun _ h => h.2)) (fun _ h => h.1)); have n1_ := Aside0.mk (KeepBut.trans (by repeat (first|(with_reducible first|exact HK.out|apply KeepBut.set_|apply keep_drewN|apply keep_drew|apply keep_alloc)|exact HK.out)) hk (.inl rfl)); have n2_ := Aside0.mk (hb); have n3_ := Aside0.mk (hi); clear HO_3; clear HK; clear HB; clear HI0; have HO_3 := n0_; have HK := n1_; have HB := n2_; have HI0 := n3_; clear n0_ n1_ n2_ n3_; (try clear hb); (try clear hb2); (try clear hk); (try clear hi))|((with_reducible refine gate_dst (N := 118) rfl ?_); refine Kd.R_lit (Kd.int .i64) _ 3 ?hg (N := 118) ?hd (xs := ([(-2), 0, wrap64 ((x3_45.length : Int) - 1), (x3_45.length : Int)] : List Int)) (inner := [.int .i64 (-2), .int .i64 0, .int .i64 (wrap64 ((x3_45.length : Int) - 1)), .int .i64 (x3_45.length : Int)]) (ok := fun _ => True) (okp := fun _ => True) ?hr ?hp (fun _ hk => hk) trivial (Below.refl _ _) (Nat.le_refl _) (by simp) ?_;(case hd => rfl);(case hg => rfl);(case hr => first|(go_simp;done)|(go_simp; rfl));(case hp => exact (Reps.one (show Kd.M (Kd.int .i64) _ _ _ (-2) [.int .i64 (-2)] from rfl) (Reps.one (show Kd.M (Kd.int .i64) _ _ _ 0 [.int .i64 0] from rfl) (Reps.one (show Kd.M (Kd.int .i64) _ _ _ (wrap64 ((x3_45.length : Int) - 1)) [.int .i64 (wrap64 ((x3_45.length : Int) - 1))] from rfl) (Reps.one (show Kd.M (Kd.int .i64) _ _ _ (x3_45.length : Int) [.int .i64 (x3_45.length : Int)] from rfl) (Reps.none _ _)))))); intro v203 w104 ho105 hb hg_ hnew_; clear hg_ hnew_; (first|rw [← Ny202.out] at ho105|(simp only [Int.reduceToNat] at ho105; rw [← Ny202.out] at ho105)); have n0_ := Aside0.mk (Kd.R_below (by (with_reducible repeat (first|apply Kd.R_alloc|apply Kd.R_drewN|apply Kd.R_drew)); exact HO_3.out) hb); have n1_ := Aside0.mk (Kd.R_lower ho105 (keep_size (w := w) (g := g) (row := none) (by repeat (first|(with_reducible first|exact HK.out|apply KeepBut.set_|apply keep_drewN|apply keep_drew|apply keep_alloc)|exact HK.out)))); have n2_ := Aside0.mk (IsS90.below (by repeat (first|(with_reducible first|exact HI0.out|apply IsS90.alloc|apply IsS90.drewN|apply IsS90.drew|apply IsS90.set_1|apply IsS90.set_2)|exact HI0.out)) hb); have n3_ := Aside0.mk (KeepBut.trans (by repeat (first|(with_reducible first|exact HK.out|apply KeepBut.set_|apply keep_drewN|apply keep_drew|apply keep_alloc)|exact HK.out)) (KeepBut.of_below hb g none) (.inl rfl)); have n4_ := Aside0.mk (below_step (by repeat (first|(with_reducible first|exact HB.out|apply below_alloc|apply pw_below_drewN|apply below_drew1 | refine below_set ?_ (IsS90.ge HI0.out))|exact HB.out)) hb); clear HO_3; clear HI0; clear HK; clear HB; have HO_3 := n0_; have HO204 := n1_; have HI0 := n2_; have HK := n3_; have HB := n4_; clear n0_ n1_ n2_ n3_ n4_; clear hb ho105; obtain ⟨Ao106, co106, eo106⟩ := Kd.R_slice HO204.out; subst eo106)|((with_reducible refine gate_callee (f := 72) rfl ?_); refine goesL_ (some 119) rfl rfl Try.func72 (by kernel_rfl) rfl #[.pointer (some ⟨g, 0, none⟩), .slice Ao106 y202.length co106] rfl (by (try simp only [List.map_toArray, List.map_cons, List.map_nil]); first | done | rfl|(simp only [List.length_drop, List.length_take]; rfl)) ?_; (with_reducible refine (spec_l1Cur_among.calls g s0_0 t179 t180 _ _ y202 t205 t206 t207 w0 _ ?side1 ?side2 ?side3 ?side4 ?side5 A100.out).mono ?_);(case side1 => repeat (first|(with_reducible first|exact HI0.out|apply IsS90.alloc|apply IsS90.drewN|apply IsS90.drew|apply IsS90.set_1|apply IsS90.set_2)|exact HI0.out));(case side2 => repeat (first|(with_reducible first|exact HB.out|apply below_alloc|apply pw_below_drewN|apply below_drew1 | refine below_set ?_ (IsS90.ge HI0.out))|exact HB.out));(case side3 => repeat (first|exact (Kd.R_reads' HO204.out).2.2|(with_reducible refine Kd.C_alloc ?_ _)|(with_reducible refine Kd.C_drewN ?_ _)|(with_reducible refine Kd.C_drew ?_)));(case side4 => exact (Kd.R_reads' HO204.out).2.1);(case side5 => exact far_slice (IsS90.own_ne HI0.out HO204.out (by decide))); rintro e w107 ⟨rfl, hi, hb, hk⟩; refine ⟨_, rfl, ?_⟩; have n0_ := Aside0.mk (Kd.R_mono (Kd.R_keep (IsS90.apart (show IsS90 w0 _ g s0_0 t179 t180 from by repeat (first|(with_reducible first|exact HI0.out|apply IsS90.alloc|apply IsS90.drewN|apply IsS90.drew|apply IsS90.set_1|apply IsS90.set_2)|exact HI0.out)) (by (with_reducible repeat (first|apply Kd.R_alloc|apply Kd.R_drewN|apply Kd.R_drew)); exact HO_3.out) (by decide)) hk (fun _ h => h.2)) (fun _ h => h.1)); have n1_ := Aside0.mk (Kd.R_mono (Kd.R_keep (IsS90.apart (show IsS90 w0 _ g s0_0 t179 t180 from by repeat (first|(with_reducible first|exact HI0.out|apply IsS90.alloc|apply IsS90.drewN|apply IsS90.drew|apply IsS90.set_1|apply IsS90.set_2)|exact HI0.out)) (by (with_reducible repeat (first|apply Kd.R_alloc|apply Kd.R_drewN|apply Kd.R_drew)); exact HO204.out) (by decide)) hk (fun _ h => h.2)) (fun _ h => h.1)); have n2_ := Aside0.mk (KeepBut.trans (by repeat (first|(with_reducible first|exact HK.out|apply KeepBut.set_|apply keep_drewN|apply keep_drew|apply keep_alloc)|exact HK.out)) hk (.inl rfl)); have n3_ := Aside0.mk (hb); have n4_ := Aside0.mk (hi); clear HO_3; clear HO204; clear HK; clear HB; clear HI0; have HO_3 := n0_; have HO204 := n1_; have HK := n2_; have HB := n3_; have HI0 := n4_; clear n0_ n1_ n2_ n3_ n4_; (try clear hb); (try clear hb2); (try clear hk); (try clear hi); have HX108 := Aside0.mk (show Kd.R k29 29 w107 w.heap.size (fun _ => True) (.slice (some ⟨go64, 0, none⟩) x3_45.length co101) x3_45 from (by (with_reducible repeat (first|apply Kd.R_alloc|apply Kd.R_drewN|apply Kd.R_drew)); exact HO_3.out)); obtain ⟨ce108, hcl108, hM108, hcc108, hfr108⟩ := Kd.R_elem HX108.out z29 (t175 : Int) (of_decide_eq_true (by first|(with_reducible assumption) | assumption)) (by have h_ : (t175 : Int) < ((x3_45.length : Int) : Int) := of_decide_eq_true (by first|(with_reducible assumption) | assumption); first|exact h_|(have e_ := (Kd.R_reads' HO_3.out).1; omega) | simpa using h_); obtain rfl := k29_openM hM108; have HP108 := Kd.R_seg HX108.out (t175 : Int) (of_decide_eq_true (by first|(with_reducible assumption) | assumption)) (by have h_ : (t175 : Int) < ((x3_45.length : Int) : Int) := of_decide_eq_true (by first|(with_reducible assumption) | assumption); first|exact h_|(have e_ := (Kd.R_reads' HO_3.out).1; omega) | simpa using h_) (seg := [.int .i64 t205]) (j := 3) hcl108 hcc108 (show 4 ≤ 4 from by decide) (x' := (⟨(rd_T29 x3_45 t175).f0, (rd_T29 x3_45 t175).f1, (rd_T29 x3_45 t175).f2, t205⟩ : S29)) (k29_mkM _ _ _ (⟨(rd_T29 x3_45 t175).f0, (rd_T29 x3_45 t175).f1, (rd_T29 x3_45 t175).f2, t205⟩ : S29) ) (fun _ hk => hk); have hx108_3 := hcc108 3 _ rfl; (try simp only [show (k29).sz = 4 from rfl, Nat.mul_one, Nat.add_zero] at hx108_3); have hf108_3 := hfr108 3; (try simp only [show (k29).sz = 4 from rfl, Nat.mul_one, Nat.add_zero] at hf108_3); clear hcl108 hcc108 hfr108; (try clear hM108))|((with_reducible refine gate_store (t := 3) (p := 121) rfl ?_); refine store_event (t := 3) (p := 121) (v := ?vo_w109) (w1 := (w107.setCell ⟨go64, (t175 : Int).toNat * 4 + 3, none⟩ (.int .i64 t205))) ?hg ?ho ?hn ?hr ?_;(case ho => rfl);(case hg => rfl);(case hn => rfl);(case hr => first|(go_simp;done)|(go_simp; rfl)); intro w109 hw; have hg : w107.grownBy w109 (some go64) := (by rw [hw]; exact HP108.2); have hp_ : Kd.R k29 29 w109 w.heap.size (fun _ => True) (.slice (some ⟨go64, 0, none⟩) x3_45.length co101) y208 := (by rw [hw, Ny208.out]; exact HP108.1); clear HP108; have n0_ := Aside0.mk (hp_); have n1_ := Aside0.mk (IsS90.grown (by repeat (first|(with_reducible first|exact HI0.out|apply IsS90.alloc|apply IsS90.drewN|apply IsS90.drew|apply IsS90.set_1|apply IsS90.set_2)|exact HI0.out)) hg (IsS90.own_ne HI0.out HO_3.out (by decide))); have n2_ := Aside0.mk (Kd.R_over' (v := (.slice (some ⟨go64, 0, none⟩) x3_45.length co101)) (by (with_reducible repeat (first|apply Kd.R_alloc|apply Kd.R_drewN|apply Kd.R_drew)); exact HO204.out) (Kd.R_typed HO_3.out) (by decide) hg); have n3_ := Aside0.mk ((by rw [hw]; exact below_set (HB.out) (Nat.le_trans HL.out GB64.out) : Below w0.heap.size w0 w109)); have n4_ := Aside0.mk (KeepBut.trans (by repeat (first|(with_reducible first|exact HK.out|apply KeepBut.set_|apply keep_drewN|apply keep_drew|apply keep_alloc)|exact HK.out)) (KeepBut.of_grown hg g) (Kd.R_base2 HO_3.out)); clear HO_3; clear HI0; clear HO204; clear HB; clear HK; have HO_3 := n0_; have HI0 := n1_; have HO204 := n2_; have HB := n3_; have HK := n4_; clear n0_ n1_ n2_ n3_ n4_; clear hg hw hp_))
             go_ret
             exact ⟨_, by first | rfl|(simp [errW_none, errW_some] <;> rfl)|(simp [*, errW_none, errW_some] <;> rfl), by (with_reducible repeat (first|apply Kd.R_alloc|apply Kd.R_drewN|apply Kd.R_drew)); exact HO_3.out, by repeat (first|(with_reducible first|exact HI0.out|apply IsS90.alloc|apply IsS90.drewN|apply IsS90.drew|apply IsS90.set_1|apply IsS90.set_2)|exact HI0.out), by repeat (first|(with_reducible first|exact HB.out|apply below_alloc|apply pw_below_drewN|apply below_drew1 | refine below_set ?_ (IsS90.ge HI0.out))|exact HB.out), by repeat (first|(with_reducible first|exact HK.out|apply KeepBut.set_|apply keep_drewN|apply keep_drew|apply keep_alloc)|exact HK.out)⟩
            ·rw [if_neg c99] at H
             have c99b0 : (t178 == 3) = false := beq_eq_false_iff_ne.mpr c99
             have c99b1 : (t178 != 3) = true := bne_iff_ne.mpr c99
             simp only [Option.some.injEq, Prod.mk.injEq] at H
             obtain ⟨rfl, rfl, rfl⟩ := H
             obtain ⟨Ao110, co110, eo110⟩ := Kd.R_slice HO_3.out
             subst eo110
             go_wp2_with (first|((with_reducible refine gate_callee (f := 89) rfl ?_); refine goesL_ (some 81) rfl rfl Try.func89 (by kernel_rfl) rfl #[.pointer (some ⟨g, 0, none⟩), .int .i64 (x3_45.length : Int)] rfl (by (try simp only [List.map_toArray, List.map_cons, List.map_nil]); first | done | rfl|(simp only [List.length_drop, List.length_take]; rfl)) ?_; (with_reducible refine (spec_l1Cur_pick.calls g s0_0 x1001_45 x1002_45 (x3_45.length : Int) t175 t176 t177 w0 _ ?side1 ?side2 A61.out).mono ?_);(case side1 => repeat (first|(with_reducible first|exact HI0.out|apply IsS90.alloc|apply IsS90.drewN|apply IsS90.drew|apply IsS90.set_1|apply IsS90.set_2)|exact HI0.out));(case side2 => repeat (first|(with_reducible first|exact HB.out|apply below_alloc|apply pw_below_drewN|apply below_drew1 | refine below_set ?_ (IsS90.ge HI0.out))|exact HB.out)); rintro e w111 ⟨rfl, hi, hb, hk⟩; refine ⟨_, rfl, ?_⟩; have n0_ := Aside0.mk (Kd.R_mono (Kd.R_keep (IsS90.apart (show IsS90 w0 _ g s0_0 x1001_45 x1002_45 from by repeat (first|(with_reducible first|exact HI0.out|apply IsS90.alloc|apply IsS90.drewN|apply IsS90.drew|apply IsS90.set_1|apply IsS90.set_2)|exact HI0.out)) (by (with_reducible repeat (first|apply Kd.R_alloc|apply Kd.R_drewN|apply Kd.R_drew)); exact HO_3.out) (by decide)) hk (fun _ h => h.2)) (fun _ h => h.1)); have n1_ := Aside0.mk (KeepBut.trans (by repeat (first|(with_reducible first|exact HK.out|apply KeepBut.set_|apply keep_drewN|apply keep_drew|apply keep_alloc)|exact HK.out)) hk (.inl rfl)); have n2_ := Aside0.mk (hb); have n3_ := Aside0.mk (hi); clear HO_3; clear HK; clear HB; clear HI0; have HO_3 := n0_; have HK := n1_; have HB := n2_; have HI0 := n3_; clear n0_ n1_ n2_ n3_; (try clear hb); (try clear hb2); (try clear hk); (try clear hi); have p64 : 0 ≤ (t175 : Int) := of_decide_eq_true (by first|(with_reducible assumption) | assumption); have q64 : (t175 : Int) < ((x3_45.length : Int) : Int) := of_decide_eq_true (by first|(with_reducible assumption) | assumption); obtain ⟨go64, co64, eo64, gb64, gl64, cl64, HG64⟩ := Kd.R_form HO_3.out (by omega); (first|cases eo64|(injection eo64 with ea_ en_ ec_; (first|subst ea_|(injection ea_ with ea_; subst ea_)); subst ec_; clear en_)); have GB64 := Aside0.mk gb64; have GG64 := Aside0.mk HG64; clear gb64 gl64 HG64; obtain ⟨ce64, hcl64, hM64, hcc64, hfr64⟩ := Kd.R_elem HO_3.out z29 (t175 : Int) p64 q64; obtain rfl := k29_openM hM64; have hx64_0 : w111.cell? ⟨go64, (t175 : Int).toNat * 4, none⟩ = some (.string ((rd_T29 x3_45 t175).f0)) := hcc64 0 _ rfl; have hx64_1 : w111.cell? ⟨go64, (t175 : Int).toNat * 4 + 1, none⟩ = some (.string ((rd_T29 x3_45 t175).f1)) := hcc64 1 _ rfl; have hx64_2 : w111.cell? ⟨go64, (t175 : Int).toNat * 4 + 2, none⟩ = some (.int .i64 ((rd_T29 x3_45 t175).f2)) := hcc64 2 _ rfl; have hx64_3 : w111.cell? ⟨go64, (t175 : Int).toNat * 4 + 3, none⟩ = some (.int .i64 ((rd_T29 x3_45 t175).f3)) := hcc64 3 _ rfl; have hf64_0 : w111.frozen? ⟨go64, (t175 : Int).toNat * 4, none⟩ = false := hfr64 0; have hf64_1 : w111.frozen? ⟨go64, (t175 : Int).toNat * 4 + 1, none⟩ = false := hfr64 1; have hf64_2 : w111.frozen? ⟨go64, (t175 : Int).toNat * 4 + 2, none⟩ = false := hfr64 2; have hf64_3 : w111.frozen? ⟨go64, (t175 : Int).toNat * 4 + 3, none⟩ = false := hfr64 3; clear hcl64 hcc64 hfr64; (try clear hM64); replace p64 := eq_true p64; replace q64 := eq_true q64)|((with_reducible refine gate_callee (f := 89) rfl ?_); refine goesL_ (some 84) rfl rfl Try.func89 (by kernel_rfl) rfl #[.pointer (some ⟨g, 0, none⟩), .int .i64 30] rfl (by (try simp only [List.map_toArray, List.map_cons, List.map_nil]); first | done | rfl|(simp only [List.length_drop, List.length_take]; rfl)) ?_; (with_reducible refine (spec_l1Cur_pick.calls g s0_0 t176 t177 30 t178 t179 t180 w0 _ ?side1 ?side2 A65.out).mono ?_);(case side1 => repeat (first|(with_reducible first|exact HI0.out|apply IsS90.alloc|apply IsS90.drewN|apply IsS90.drew|apply IsS90.set_1|apply IsS90.set_2)|exact HI0.out));(case side2 => repeat (first|(with_reducible first|exact HB.out|apply below_alloc|apply pw_below_drewN|apply below_drew1 | refine below_set ?_ (IsS90.ge HI0.out))|exact HB.out)); rintro e w112 ⟨rfl, hi, hb, hk⟩; refine ⟨_, rfl, ?_⟩; have n0_ := Aside0.mk (Kd.R_mono (Kd.R_keep (IsS90.apart (show IsS90 w0 _ g s0_0 t176 t177 from by repeat (first|(with_reducible first|exact HI0.out|apply IsS90.alloc|apply IsS90.drewN|apply IsS90.drew|apply IsS90.set_1|apply IsS90.set_2)|exact HI0.out)) (by (with_reducible repeat (first|apply Kd.R_alloc|apply Kd.R_drewN|apply Kd.R_drew)); exact HO_3.out) (by decide)) hk (fun _ h => h.2)) (fun _ h => h.1)); have n1_ := Aside0.mk (KeepBut.trans (by repeat (first|(with_reducible first|exact HK.out|apply KeepBut.set_|apply keep_drewN|apply keep_drew|apply keep_alloc)|exact HK.out)) hk (.inl rfl)); have n2_ := Aside0.mk (hb); have n3_ := Aside0.mk (hi); clear HO_3; clear HK; clear HB; clear HI0; have HO_3 := n0_; have HK := n1_; have HB := n2_; have HI0 := n3_; clear n0_ n1_ n2_ n3_; (try clear hb); (try clear hb2); (try clear hk); (try clear hi)))
             go_ret
             exact ⟨_, by first | rfl|(simp [errW_none, errW_some] <;> rfl)|(simp [*, errW_none, errW_some] <;> rfl), by (with_reducible repeat (first|apply Kd.R_alloc|apply Kd.R_drewN|apply Kd.R_drew)); exact HO_3.out, by repeat (first|(with_reducible first|exact HI0.out|apply IsS90.alloc|apply IsS90.drewN|apply IsS90.drew|apply IsS90.set_1|apply IsS90.set_2)|exact HI0.out), by repeat (first|(with_reducible first|exact HB.out|apply below_alloc|apply pw_below_drewN|apply below_drew1 | refine below_set ?_ (IsS90.ge HI0.out))|exact HB.out), by repeat (first|(with_reducible first|exact HK.out|apply KeepBut.set_|apply keep_drewN|apply keep_drew|apply keep_alloc)|exact HK.out)⟩
        ·rw [if_neg c63] at H
         exact absurd H (by simp)
       ·rw [if_neg c62] at H
        exact absurd H (by simp)
      ·rw [if_neg c60] at H
       have c60b0 : decide (0 < (x3_45.length : Int)) = false := decide_eq_false c60
       have c60b1 : decide (0 < x3_45.length) = false := decide_eq_false (by omega)
       clear c60
       simp only [Option.some.injEq, Prod.mk.injEq] at H
       obtain ⟨rfl, rfl, rfl⟩ := H
       obtain ⟨Ao113, co113, eo113⟩ := Kd.R_slice HO_3.out
       subst eo113
       go_wp2
       go_ret
       exact ⟨_, by first | rfl|(simp [errW_none, errW_some] <;> rfl)|(simp [*, errW_none, errW_some] <;> rfl), by (with_reducible repeat (first|apply Kd.R_alloc|apply Kd.R_drewN|apply Kd.R_drew)); exact HO_3.out, by repeat (first|(with_reducible first|exact HI0.out|apply IsS90.alloc|apply IsS90.drewN|apply IsS90.drew|apply IsS90.set_1|apply IsS90.set_2)|exact HI0.out), by repeat (first|(with_reducible first|exact HB.out|apply below_alloc|apply pw_below_drewN|apply below_drew1 | refine below_set ?_ (IsS90.ge HI0.out))|exact HB.out), by repeat (first|(with_reducible first|exact HK.out|apply KeepBut.set_|apply keep_drewN|apply keep_drew|apply keep_alloc)|exact HK.out)⟩

end Go.Proofs.Ytlbbkepkincleaa.QFnRolls
