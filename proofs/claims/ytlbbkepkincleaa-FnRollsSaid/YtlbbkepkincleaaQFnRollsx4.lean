/- Written by a program of this session (the kit's printer, with leaf contracts proved by hand put in): what each Go function computes, and that the call computes it. No condition but those that each theorem names. -/
import Derived.Test.YtlbbkepkincleaaQFnRollsx0
import Derived.Test.YtlbbkepkincleaaQFnRollsx2
import Derived.Test.YtlbbkepkincleaaQFnRollsx3
namespace Go.Proofs.Ytlbbkepkincleaa.QFnRolls
open Go.RowKit Go.Proofs.YtlbbkepkincleaaW.PrintWords Go.Proofs.YtlbbkepkincleaaW.PrintLast Go.Proofs.YtlbbkepkincleaaW.PrintMore
attribute [local go_sem] max2_int min2_int max_two min_two max_three min_three max_four min_four   -- for this text's walks alone
set_option linter.unusedVariables false
set_option linter.unusedSimpArgs false

/-! ### spec_l1Cur_rollIndex: function 126 -/
def spec_l1Cur_rollIndex.f (s0_0 : List Int) (s0_1 : Int) (s0_2 : Int) (l1 : List (S29)) : Option (Int × Int × Int) := (spec_l1Cur_pick.f s0_0 s0_1 s0_2 16).bind fun bt209 => ((spec_l1Cur_pick.f s0_0 bt209.2.1 bt209.2.2 (wrap64 ((l1.length : Int) + (wrap64 (Int.tdiv bt209.1 15))))).bind fun bt212 => ((spec_l1Cur_pick.f s0_0 bt212.2.1 bt212.2.2 24).bind fun bt215 => (some (wrap64 (bt212.1 - (wrap64 (Int.tdiv bt215.1 23))), bt215.2.1, bt215.2.2))))
set_option maxHeartbeats 8000000 in
set_option maxRecDepth 100000 in
theorem spec_l1Cur_rollIndex.calls (g : Nat) (s0_0 : List Int) (s0_1 : Int) (s0_2 : Int) (A1 : Option Addr) (c1 : Nat) (l1 : List (S29)) (r1 : Int) (r2 : Int) (r3 : Int) (w0 w : World) (hI : IsS90 w0 w g s0_0 s0_1 s0_2) (hB : Below w0.heap.size w0 w) (hr1 : ∀ W_, KeepBut w W_ g none → Kd.C k29 W_ A1 l1.length l1) (hc1 : l1.length ≤ c1) (h : spec_l1Cur_rollIndex.f s0_0 s0_1 s0_2 l1 = some (r1, r2, r3)) :
 Calls Try.prog 126 #[.pointer (some ⟨g, 0, none⟩), .slice A1 l1.length c1] w fun e w' => e = .returned (.int .i64 r1) ∧ IsS90 w0 w' g s0_0 r2 r3 ∧ Below w0.heap.size w0 w' ∧ KeepBut w w' g none := by
 have HR1 := Aside0.mk hr1
 have HC1 := Aside0.mk hc1
 clear hr1 hc1
 have HI0 := Aside0.mk hI
 have HK := Aside0.mk (KeepBut.refl w g none)
 have HL := Aside0.mk hB.size
 clear hI
 have HW0 := Aside0.mk hB.size
 have HB := Aside0.mk hB
 clear hB
 have H : ((spec_l1Cur_pick.f s0_0 s0_1 s0_2 16).bind fun bt209 => ((spec_l1Cur_pick.f s0_0 bt209.2.1 bt209.2.2 (wrap64 ((l1.length : Int) + (wrap64 (Int.tdiv bt209.1 15))))).bind fun bt212 => ((spec_l1Cur_pick.f s0_0 bt212.2.1 bt212.2.2 24).bind fun bt215 => (some (wrap64 (bt212.1 - (wrap64 (Int.tdiv bt215.1 23))), bt215.2.1, bt215.2.2))))) = some (r1, r2, r3) := h
 clear h
 replace H := Option.bind_eq_some_iff.mp H
 obtain ⟨⟨t209, t210, t211⟩, A30, H⟩ := H
 try dsimp only at H
 have A3 := Aside0.mk A30
 clear A30
 replace H := Option.bind_eq_some_iff.mp H
 obtain ⟨⟨t212, t213, t214⟩, A40, H⟩ := H
 try dsimp only at H
 have A4 := Aside0.mk A40
 clear A40
 replace H := Option.bind_eq_some_iff.mp H
 obtain ⟨⟨t215, t216, t217⟩, A50, H⟩ := H
 try dsimp only at H
 have A5 := Aside0.mk A50
 clear A50
 simp only [Option.some.injEq, Prod.mk.injEq] at H
 obtain ⟨rfl, rfl, rfl⟩ := H
 go_enter Try.func126, Try.ntmps126
 go_wp2_with (first|((with_reducible refine gate_callee (f := 89) rfl ?_); refine goesL_ (some 9) rfl rfl Try.func89 (by kernel_rfl) rfl #[.pointer (some ⟨g, 0, none⟩), .int .i64 16] rfl (by (try simp only [List.map_toArray, List.map_cons, List.map_nil]); first | done | rfl|(simp only [List.length_drop, List.length_take]; rfl)) ?_; (with_reducible refine (spec_l1Cur_pick.calls g s0_0 s0_1 s0_2 16 t209 t210 t211 w0 _ ?side1 ?side2 A3.out).mono ?_);(case side1 => repeat (first|(with_reducible first|exact HI0.out|apply IsS90.alloc|apply IsS90.drewN|apply IsS90.drew|apply IsS90.set_1|apply IsS90.set_2)|exact HI0.out));(case side2 => repeat (first|(with_reducible first|exact HB.out|apply below_alloc|apply pw_below_drewN|apply below_drew1 | refine below_set ?_ (IsS90.ge HI0.out))|exact HB.out)); rintro e w6 ⟨rfl, hi, hb, hk⟩; refine ⟨_, rfl, ?_⟩; have n0_ := Aside0.mk (KeepBut.trans (by repeat (first|(with_reducible first|exact HK.out|apply KeepBut.set_|apply keep_drewN|apply keep_drew|apply keep_alloc)|exact HK.out)) hk (.inl rfl)); have n1_ := Aside0.mk (hb); have n2_ := Aside0.mk (hi); clear HK; clear HB; clear HI0; have HK := n0_; have HB := n1_; have HI0 := n2_; clear n0_ n1_ n2_; (try clear hb); (try clear hb2); (try clear hk); (try clear hi))|((with_reducible refine gate_callee (f := 89) rfl ?_); refine goesL_ (some 12) rfl rfl Try.func89 (by kernel_rfl) rfl #[.pointer (some ⟨g, 0, none⟩), .int .i64 (wrap64 ((l1.length : Int) + (wrap64 (Int.tdiv t209 15))))] rfl (by (try simp only [List.map_toArray, List.map_cons, List.map_nil]); first | done | rfl|(simp only [List.length_drop, List.length_take]; rfl)) ?_; (with_reducible refine (spec_l1Cur_pick.calls g s0_0 t210 t211 (wrap64 ((l1.length : Int) + (wrap64 (Int.tdiv t209 15)))) t212 t213 t214 w0 _ ?side1 ?side2 A4.out).mono ?_);(case side1 => repeat (first|(with_reducible first|exact HI0.out|apply IsS90.alloc|apply IsS90.drewN|apply IsS90.drew|apply IsS90.set_1|apply IsS90.set_2)|exact HI0.out));(case side2 => repeat (first|(with_reducible first|exact HB.out|apply below_alloc|apply pw_below_drewN|apply below_drew1 | refine below_set ?_ (IsS90.ge HI0.out))|exact HB.out)); rintro e w7 ⟨rfl, hi, hb, hk⟩; refine ⟨_, rfl, ?_⟩; have n0_ := Aside0.mk (KeepBut.trans (by repeat (first|(with_reducible first|exact HK.out|apply KeepBut.set_|apply keep_drewN|apply keep_drew|apply keep_alloc)|exact HK.out)) hk (.inl rfl)); have n1_ := Aside0.mk (hb); have n2_ := Aside0.mk (hi); clear HK; clear HB; clear HI0; have HK := n0_; have HB := n1_; have HI0 := n2_; clear n0_ n1_ n2_; (try clear hb); (try clear hb2); (try clear hk); (try clear hi))|((with_reducible refine gate_callee (f := 89) rfl ?_); refine goesL_ (some 14) rfl rfl Try.func89 (by kernel_rfl) rfl #[.pointer (some ⟨g, 0, none⟩), .int .i64 24] rfl (by (try simp only [List.map_toArray, List.map_cons, List.map_nil]); first | done | rfl|(simp only [List.length_drop, List.length_take]; rfl)) ?_; (with_reducible refine (spec_l1Cur_pick.calls g s0_0 t213 t214 24 t215 t216 t217 w0 _ ?side1 ?side2 A5.out).mono ?_);(case side1 => repeat (first|(with_reducible first|exact HI0.out|apply IsS90.alloc|apply IsS90.drewN|apply IsS90.drew|apply IsS90.set_1|apply IsS90.set_2)|exact HI0.out));(case side2 => repeat (first|(with_reducible first|exact HB.out|apply below_alloc|apply pw_below_drewN|apply below_drew1 | refine below_set ?_ (IsS90.ge HI0.out))|exact HB.out)); rintro e w8 ⟨rfl, hi, hb, hk⟩; refine ⟨_, rfl, ?_⟩; have n0_ := Aside0.mk (KeepBut.trans (by repeat (first|(with_reducible first|exact HK.out|apply KeepBut.set_|apply keep_drewN|apply keep_drew|apply keep_alloc)|exact HK.out)) hk (.inl rfl)); have n1_ := Aside0.mk (hb); have n2_ := Aside0.mk (hi); clear HK; clear HB; clear HI0; have HK := n0_; have HB := n1_; have HI0 := n2_; clear n0_ n1_ n2_; (try clear hb); (try clear hb2); (try clear hk); (try clear hi)))
 go_ret
 exact ⟨by first | rfl|(simp [errW_none, errW_some] <;> rfl)|(simp [*, errW_none, errW_some] <;> rfl), by repeat (first|(with_reducible first|exact HI0.out|apply IsS90.alloc|apply IsS90.drewN|apply IsS90.drew|apply IsS90.set_1|apply IsS90.set_2)|exact HI0.out), by repeat (first|(with_reducible first|exact HB.out|apply below_alloc|apply pw_below_drewN|apply below_drew1 | refine below_set ?_ (IsS90.ge HI0.out))|exact HB.out), by repeat (first|(with_reducible first|exact HK.out|apply KeepBut.set_|apply keep_drewN|apply keep_drew|apply keep_alloc)|exact HK.out)⟩

/-! ### spec_DrawProvenanceOf: function 66 -/
def spec_DrawProvenanceOf.f (k : Nat) (l0 : List Int) : Option ((List (S29)) × Int) := (spec_l1Cur_rolls.f k l0 0 0).bind fun bt219 => ((spec_l1Cur_rollIndex.f l0 bt219.2.1 bt219.2.2 bt219.1).bind fun bt224 => (some (bt219.1, bt224.1)))
theorem spec_DrawProvenanceOf.mono : ∀ a0 k, LeO (spec_DrawProvenanceOf.f k a0) (spec_DrawProvenanceOf.f (k + 1) a0) := by
 intro a0 k
 unfold spec_DrawProvenanceOf.f
 repeat' first
  |(with_reducible exact spec_l1Cur_rolls.mono _ _ _ _)
  |(with_reducible exact LeO.refl _)
  |(with_reducible exact LeO.none _)
  |(with_reducible refine LeO.ite ?_ ?_)
  |(with_reducible refine LeO.bind ?_ (fun _ => ?_))
  |exact spec_l1Cur_rolls.mono _ _ _ _
  |exact LeO.none _
   | refine LeO.ite ?_ ?_
   | refine LeO.bind ?_ (fun _ => ?_)
set_option maxHeartbeats 8000000 in
set_option maxRecDepth 100000 in
theorem spec_DrawProvenanceOf.calls (k : Nat) (A0 : Option Addr) (c0 : Nat) (l0 : List Int) (r1 : List (S29)) (r2 : Int) (w : World) (hr0 : Kd.C (Kd.int .u8) w A0 l0.length l0) (hc0 : l0.length ≤ c0) (h : spec_DrawProvenanceOf.f k l0 = some (r1, r2)) :
 Calls Try.prog 66 #[.slice A0 l0.length c0] w fun e w' => ∃ v0_ : Value, e = .returned (.tuple #[v0_, .int .i64 r2]) ∧ Kd.R k29 29 w' w.heap.size (fun _ => True) v0_ r1 ∧ Below w.heap.size w w' := by
 have hu90 := Try.underlying90
 have HR0 := Aside0.mk hr0
 have HC0 := Aside0.mk hc0
 clear hr0 hc0
 have HB := Aside0.mk (Below.refl w.heap.size w)
 have H : ((spec_l1Cur_rolls.f k l0 0 0).bind fun bt219 => ((spec_l1Cur_rollIndex.f l0 bt219.2.1 bt219.2.2 bt219.1).bind fun bt224 => (some (bt219.1, bt224.1)))) = some (r1, r2) := h
 clear h
 replace H := Option.bind_eq_some_iff.mp H
 obtain ⟨⟨t219, t222, t223⟩, A20, H⟩ := H
 try dsimp only at H
 have A2 := Aside0.mk A20
 clear A20
 replace H := Option.bind_eq_some_iff.mp H
 obtain ⟨⟨t224, t225, t226⟩, A30, H⟩ := H
 try dsimp only at H
 have A3 := Aside0.mk A30
 clear A30
 simp only [Option.some.injEq, Prod.mk.injEq] at H
 obtain ⟨rfl, rfl⟩ := H
 go_enter Try.func66, Try.ntmps66
 go_wp2_with (first|((with_reducible refine gate_dst (N := 8) rfl ?_); refine box_event ?hg (N := 8) ?hd (cs := #[.slice A0 l0.length c0, .int .i64 0, .int .u64 0]) (t := 90) ?hr ?_;(case hd => rfl);(case hg => rfl);(case hr => first|(go_simp;done)|(go_simp; rfl)); intro g218 hg w4 hbox hb; have n0_ := Aside0.mk (below_step (by repeat (first|(with_reducible first|exact HB.out|apply below_alloc|apply pw_below_drewN|apply below_drew1)|exact HB.out)) hb); have n1_ := Aside0.mk ((⟨_, _, hbox, by rw [hg]; exact (below_size (by repeat (first|(with_reducible first|exact HB.out|apply below_alloc|apply pw_below_drewN|apply below_drew1)|exact HB.out))), HR0.out⟩ : IsS90 w w4 g218 l0 0 0)); clear HB; have HB := n0_; have HI218 := n1_; clear n0_ n1_; clear hb hbox hg)|((with_reducible refine gate_callee (f := 69) rfl ?_); refine goesL_ (some 10) rfl rfl Try.func69 (by kernel_rfl) rfl #[.pointer (some ⟨g218, 0, none⟩)] rfl (by (try simp only [List.map_toArray, List.map_cons, List.map_nil]); first | done | rfl|(simp only [List.length_drop, List.length_take]; rfl)) ?_; (with_reducible refine (spec_l1Cur_rolls.calls k g218 l0 0 0 t219 t222 t223 w _ ?side1 ?side2 A2.out).mono ?_);(case side1 => repeat (first|(with_reducible first|exact HI218.out|apply IsS90.alloc|apply IsS90.drewN|apply IsS90.drew|apply IsS90.set_1|apply IsS90.set_2)|exact HI218.out));(case side2 => repeat (first|(with_reducible first|exact HB.out|apply below_alloc|apply pw_below_drewN|apply below_drew1 | refine below_set ?_ (IsS90.ge HI218.out))|exact HB.out)); rintro e w5 ⟨v220, rfl, ho0, hi, hb, hk⟩; refine ⟨_, rfl, ?_⟩; have n0_ := Aside0.mk (Kd.R_lower ho0 (below_size (by repeat (first|(with_reducible first|exact HB.out|apply below_alloc|apply pw_below_drewN|apply below_drew1 | refine below_set ?_ (IsS90.ge HI218.out))|exact HB.out)))); have n1_ := Aside0.mk (hb); have n2_ := Aside0.mk (hi); clear HB; clear HI218; have HO221 := n0_; have HB := n1_; have HI218 := n2_; clear n0_ n1_ n2_; (try clear hb); (try clear hb2); (try clear hk); (try clear hi); (try clear ho0); obtain ⟨Ao6, co6, eo6⟩ := Kd.R_slice HO221.out; subst eo6)|((with_reducible refine gate_callee (f := 126) rfl ?_); refine goesL_ (some 14) rfl rfl Try.func126 (by kernel_rfl) rfl #[.pointer (some ⟨g218, 0, none⟩), .slice Ao6 t219.length co6] rfl (by (try simp only [List.map_toArray, List.map_cons, List.map_nil]); first | done | rfl|(simp only [List.length_drop, List.length_take]; rfl)) ?_; (with_reducible refine (spec_l1Cur_rollIndex.calls g218 l0 t222 t223 _ _ t219 t224 t225 t226 w _ ?side1 ?side2 ?side3 ?side4 A3.out).mono ?_);(case side1 => repeat (first|(with_reducible first|exact HI218.out|apply IsS90.alloc|apply IsS90.drewN|apply IsS90.drew|apply IsS90.set_1|apply IsS90.set_2)|exact HI218.out));(case side2 => repeat (first|(with_reducible first|exact HB.out|apply below_alloc|apply pw_below_drewN|apply below_drew1 | refine below_set ?_ (IsS90.ge HI218.out))|exact HB.out));(case side3 => exact Kd.C_foot_own (IsS90.apart (show IsS90 w _ g218 l0 t222 t223 from by repeat (first|(with_reducible first|exact HI218.out|apply IsS90.alloc|apply IsS90.drewN|apply IsS90.drew|apply IsS90.set_1|apply IsS90.set_2)|exact HI218.out)) (by (with_reducible repeat (first|apply Kd.R_alloc|apply Kd.R_drewN|apply Kd.R_drew)); exact HO221.out) (by decide)) (fun _ h_ => h_.2));(case side4 => exact (Kd.R_reads' HO221.out).2.1); rintro e w7 ⟨rfl, hi, hb, hk⟩; refine ⟨_, rfl, ?_⟩; have n0_ := Aside0.mk (Kd.R_mono (Kd.R_keep (IsS90.apart (show IsS90 w _ g218 l0 t222 t223 from by repeat (first|(with_reducible first|exact HI218.out|apply IsS90.alloc|apply IsS90.drewN|apply IsS90.drew|apply IsS90.set_1|apply IsS90.set_2)|exact HI218.out)) (by (with_reducible repeat (first|apply Kd.R_alloc|apply Kd.R_drewN|apply Kd.R_drew)); exact HO221.out) (by decide)) hk (fun _ h => h.2)) (fun _ h => h.1)); have n1_ := Aside0.mk (hb); have n2_ := Aside0.mk (hi); clear HO221; clear HB; clear HI218; have HO221 := n0_; have HB := n1_; have HI218 := n2_; clear n0_ n1_ n2_; (try clear hb); (try clear hb2); (try clear hk); (try clear hi)))
 go_ret2
 exact ⟨_, by first | rfl|(simp [errW_none, errW_some] <;> rfl)|(simp [*, errW_none, errW_some] <;> rfl), by (with_reducible repeat (first|apply Kd.R_alloc|apply Kd.R_drewN|apply Kd.R_drew)); exact HO221.out, by repeat (first|(with_reducible first|exact HB.out|apply below_alloc|apply pw_below_drewN|apply below_drew1 | refine below_set ?_ (IsS90.ge HI218.out))|exact HB.out)⟩

/-! ### spec_DrawDropRoll: function 7 -/
def spec_DrawDropRoll.f (k : Nat) (l0 : List Int) : Option ((List (S29)) × Int) := (spec_DrawProvenanceOf.f k l0).bind fun bt227 => (some (bt227.1, bt227.2))
theorem spec_DrawDropRoll.mono : ∀ a0 k, LeO (spec_DrawDropRoll.f k a0) (spec_DrawDropRoll.f (k + 1) a0) := by
 intro a0 k
 unfold spec_DrawDropRoll.f
 repeat' first
  |(with_reducible exact spec_DrawProvenanceOf.mono _ _)
  |(with_reducible exact LeO.refl _)
  |(with_reducible exact LeO.none _)
  |(with_reducible refine LeO.ite ?_ ?_)
  |(with_reducible refine LeO.bind ?_ (fun _ => ?_))
  |exact spec_DrawProvenanceOf.mono _ _
  |exact LeO.none _
   | refine LeO.ite ?_ ?_
   | refine LeO.bind ?_ (fun _ => ?_)
set_option maxHeartbeats 8000000 in
set_option maxRecDepth 100000 in
theorem spec_DrawDropRoll.calls (k : Nat) (A0 : Option Addr) (c0 : Nat) (l0 : List Int) (r1 : List (S29)) (r2 : Int) (w : World) (hr0 : Kd.C (Kd.int .u8) w A0 l0.length l0) (hc0 : l0.length ≤ c0) (h : spec_DrawDropRoll.f k l0 = some (r1, r2)) :
 Calls Try.prog 7 #[.slice A0 l0.length c0] w fun e w' => ∃ v0_ : Value, e = .returned (.tuple #[v0_, .int .i64 r2]) ∧ Kd.R k29 29 w' w.heap.size (fun _ => True) v0_ r1 ∧ Below w.heap.size w w' := by
 have HR0 := Aside0.mk hr0
 have HC0 := Aside0.mk hc0
 clear hr0 hc0
 have HB := Aside0.mk (Below.refl w.heap.size w)
 have H : ((spec_DrawProvenanceOf.f k l0).bind fun bt227 => (some (bt227.1, bt227.2))) = some (r1, r2) := h
 clear h
 replace H := Option.bind_eq_some_iff.mp H
 obtain ⟨⟨t227, t228⟩, A20, H⟩ := H
 try dsimp only at H
 have A2 := Aside0.mk A20
 clear A20
 simp only [Option.some.injEq, Prod.mk.injEq] at H
 obtain ⟨rfl, rfl⟩ := H
 go_enter Try.func7, Try.ntmps7
 go_wp2_with (first|((with_reducible refine gate_callee (f := 66) rfl ?_); refine goesL_ (some 5) rfl rfl Try.func66 (by kernel_rfl) rfl #[.slice A0 l0.length c0] rfl (by (try simp only [List.map_toArray, List.map_cons, List.map_nil]); first | done | rfl|(simp only [List.length_drop, List.length_take]; rfl)) ?_; (with_reducible refine (spec_DrawProvenanceOf.calls k _ _ l0 t227 t228 _ ?side1 ?side2 A2.out).mono ?_);(case side1 => repeat (first|exact HR0.out|(with_reducible refine Kd.C_alloc ?_ _)|(with_reducible refine Kd.C_drewN ?_ _)|(with_reducible refine Kd.C_drew ?_)));(case side2 => exact HC0.out); rintro e w3 ⟨v229, rfl, ho0, hb⟩; refine ⟨_, rfl, ?_⟩; have n0_ := Aside0.mk (Kd.R_lower ho0 (below_size (by repeat (first|(with_reducible first|exact HB.out|apply below_alloc|apply pw_below_drewN|apply below_drew1)|exact HB.out)))); have n1_ := Aside0.mk (below_step (by repeat (first|(with_reducible first|exact HB.out|apply below_alloc|apply pw_below_drewN|apply below_drew1)|exact HB.out)) hb); clear HB; have HO230 := n0_; have HB := n1_; clear n0_ n1_; (try clear hb); (try clear hb2); (try clear hk); (try clear hi); (try clear ho0)))
 go_ret2
 exact ⟨_, by first | rfl|(simp [errW_none, errW_some] <;> rfl)|(simp [*, errW_none, errW_some] <;> rfl), by (with_reducible repeat (first|apply Kd.R_alloc|apply Kd.R_drewN|apply Kd.R_drew)); exact HO230.out, by repeat (first|(with_reducible first|exact HB.out|apply below_alloc|apply pw_below_drewN|apply below_drew1)|exact HB.out)⟩

/-! ### impl_isWord: function 76 -/
def impl_isWord.l0 : Nat → ByteArray → Int → Int → Option (Bool)
 | 0, _, _, _ => none
 | k + 1, x0, x5, x6 => if x6 < x5 then (if 0 ≤ x6 then (if x6 < (x0.size : Int) then (if (bt x0 x6) < 97 then (some false) else (if (bt x0 x6) > 122 then (some false) else (impl_isWord.l0 k x0 x5 (wrap64 (x6 + 1))))) else (none)) else (none)) else (if (x0.size : Int) ≥ 1 then (some (decide ((x0.size : Int) ≤ 12))) else (some false))
def impl_isWord.f (k : Nat) (a0 : ByteArray) : Option (Bool) := impl_isWord.l0 k a0 (a0.size : Int) 0
theorem impl_isWord.mono_l : ∀ k, (∀ y0 y1 y2, LeO (impl_isWord.l0 k y0 y1 y2) (impl_isWord.l0 (k + 1) y0 y1 y2))
 | 0 => fun _ _ _ r h => by simp [impl_isWord.l0] at h
 | k + 1 => by
  have ih0 := impl_isWord.mono_l k
  ·intro y0 y1 y2
   unfold impl_isWord.l0
   repeat' first
   |(with_reducible exact ih0 _ _ _)
   |(with_reducible exact LeO.refl _)
   |(with_reducible exact LeO.none _)
   |(with_reducible refine LeO.ite ?_ ?_)
   |(with_reducible refine LeO.bind ?_ (fun _ => ?_))
   |exact ih0 _ _ _
   |exact LeO.none _
    | refine LeO.ite ?_ ?_
    | refine LeO.bind ?_ (fun _ => ?_)
theorem impl_isWord.mono : ∀ a0 k, LeO (impl_isWord.f k a0) (impl_isWord.f (k + 1) a0) := by
 intro a0 k
 have ih0 := impl_isWord.mono_l k
 unfold impl_isWord.f
 repeat' first
  |(with_reducible exact ih0 _ _ _)
  |(with_reducible exact LeO.refl _)
  |(with_reducible exact LeO.none _)
  |(with_reducible refine LeO.ite ?_ ?_)
  |(with_reducible refine LeO.bind ?_ (fun _ => ?_))
  |exact ih0 _ _ _
  |exact LeO.none _
   | refine LeO.ite ?_ ?_
   | refine LeO.bind ?_ (fun _ => ?_)
set_option maxHeartbeats 8000000 in
set_option maxRecDepth 100000 in
theorem impl_isWord.calls (k : Nat) (a0 : ByteArray) (r : Bool) (w : World) (h : impl_isWord.f k a0 = some r) :
 Calls Try.prog 76 #[.string a0] w fun e w' => e = .returned (.bool r) ∧ Drawn0 w w' := by
 have H : (impl_isWord.l0 k a0 (a0.size : Int) 0) = some r := h
 clear h
 have H' := Aside0.mk H
 clear H
 go_enter Try.func76, Try.ntmps76
 go_wp2
 go_loopg [6] k (fun kq v6 w' => ∃ (x6_1 : Int), v6 = .int .i64 x6_1 ∧ Aside0 (impl_isWord.l0 kq a0 (a0.size : Int) x6_1 = some r) ∧ Aside0 (kq ≤ k) ∧ Drawn0 w w')
 case atStart => exact ⟨(0), (by first | rfl|(simp;done)|(simp [*];done)), H', ⟨Nat.le_refl _⟩, by repeat (first|exact Drawn0.refl _|apply Drawn0.step)⟩
 case round =>
  clear H'
  obtain ⟨x6_1, rfl, HA, HK1, ⟨m1, rfl⟩⟩ := hrel
  cases gk with
  | zero => exact absurd HA.out (by simp [impl_isWord.l0])
  | succ k1 =>
   have H := HA.out
   clear HA
   simp only [impl_isWord.l0] at H
   by_cases c2 : x6_1 < (a0.size : Int)
   ·rw [if_pos c2] at H
    have c2b0 : decide (x6_1 < (a0.size : Int)) = true := decide_eq_true c2
    clear c2
    by_cases c3 : 0 ≤ x6_1
    ·rw [if_pos c3] at H
     have c3b0 : decide (0 ≤ x6_1) = true := decide_eq_true c3
     clear c3
     by_cases c4 : x6_1 < (a0.size : Int)
     ·rw [if_pos c4] at H
      have c4b0 : decide (x6_1 < (a0.size : Int)) = true := decide_eq_true c4
      clear c4
      by_cases c6 : (bt a0 x6_1) < 97
      ·rw [if_pos c6] at H
       have c6b0 : decide ((bt a0 x6_1) < 97) = true := decide_eq_true c6
       clear c6
       obtain rfl := Option.some.inj H
       have p5 : 0 ≤ (x6_1 : Int) := of_decide_eq_true (by first|(with_reducible assumption) | assumption)
       have q5 : x6_1 < (a0.size : Int) := of_decide_eq_true (by first|(with_reducible assumption) | assumption)
       have hx5 := bt_at a0 x6_1
       replace p5 := eq_true p5
       replace q5 := eq_true q5
       go_wp2
       go_ret
       exact ⟨by first | rfl|(simp;done)|(simp [*];done), by repeat (first|exact Drawn0.refl _|apply Drawn0.step)⟩
      ·rw [if_neg c6] at H
       have c6b0 : decide ((bt a0 x6_1) < 97) = false := decide_eq_false c6
       clear c6
       by_cases c8 : (bt a0 x6_1) > 122
       ·rw [if_pos c8] at H
        have c8b0 : decide (122 < (bt a0 x6_1)) = true := decide_eq_true c8
        clear c8
        obtain rfl := Option.some.inj H
        have p5 : 0 ≤ (x6_1 : Int) := of_decide_eq_true (by first|(with_reducible assumption) | assumption)
        have q5 : x6_1 < (a0.size : Int) := of_decide_eq_true (by first|(with_reducible assumption) | assumption)
        have hx5 := bt_at a0 x6_1
        replace p5 := eq_true p5
        replace q5 := eq_true q5
        have p7 : 0 ≤ (x6_1 : Int) := of_decide_eq_true (by first|(with_reducible assumption) | assumption)
        have q7 : x6_1 < (a0.size : Int) := of_decide_eq_true (by first|(with_reducible assumption) | assumption)
        have hx7 := bt_at a0 x6_1
        replace p7 := eq_true p7
        replace q7 := eq_true q7
        go_wp2
        go_ret
        exact ⟨by first | rfl|(simp;done)|(simp [*];done), by repeat (first|exact Drawn0.refl _|apply Drawn0.step)⟩
       ·rw [if_neg c8] at H
        have c8b0 : decide (122 < (bt a0 x6_1)) = false := decide_eq_false c8
        clear c8
        have H' := Aside0.mk H
        clear H
        have p5 : 0 ≤ (x6_1 : Int) := of_decide_eq_true (by first|(with_reducible assumption) | assumption)
        have q5 : x6_1 < (a0.size : Int) := of_decide_eq_true (by first|(with_reducible assumption) | assumption)
        have hx5 := bt_at a0 x6_1
        replace p5 := eq_true p5
        replace q5 := eq_true q5
        have p7 : 0 ≤ (x6_1 : Int) := of_decide_eq_true (by first|(with_reducible assumption) | assumption)
        have q7 : x6_1 < (a0.size : Int) := of_decide_eq_true (by first|(with_reducible assumption) | assumption)
        have hx7 := bt_at a0 x6_1
        replace p7 := eq_true p7
        replace q7 := eq_true q7
        go_wp2
        go_roundg k1
        case measure => have := HK1.out; omega
        case rel => exact ⟨(wrap64 (x6_1 + 1)), (by first | rfl|(simp;done)|(simp [*];done)), H', ⟨by have := HK1.out; omega⟩, by repeat (first|exact Drawn0.refl _|apply Drawn0.step)⟩
     ·rw [if_neg c4] at H
      exact absurd H (by simp)
    ·rw [if_neg c3] at H
     exact absurd H (by simp)
   ·rw [if_neg c2] at H
    have c2b0 : decide (x6_1 < (a0.size : Int)) = false := decide_eq_false c2
    clear c2
    by_cases c9 : (a0.size : Int) ≥ 1
    ·rw [if_pos c9] at H
     have c9b0 : decide (1 ≤ (a0.size : Int)) = true := decide_eq_true c9
     have c9b1 : decide (1 ≤ a0.size) = true := decide_eq_true (by omega)
     clear c9
     obtain rfl := Option.some.inj H
     go_wp2
     go_ret
     exact ⟨by first | rfl|(simp;done)|(simp [*];done), by repeat (first|exact Drawn0.refl _|apply Drawn0.step)⟩
    ·rw [if_neg c9] at H
     have c9b0 : decide (1 ≤ (a0.size : Int)) = false := decide_eq_false c9
     have c9b1 : decide (1 ≤ a0.size) = false := decide_eq_false (by omega)
     clear c9
     obtain rfl := Option.some.inj H
     go_wp2
     go_ret
     exact ⟨by first | rfl|(simp;done)|(simp [*];done), by repeat (first|exact Drawn0.refl _|apply Drawn0.step)⟩

-- NOT PRINTED: function 127 (impl_Roll_127)

/-! ### impl_findRoll: function 77 (by hand: the place of a title) -/
def impl_findRoll.idx (t : ByteArray) : Int → List S29 → Int
 | _, [] => -1
 | i, x :: l => if x.f0.toList = t.toList then i else impl_findRoll.idx t (i + 1) l
def impl_findRoll.f (l0 : List S29) (a1 : ByteArray) : Option Int := some (impl_findRoll.idx a1 0 l0)
set_option maxHeartbeats 4000000 in
set_option maxRecDepth 100000 in
theorem impl_findRoll.clo (B : Nat) (t : ByteArray) (x0 x1 : ByteArray) (x2 x3 : Int) (b : Bool) (W : World) (hB : B < W.heap.size) (hc : W.cell? ⟨B, 0, none⟩ = some (.string t)) (hb : (x0.toList == t.toList) = b) :
 Calls Try.prog 128 #[.agg #[.string x0, .string x1, .int .i64 x2, .int .i64 x3], .pointer (some ⟨B, 0, none⟩)] W fun e w' => e = .returned (.bool b) ∧ Below W.heap.size W w' := by
 have hc2 : ∀ o : Obj, (W.alloc o).cell? ⟨B, 0, none⟩ = some (.string t) := fun o => (World.cell?_alloc_lt _ _ _ hB).trans hc
 go_enter Try.func128, Try.ntmps128
 go_wp2
 go_ret
 exact ⟨by rw [← hb]; rfl, below_alloc (Below.refl _ _) _⟩
set_option maxHeartbeats 8000000 in
set_option maxRecDepth 100000 in
theorem impl_findRoll.fn (A0 : Option Addr) (c0 : Nat) (l0 : List S29) (B : Nat) (t : ByteArray) (w : World) (hB : B < w.heap.size) (hcB : w.cell? ⟨B, 0, none⟩ = some (.string t)) (hr0 : Kd.C k29 w A0 l0.length l0) :
 Calls Try.prog 127 #[.slice A0 l0.length c0, .func (.func 128) #[] #[.pointer (some ⟨B, 0, none⟩)]] w fun e w' => e = .returned (.int .i64 (impl_findRoll.idx t 0 l0)) ∧ Below w.heap.size w w' := by
 have HR0 := Aside0.mk hr0
 have HCB := Aside0.mk hcB
 clear hr0 hcB
 have hmax := HR0.out.2.1
 have eg := enters_of (P := Try.prog) Try.func128 (by kernel_rfl) rfl
 go_enter Try.func127, Try.ntmps127
 go_wp2
 go_loopg [5, 8] l0.length (fun gg _ s8 wr => ∃ kk : Nat, kk ≤ l0.length ∧ l0.length - kk ≤ gg ∧ s8 = .int .i64 kk ∧ Aside0 (Below w.heap.size w wr) ∧ Aside0 (impl_findRoll.idx t 0 l0 = impl_findRoll.idx t kk (l0.drop kk)))
 case atStart => exact ⟨0, Nat.zero_le _, by omega, rfl, ⟨Below.refl _ w⟩, ⟨rfl⟩⟩
 case round =>
  obtain ⟨kk, hkk, hg, rfl, HB, HI⟩ := hrel
  by_cases hlt : kk < l0.length
  ·have hltz : (kk : Int) < (l0.length : Int) := by omega
   obtain ⟨ad, e1, hx0, hx1, hx2, hx3⟩ := at_T29 HR0.out (kk : Int) (by omega) hltz
   cases e1
   simp only [Int.toNat_natCast] at hx0 hx1 hx2 hx3
   replace hx0 := (HB.out.cell (World.block_lt_of_cell? w _ hx0)).trans hx0
   replace hx1 := (HB.out.cell (World.block_lt_of_cell? w _ hx1)).trans hx1
   replace hx2 := (HB.out.cell (World.block_lt_of_cell? w _ hx2)).trans hx2
   replace hx3 := (HB.out.cell (World.block_lt_of_cell? w _ hx3)).trans hx3
   have hdrop : l0.drop kk = rd_T29 l0 (kk : Int) :: l0.drop (kk + 1) := by
    rw [List.drop_eq_getElem_cons hlt]
    congr 1
    simp [rd_T29, List.getD_eq_getElem?_getD, List.getElem?_eq_getElem hlt]
   have hsz : w.heap.size ≤ wr.heap.size := HB.out.size
   cases hq : ((rd_T29 l0 (kk : Int)).f0.toList == t.toList) with
   | true =>
    have hcall := impl_findRoll.clo B t (rd_T29 l0 (kk : Int)).f0 (rd_T29 l0 (kk : Int)).f1 (rd_T29 l0 (kk : Int)).f2 (rd_T29 l0 (kk : Int)).f3 true wr (by omega) (pw_cell_below HB.out HCB.out) hq
    have HD : Aside0 (impl_findRoll.idx t 0 l0 = (kk : Int)) := ⟨by rw [HI.out, hdrop]; simp only [impl_findRoll.idx]; rw [if_pos (by simpa using hq)]⟩
    clear hq hdrop HI
    go_wp2_with (go_at_call 128; refine hcall.mono ?_; rintro e w' ⟨rfl, hb'⟩)
    go_ret
    exact ⟨by rw [HD.out]; rfl, below_then HB.out hsz hb'⟩
   | false =>
    have hcall := impl_findRoll.clo B t (rd_T29 l0 (kk : Int)).f0 (rd_T29 l0 (kk : Int)).f1 (rd_T29 l0 (kk : Int)).f2 (rd_T29 l0 (kk : Int)).f3 false wr (by omega) (pw_cell_below HB.out HCB.out) hq
    have HD : Aside0 (impl_findRoll.idx t 0 l0 = impl_findRoll.idx t ((kk + 1 : Nat) : Int) (l0.drop (kk + 1))) := ⟨by rw [HI.out, hdrop]; simp only [impl_findRoll.idx]; rw [if_neg (by simpa using hq)]; simp⟩
    clear hq hdrop HI
    go_wp2_with (go_at_call 128; refine hcall.mono ?_; rintro e w' ⟨rfl, hb'⟩)
    go_roundg (l0.length - (kk + 1))
    case measure => omega
    case rel => exact ⟨kk + 1, by omega, by omega, by go_num, ⟨below_then HB.out hsz hb'⟩, HD⟩
  ·have hltz : ¬ (kk : Int) < (l0.length : Int) := by omega
   have hkl : kk = l0.length := by omega
   have HD : Aside0 (impl_findRoll.idx t 0 l0 = -1) := ⟨by rw [HI.out, hkl, List.drop_length]; rfl⟩
   clear HI hkl
   go_wp2
   go_ret
   exact ⟨by rw [HD.out]; rfl, HB.out⟩
set_option maxHeartbeats 8000000 in
set_option maxRecDepth 100000 in
theorem impl_findRoll.calls (A0 : Option Addr) (c0 : Nat) (l0 : List S29) (a1 : ByteArray) (r : Int) (w : World) (hr0 : Kd.C k29 w A0 l0.length l0) (hc0 : l0.length ≤ c0) (h : impl_findRoll.f l0 a1 = some r) :
 Calls Try.prog 77 #[.slice A0 l0.length c0, .string a1] w fun e w' => e = .returned (.int .i64 r) ∧ Below w.heap.size w w' := by
 obtain rfl := Option.some.inj h
 clear h
 have HR0 := Aside0.mk hr0
 clear hr0 hc0
 go_enter Try.func77, Try.ntmps77
 go_wp2_with (go_at_call 127; refine (impl_findRoll.fn A0 c0 l0 w.heap.size a1 _ (by simp) (blk_cell (blk_new w _) 0) (Kd.C_below HR0.out (below_alloc (Below.refl _ _) _))).mono ?_; rintro e w' ⟨rfl, hb⟩)
 go_ret
 exact ⟨rfl, below_then (below_alloc (Below.refl _ _) _) (by simp) hb⟩


end Go.Proofs.Ytlbbkepkincleaa.QFnRolls
