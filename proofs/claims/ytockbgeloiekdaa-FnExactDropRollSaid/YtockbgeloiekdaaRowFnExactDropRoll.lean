/- The law FnExactDropRoll of the program returns true for every input that can be read, and leaves its arguments as they were. -/
import Derived.Test.YtockbgeloiekdaaQFnExactDropRollx8
import Derived.Test.YtockbgeloiekdaaLDropRoll
import Derived.Test.YtockbgeloiekdaaRows
import Derived.Test.YtockbgeloiekdaaFits
import Derived.WalkKit
import Derived.ProofKit
import Derived.OpenShut
import Derived.ShutString
import Derived.ChangeOld
import Derived.Below
import Derived.SizedLaws
namespace Go.Proofs.Ytockbgeloiekdaa.rowFnExactDropRoll
open Go Go.ChangeShapes Go.WideShapes Go.ChangeAt Go.RowKit
open Go.ChangeMaps (open_string shut_string)
open Go.Proofs.Ytockbgeloiekdaa.QFnExactDropRoll Go.Proofs.Ytockbgeloiekdaa.Fits Go.Proofs.YtockbgeloiekdaaW.PrintWords
set_option linter.unusedVariables false
theorem own : ownKnob Try.prog.godebug = none := by kernel_rfl
theorem laidOut : laidOutB Try.prog = true := by kernel_rfl
theorem fits_66 : Fits Try.prog 66 k66 (fun x => (x.f0.size ≤ 140737488351232) ∧ (x.f1.size ≤ 140737488351232) ∧ ((Lit.int .i64 x.f2).wf = true) ∧ ((Lit.int .i64 x.f3).wf = true)) :=
  fits_imp (fits_iso _ (fun a => ⟨a.1, a.2.1, a.2.2.1, a.2.2.2⟩) (fun _ => rfl) (fits_struct Try.underlying66 (by kernel_rfl) (fs_cons rfl (fits_string Try.underlying9 (by kernel_rfl)) rfl (fs_cons rfl (fits_string Try.underlying9 (by kernel_rfl)) rfl (fs_cons rfl (fits_int Try.underlying3 (by kernel_rfl)) rfl (fs_one rfl (fits_int Try.underlying3 (by kernel_rfl)))))))) (fun _ h => h)
theorem bytes_66 : Try.prog.bytesOf 66 = 48 := by kernel_rfl
set_option maxRecDepth 100000 in
theorem lifted (os : Os) (started : os.Started) (H : Type) (enc : TypeId × Value → H) :
    ReturnsInHanded {} Try.checked os 4 .any (Rows.fnExactDropRollSpec.pre6 enc Try.prog Try.f4 Rows.fnExactDropRollRow.domain false) (Rows.fnExactDropRollSpec.post enc Try.prog Try.f4 false true false false) := by
  refine returnsInHanded_of_change_sized (C := Try.checked) own started (by kernel_rfl) Try.func4
    (ChangeSpec.witness6 (enc := enc) (C := Try.checked) false ⟨#[], #[.slice none 0 0, .int .i64 0], []⟩ 8 (by kernel_rfl) (by kernel_rfl) (by kernel_rfl) (by kernel_rfl)) ?_
  intro W base args ds gs before hval0 hW hcnd hsz0 _
  have hsz : (DataW.weightsEach Try.prog (Try.f4.params.toList ++ Rows.fnExactDropRollSpec.plain.varTypes Try.prog) (ds ++ gs)).all (· ≤ reachBytes) = true := hsz0
  have hval : ∀ (j : Nat) t v, Try.f4.params[j]? = some t → args[j]? = some v → Value.okWide Try.prog W .any base t v := hval0
  have hW' := hW
  obtain ⟨p, q, hA0, hV, rfl, hfz, hnd⟩ := hW
  have hA : DataW.TrodAll enc Try.prog W 0 (fun _ => true) true Try.f4.params.toList args.toList ds p := hA0
  rw [Try.params4] at hA hval hsz
  obtain ⟨v0, vs0, d0, ds0, p0, q0, hargs, rfl, rfl, h0, r0⟩ := trodAll_cons hA
  obtain ⟨v1, vs1, d1, ds1, p1, q1, rfl, rfl, rfl, h1, r1⟩ := trodAll_cons r0
  obtain ⟨rfl, rfl, rfl⟩ := trodAll_nil r1
  obtain rfl : args = #[v0, v1] := by cases args; simp_all
  obtain ⟨rfl, rfl⟩ := trodVars_none hV
  have kk0 := h0
  have lt0 : ∀ x ∈ p0, x.block < W.heap.size := by obtain ⟨m, hm⟩ := kk0; exact DataW.trod_lt m _ _ _ hm
  obtain ⟨A0, c0, l0, rfl, hC0, hc0, hb0, hg0⟩ := param_slice Try.underlying34 (hval 0 34 v0 rfl rfl) hsz (j := 0) rfl rfl h0 (fits_slice Try.underlying34 (by kernel_rfl) fits_66)
  rw [bytes_66] at hb0
  obtain ⟨a1, rfl, rfl, rfl, w1⟩ := open_int Try.underlying3 (hval 1 3 v1 rfl rfl) h1
  obtain ⟨k, hk⟩ := LDropRoll.FnExactDropRoll l0 a1 hb0 hg0 w1
  clear hA0 hval0 hsz0 hsz
  refine (laws_FnExactDropRoll.calls k A0 c0 l0 a1 true W hC0 hc0 hk).mono fun e W' ⟨he, bel⟩ => ?_
  subst he
  exact ⟨_, rfl, _, _, _, [], _, [], hW', trodAll_mk1 (shut_bool Try.underlying4 _), (trodAll_cons_mk (Below.trod laidOut (by kernel_rfl) (of_decide_eq_true (by kernel_rfl)) kk0 bel lt0) (trodAll_cons_mk (shut_int Try.underlying3 w1) trodAll_mk0)), rfl, bel.frame _, fun h => by cases h⟩
theorem over : Rows.fnExactDropRollRow.holds Try.pinned (OpenSpec.ofChange Rows.fnExactDropRollSpec) :=
  OpenClaim.holds_of_wide 4 Try.f4 rfl rfl rfl rfl rfl rfl rfl ⟨rfl, rfl, rfl, rfl, rfl⟩ rfl rfl rfl rfl rfl (by kernel_rfl) Try.func4 (by kernel_rfl)
    (of_decide_eq_true (by kernel_rfl)) (by unfold Func.isWrapper; first | (rw [if_pos (by decide +kernel)]; kernel_rfl) | (rw [if_neg (by decide +kernel)]; exact ⟨rfl, rfl⟩))
    (fun os started H enc _ => lifted os started H enc)
theorem proved : Rows.FnExactDropRollSaid := over
#print axioms proved
end Go.Proofs.Ytockbgeloiekdaa.rowFnExactDropRoll
namespace Go.Proofs.Ytockbgeloiekdaa
/-- The row, under a short name, for the claim. -/
theorem fnExactDropRoll_holds : Rows.FnExactDropRollSaid := rowFnExactDropRoll.proved
end Go.Proofs.Ytockbgeloiekdaa
