/- The law FnExactHoleNumber of the program returns true for every input that can be read, and leaves its arguments as they were. -/
import Derived.Test.YtlcobkldkcdhbaaPFnExactHoleNumberx1
import Derived.Test.YtlcobkldkcdhbaaLHoleNumber
import Derived.Test.YtlcobkldkcdhbaaRows
import Derived.Test.YtlcobkldkcdhbaaFits
import Derived.WalkKit
import Derived.ProofKit
import Derived.OpenShut
import Derived.ShutString
import Derived.ChangeOld
import Derived.Below
import Derived.SizedLaws
namespace Go.Proofs.Ytlcobkldkcdhbaa.rowFnExactHoleNumber
open Go Go.ChangeShapes Go.WideShapes Go.ChangeAt Go.RowKit
open Go.ChangeMaps (open_string shut_string)
open Go.Proofs.Ytlcobkldkcdhbaa.PFnExactHoleNumber Go.Proofs.Ytlcobkldkcdhbaa.Fits Go.Proofs.YtlcobkldkcdhbaaW.PrintWords
set_option linter.unusedVariables false
theorem own : ownKnob Try.prog.godebug = none := by kernel_rfl
theorem laidOut : laidOutB Try.prog = true := by kernel_rfl
theorem fitt_23 : Fits Try.prog 23 (Kd.pair (Kd.int .i64) (Kd.pair (Kd.int .i64) (Kd.int .i64))) (fun x => ((Lit.int .i64 x.1).wf = true) ∧ ((Lit.int .i64 x.2.1).wf = true) ∧ ((Lit.int .i64 x.2.2).wf = true)) :=
  fits_imp (fits_struct Try.underlying23 (by kernel_rfl) (fs_cons rfl (fits_int Try.underlying3 (by kernel_rfl)) rfl (fs_cons rfl (fits_int Try.underlying3 (by kernel_rfl)) rfl (fs_one rfl (fits_int Try.underlying3 (by kernel_rfl)))))) (fun _ h => h)
set_option maxRecDepth 100000 in
theorem lifted (os : Os) (started : os.Started) (H : Type) (enc : TypeId × Value → H) :
    ReturnsInHanded {} Try.checked os 3 .any (Rows.fnExactHoleNumberSpec.pre6 enc Try.prog Try.f3 Rows.fnExactHoleNumberRow.domain false) (Rows.fnExactHoleNumberSpec.post enc Try.prog Try.f3 false true false false) := by
  refine returnsInHanded_of_change_sized (C := Try.checked) own started (by kernel_rfl) Try.func3
    (ChangeSpec.witness6 (enc := enc) (C := Try.checked) false ⟨#[], #[.agg #[.int .i64 0, .int .i64 0, .int .i64 0]], []⟩ 8 (by kernel_rfl) (by kernel_rfl) (by kernel_rfl) (by kernel_rfl)) ?_
  intro W base args ds gs before hval0 hW hcnd hsz0 _
  have hsz : (DataW.weightsEach Try.prog (Try.f3.params.toList ++ Rows.fnExactHoleNumberSpec.plain.varTypes Try.prog) (ds ++ gs)).all (· ≤ reachBytes) = true := hsz0
  have hval : ∀ (j : Nat) t v, Try.f3.params[j]? = some t → args[j]? = some v → Value.okWide Try.prog W .any base t v := hval0
  have hW' := hW
  obtain ⟨p, q, hA0, hV, rfl, hfz, hnd⟩ := hW
  have hA : DataW.TrodAll enc Try.prog W 0 (fun _ => true) true Try.f3.params.toList args.toList ds p := hA0
  rw [Try.params3] at hA hval hsz
  obtain ⟨v0, vs0, d0, ds0, p0, q0, hargs, rfl, rfl, h0, r0⟩ := trodAll_cons hA
  obtain ⟨rfl, rfl, rfl⟩ := trodAll_nil r0
  obtain rfl : args = #[v0] := by cases args; simp_all
  obtain ⟨rfl, rfl⟩ := trodVars_none hV
  have kk0 := h0
  have lt0 : ∀ x ∈ p0, x.block < W.heap.size := by obtain ⟨m, hm⟩ := kk0; exact DataW.trod_lt m _ _ _ hm
  obtain ⟨cs0, a0, rfl, hK0, hg0⟩ := param_struct Try.underlying23 (hval 0 23 v0 rfl rfl) hsz (j := 0) rfl rfl h0 fitt_23
  obtain ⟨_, _, rfl, rfl, ⟨_, _, rfl, rfl, rfl⟩⟩ := hK0
  have hk := LHoleNumber.FnExactHoleNumber a0.1 a0.2.1 a0.2.2 hg0.1 hg0.2.1 hg0.2.2
  clear hA0 hval0 hsz0 hsz
  refine (laws_FnExactHoleNumber.calls a0.1 a0.2.1 a0.2.2 true W  hk).mono fun e W' ⟨he, bel⟩ => ?_
  subst he
  exact ⟨_, rfl, _, _, _, [], _, [], hW', trodAll_mk1 (shut_bool Try.underlying4 _), (trodAll_cons_mk (Below.trod laidOut (by kernel_rfl) (of_decide_eq_true (by kernel_rfl)) kk0 bel lt0) trodAll_mk0), rfl, bel.frame _, fun h => by cases h⟩
theorem over : Rows.fnExactHoleNumberRow.holds Try.pinned (OpenSpec.ofChange Rows.fnExactHoleNumberSpec) :=
  OpenClaim.holds_of_wide 3 Try.f3 rfl rfl rfl rfl rfl rfl rfl ⟨rfl, rfl, rfl, rfl, rfl⟩ rfl rfl rfl rfl rfl (by kernel_rfl) Try.func3 (by kernel_rfl)
    (of_decide_eq_true (by kernel_rfl)) (by unfold Func.isWrapper; first | (rw [if_pos (by decide +kernel)]; kernel_rfl) | (rw [if_neg (by decide +kernel)]; exact ⟨rfl, rfl⟩))
    (fun os started H enc _ => lifted os started H enc)
theorem proved : Rows.FnExactHoleNumberSaid := over
#print axioms proved
end Go.Proofs.Ytlcobkldkcdhbaa.rowFnExactHoleNumber
namespace Go.Proofs.Ytlcobkldkcdhbaa
/-- The row, under a short name, for the claim. -/
theorem fnExactHoleNumber_holds : Rows.FnExactHoleNumberSaid := rowFnExactHoleNumber.proved
end Go.Proofs.Ytlcobkldkcdhbaa
