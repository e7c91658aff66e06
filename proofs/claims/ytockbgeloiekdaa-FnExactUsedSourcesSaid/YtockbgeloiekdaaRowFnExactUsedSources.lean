/- The law FnExactUsedSources of the program returns true for every input that can be read, and leaves its arguments as they were. -/
import Derived.Test.YtockbgeloiekdaaQFnExactUsedSourcesx11
import Derived.Test.YtockbgeloiekdaaLUsedSources
import Derived.Test.YtockbgeloiekdaaRows
import Derived.Test.YtockbgeloiekdaaFits
import Derived.WalkKit
import Derived.ProofKit
import Derived.OpenShut
import Derived.ShutString
import Derived.ChangeOld
import Derived.Below
import Derived.SizedLaws
namespace Go.Proofs.Ytockbgeloiekdaa.rowFnExactUsedSources
open Go Go.ChangeShapes Go.WideShapes Go.ChangeAt Go.RowKit
open Go.ChangeMaps (open_string shut_string)
open Go.Proofs.Ytockbgeloiekdaa.QFnExactUsedSources Go.Proofs.Ytockbgeloiekdaa.Fits Go.Proofs.YtockbgeloiekdaaW.PrintWords
set_option linter.unusedVariables false
theorem own : ownKnob Try.prog.godebug = none := by kernel_rfl
theorem laidOut : laidOutB Try.prog = true := by kernel_rfl
theorem fits_62 : Fits Try.prog 62 k62 (fun x => ((Lit.int .i64 x.f0).wf = true) ∧ ((Lit.int .i64 x.f1).wf = true) ∧ ((Lit.int .i64 x.f2).wf = true)) :=
  fits_imp (fits_iso _ (fun a => ⟨a.1, a.2.1, a.2.2⟩) (fun _ => rfl) (fits_struct Try.underlying62 (by kernel_rfl) (fs_cons rfl (fits_int Try.underlying3 (by kernel_rfl)) rfl (fs_cons rfl (fits_int Try.underlying3 (by kernel_rfl)) rfl (fs_one rfl (fits_int Try.underlying3 (by kernel_rfl))))))) (fun _ h => h)
theorem bytes_62 : Try.prog.bytesOf 62 = 24 := by kernel_rfl
set_option maxRecDepth 100000 in
theorem lifted (os : Os) (started : os.Started) (H : Type) (enc : TypeId × Value → H) :
    ReturnsInHanded {} Try.checked os 3 .any (Rows.fnExactUsedSourcesSpec.pre6 enc Try.prog Try.f3 Rows.fnExactUsedSourcesRow.domain false) (Rows.fnExactUsedSourcesSpec.post enc Try.prog Try.f3 false true false false) := by
  refine returnsInHanded_of_change_sized (C := Try.checked) own started (by kernel_rfl) Try.func3
    (ChangeSpec.witness6 (enc := enc) (C := Try.checked) false ⟨#[], #[.slice none 0 0], []⟩ 8 (by kernel_rfl) (by kernel_rfl) (by kernel_rfl) (by kernel_rfl)) ?_
  intro W base args ds gs before hval0 hW hcnd hsz0 _
  have hsz : (DataW.weightsEach Try.prog (Try.f3.params.toList ++ Rows.fnExactUsedSourcesSpec.plain.varTypes Try.prog) (ds ++ gs)).all (· ≤ reachBytes) = true := hsz0
  have hval : ∀ (j : Nat) t v, Try.f3.params[j]? = some t → args[j]? = some v → Value.okWide Try.prog W .any base t v := hval0
  have hW' := hW
  obtain ⟨p, q, hA0, hV, rfl, hfz, hnd⟩ := hW
  have hA : DataW.TrodAll enc Try.prog W 0 (fun _ => true) true Try.f3.params.toList args.toList ds p := hA0
  rw [Try.params3] at hA hval hsz
  obtain ⟨v0, vs0, d0, ds0, p0, q0, hargs, rfl, rfl, h0, r0⟩ := trodAll_cons hA
  obtain ⟨rfl, rfl, rfl⟩ := trodAll_nil r0
  obtain rfl : args = #[v0] := by cases args; simp_all
  obtain ⟨rfl, rfl⟩ := trodVars_none hV
  have kk0 := h0
  have lt0 : ∀ x ∈ p0, x.block < W.heap.size := by obtain ⟨m, hm⟩ := kk0; exact DataW.trod_lt m _ _ _ hm
  obtain ⟨A0, c0, l0, rfl, hC0, hc0, hb0, hg0⟩ := param_slice Try.underlying22 (hval 0 22 v0 rfl rfl) hsz (j := 0) rfl rfl h0 (fits_slice Try.underlying22 (by kernel_rfl) fits_62)
  rw [bytes_62] at hb0
  obtain ⟨k, hk⟩ := LUsedSources.FnExactUsedSources l0 hb0 hg0
  clear hA0 hval0 hsz0 hsz
  refine (laws_FnExactUsedSources.calls k A0 c0 l0 true W hC0 hc0 hk).mono fun e W' ⟨he, bel⟩ => ?_
  subst he
  exact ⟨_, rfl, _, _, _, [], _, [], hW', trodAll_mk1 (shut_bool Try.underlying4 _), (trodAll_cons_mk (Below.trod laidOut (by kernel_rfl) (of_decide_eq_true (by kernel_rfl)) kk0 bel lt0) trodAll_mk0), rfl, bel.frame _, fun h => by cases h⟩
theorem over : Rows.fnExactUsedSourcesRow.holds Try.pinned (OpenSpec.ofChange Rows.fnExactUsedSourcesSpec) :=
  OpenClaim.holds_of_wide 3 Try.f3 rfl rfl rfl rfl rfl rfl rfl ⟨rfl, rfl, rfl, rfl, rfl⟩ rfl rfl rfl rfl rfl (by kernel_rfl) Try.func3 (by kernel_rfl)
    (of_decide_eq_true (by kernel_rfl)) (by unfold Func.isWrapper; first | (rw [if_pos (by decide +kernel)]; kernel_rfl) | (rw [if_neg (by decide +kernel)]; exact ⟨rfl, rfl⟩))
    (fun os started H enc _ => lifted os started H enc)
theorem proved : Rows.FnExactUsedSourcesSaid := over
#print axioms proved
end Go.Proofs.Ytockbgeloiekdaa.rowFnExactUsedSources
namespace Go.Proofs.Ytockbgeloiekdaa
/-- The row, under a short name, for the claim. -/
theorem fnExactUsedSources_holds : Rows.FnExactUsedSourcesSaid := rowFnExactUsedSources.proved
end Go.Proofs.Ytockbgeloiekdaa
