/- The law FnExactAgreeingCopies of the program returns true for every input that can be read, and leaves its arguments as they were. -/
import Derived.Test.YtlcobkldkcdhbaaQFnExactAgreeingCopiesx9
import Derived.Test.YtlcobkldkcdhbaaLAgreeingCopies
import Derived.Test.YtlcobkldkcdhbaaRows
import Derived.Test.YtlcobkldkcdhbaaFits
import Derived.WalkKit
import Derived.ProofKit
import Derived.OpenShut
import Derived.ShutString
import Derived.ChangeOld
import Derived.Below
import Derived.SizedLaws
namespace Go.Proofs.Ytlcobkldkcdhbaa.rowFnExactAgreeingCopies
open Go Go.ChangeShapes Go.WideShapes Go.ChangeAt Go.RowKit
open Go.ChangeMaps (open_string shut_string)
open Go.Proofs.Ytlcobkldkcdhbaa.QFnExactAgreeingCopies Go.Proofs.Ytlcobkldkcdhbaa.Fits Go.Proofs.YtlcobkldkcdhbaaW.PrintWords
set_option linter.unusedVariables false
theorem own : ownKnob Try.prog.godebug = none := by kernel_rfl
theorem laidOut : laidOutB Try.prog = true := by kernel_rfl
theorem fits_23 : Fits Try.prog 23 k23 (fun x => ((Lit.int .i64 x.f0).wf = true) ∧ ((Lit.int .i64 x.f1).wf = true) ∧ ((Lit.int .i64 x.f2).wf = true)) :=
  fits_imp (fits_iso _ (fun a => ⟨a.1, a.2.1, a.2.2⟩) (fun _ => rfl) (fits_struct Try.underlying23 (by kernel_rfl) (fs_cons rfl (fits_int Try.underlying3 (by kernel_rfl)) rfl (fs_cons rfl (fits_int Try.underlying3 (by kernel_rfl)) rfl (fs_one rfl (fits_int Try.underlying3 (by kernel_rfl))))))) (fun _ h => h)
theorem bytes_43 : Try.prog.bytesOf 43 = 24 := by kernel_rfl
set_option maxRecDepth 100000 in
theorem lifted (os : Os) (started : os.Started) (H : Type) (enc : TypeId × Value → H) :
    ReturnsInHanded {} Try.checked os 11 .any (Rows.fnExactAgreeingCopiesSpec.pre6 enc Try.prog Try.f11 Rows.fnExactAgreeingCopiesRow.domain false) (Rows.fnExactAgreeingCopiesSpec.post enc Try.prog Try.f11 false true false false) := by
  refine returnsInHanded_of_change_sized (C := Try.checked) own started (by kernel_rfl) Try.func11
    (ChangeSpec.witness6 (enc := enc) (C := Try.checked) false ⟨#[], #[.slice none 0 0], []⟩ 8 (by kernel_rfl) (by kernel_rfl) (by kernel_rfl) (by kernel_rfl)) ?_
  intro W base args ds gs before hval0 hW hcnd hsz0 _
  have hsz : (DataW.weightsEach Try.prog (Try.f11.params.toList ++ Rows.fnExactAgreeingCopiesSpec.plain.varTypes Try.prog) (ds ++ gs)).all (· ≤ reachBytes) = true := hsz0
  have hval : ∀ (j : Nat) t v, Try.f11.params[j]? = some t → args[j]? = some v → Value.okWide Try.prog W .any base t v := hval0
  have hW' := hW
  obtain ⟨p, q, hA0, hV, rfl, hfz, hnd⟩ := hW
  have hA : DataW.TrodAll enc Try.prog W 0 (fun _ => true) true Try.f11.params.toList args.toList ds p := hA0
  rw [Try.params11] at hA hval hsz
  obtain ⟨v0, vs0, d0, ds0, p0, q0, hargs, rfl, rfl, h0, r0⟩ := trodAll_cons hA
  obtain ⟨rfl, rfl, rfl⟩ := trodAll_nil r0
  obtain rfl : args = #[v0] := by cases args; simp_all
  obtain ⟨rfl, rfl⟩ := trodVars_none hV
  have kk0 := h0
  have lt0 : ∀ x ∈ p0, x.block < W.heap.size := by obtain ⟨m, hm⟩ := kk0; exact DataW.trod_lt m _ _ _ hm
  obtain ⟨A0, c0, l0, rfl, hC0, hc0, hb0, hg0⟩ := param_slice Try.underlying58 (hval 0 58 v0 rfl rfl) hsz (j := 0) rfl rfl h0 (fits_slice Try.underlying58 (by kernel_rfl) (fits_slice Try.underlying43 (by kernel_rfl) fits_23))
  rw [bytes_43] at hb0
  obtain ⟨k, hk⟩ := LAgreeingCopies.FnExactAgreeingCopies l0 hb0 hg0
  clear hA0 hval0 hsz0 hsz
  refine (laws_FnExactAgreeingCopies.calls k A0 c0 l0 true W hC0 hc0 hk).mono fun e W' ⟨he, bel⟩ => ?_
  subst he
  exact ⟨_, rfl, _, _, _, [], _, [], hW', trodAll_mk1 (shut_bool Try.underlying4 _), (trodAll_cons_mk (Below.trod laidOut (by kernel_rfl) (of_decide_eq_true (by kernel_rfl)) kk0 bel lt0) trodAll_mk0), rfl, bel.frame _, fun h => by cases h⟩
theorem over : Rows.fnExactAgreeingCopiesRow.holds Try.pinned (OpenSpec.ofChange Rows.fnExactAgreeingCopiesSpec) :=
  OpenClaim.holds_of_wide 11 Try.f11 rfl rfl rfl rfl rfl rfl rfl ⟨rfl, rfl, rfl, rfl, rfl⟩ rfl rfl rfl rfl rfl (by kernel_rfl) Try.func11 (by kernel_rfl)
    (of_decide_eq_true (by kernel_rfl)) (by unfold Func.isWrapper; first | (rw [if_pos (by decide +kernel)]; kernel_rfl) | (rw [if_neg (by decide +kernel)]; exact ⟨rfl, rfl⟩))
    (fun os started H enc _ => lifted os started H enc)
theorem proved : Rows.FnExactAgreeingCopiesSaid := over
#print axioms proved
end Go.Proofs.Ytlcobkldkcdhbaa.rowFnExactAgreeingCopies
namespace Go.Proofs.Ytlcobkldkcdhbaa
/-- The row, under a short name, for the claim. -/
theorem fnExactAgreeingCopies_holds : Rows.FnExactAgreeingCopiesSaid := rowFnExactAgreeingCopies.proved
end Go.Proofs.Ytlcobkldkcdhbaa
