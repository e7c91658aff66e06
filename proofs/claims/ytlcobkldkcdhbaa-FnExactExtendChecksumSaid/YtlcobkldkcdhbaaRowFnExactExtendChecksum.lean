/- The law FnExactExtendChecksum of the program returns true for every input that can be read, and leaves its arguments as they were. -/
import Derived.Test.YtlcobkldkcdhbaaPFnExactExtendChecksumx1
import Derived.Test.YtlcobkldkcdhbaaLExtendChecksum
import Derived.Test.YtlcobkldkcdhbaaRows
import Derived.Test.YtlcobkldkcdhbaaFits
import Derived.WalkKit
import Derived.ProofKit
import Derived.OpenShut
import Derived.ShutString
import Derived.ChangeOld
import Derived.Below
import Derived.SizedLaws
namespace Go.Proofs.Ytlcobkldkcdhbaa.rowFnExactExtendChecksum
open Go Go.ChangeShapes Go.WideShapes Go.ChangeAt Go.RowKit
open Go.ChangeMaps (open_string shut_string)
open Go.Proofs.Ytlcobkldkcdhbaa.PFnExactExtendChecksum Go.Proofs.Ytlcobkldkcdhbaa.Fits Go.Proofs.YtlcobkldkcdhbaaW.PrintWords
set_option linter.unusedVariables false
theorem own : ownKnob Try.prog.godebug = none := by kernel_rfl
theorem laidOut : laidOutB Try.prog = true := by kernel_rfl
theorem fitt_23 : Fits Try.prog 23 (Kd.pair (Kd.int .i64) (Kd.pair (Kd.int .i64) (Kd.int .i64))) (fun x => ((Lit.int .i64 x.1).wf = true) ∧ ((Lit.int .i64 x.2.1).wf = true) ∧ ((Lit.int .i64 x.2.2).wf = true)) :=
  fits_imp (fits_struct Try.underlying23 (by kernel_rfl) (fs_cons rfl (fits_int Try.underlying3 (by kernel_rfl)) rfl (fs_cons rfl (fits_int Try.underlying3 (by kernel_rfl)) rfl (fs_one rfl (fits_int Try.underlying3 (by kernel_rfl)))))) (fun _ h => h)
set_option maxRecDepth 100000 in
theorem lifted (os : Os) (started : os.Started) (H : Type) (enc : TypeId × Value → H) :
    ReturnsInHanded {} Try.checked os 4 .any (Rows.fnExactExtendChecksumSpec.pre6 enc Try.prog Try.f4 Rows.fnExactExtendChecksumRow.domain false) (Rows.fnExactExtendChecksumSpec.post enc Try.prog Try.f4 false true false false) := by
  refine returnsInHanded_of_change_sized (C := Try.checked) own started (by kernel_rfl) Try.func4
    (ChangeSpec.witness6 (enc := enc) (C := Try.checked) false ⟨#[], #[.int .i64 0, .agg #[.int .i64 0, .int .i64 0, .int .i64 0]], []⟩ 8 (by kernel_rfl) (by kernel_rfl) (by kernel_rfl) (by kernel_rfl)) ?_
  intro W base args ds gs before hval0 hW hcnd hsz0 _
  have hsz : (DataW.weightsEach Try.prog (Try.f4.params.toList ++ Rows.fnExactExtendChecksumSpec.plain.varTypes Try.prog) (ds ++ gs)).all (· ≤ reachBytes) = true := hsz0
  have hval : ∀ (j : Nat) t v, Try.f4.params[j]? = some t → args[j]? = some v → Value.okWide Try.prog W .any base t v := hval0
  have hW' := hW
  obtain ⟨p, q, hA0, hV, rfl, hfz, hnd⟩ := hW
  have hA : DataW.TrodAll enc Try.prog W 0 (fun _ => true) true Try.f4.params.toList args.toList ds p := hA0
  rw [Try.params4] at hA hval hsz
  obtain ⟨v0, vs0, d0, ds0, p0, q0, hargs, rfl, rfl, h0, r0⟩ := trodAll_cons hA
  obtain ⟨v1, vs1, d1, ds1, p1, q1, rfl, rfl, rfl, h1, r1⟩ := trodAll_cons r0
  obtain ⟨rfl, rfl, rfl⟩ := trodAll_nil r1
  obtain rfl : args = #[v0, v1] := by cases args; simp_all
  obtain ⟨rfl, rfl⟩ := trodVars_none hV
  obtain ⟨a0, rfl, rfl, rfl, w0⟩ := open_int Try.underlying3 (hval 0 3 v0 rfl rfl) h0
  have kk1 := h1
  have lt1 : ∀ x ∈ p1, x.block < W.heap.size := by obtain ⟨m, hm⟩ := kk1; exact DataW.trod_lt m _ _ _ hm
  obtain ⟨cs1, a1, rfl, hK1, hg1⟩ := param_struct Try.underlying23 (hval 1 23 v1 rfl rfl) hsz (j := 1) rfl rfl h1 fitt_23
  obtain ⟨_, _, rfl, rfl, ⟨_, _, rfl, rfl, rfl⟩⟩ := hK1
  have hk := LExtendChecksum.FnExactExtendChecksum a0 a1.1 a1.2.1 a1.2.2 w0 hg1.1 hg1.2.1 hg1.2.2
  clear hA0 hval0 hsz0 hsz
  refine (laws_FnExactExtendChecksum.calls a0 a1.1 a1.2.1 a1.2.2 true W  hk).mono fun e W' ⟨he, bel⟩ => ?_
  subst he
  exact ⟨_, rfl, _, _, _, [], _, [], hW', trodAll_mk1 (shut_bool Try.underlying4 _), (trodAll_cons_mk (shut_int Try.underlying3 w0) (trodAll_cons_mk (Below.trod laidOut (by kernel_rfl) (of_decide_eq_true (by kernel_rfl)) kk1 bel lt1) trodAll_mk0)), rfl, bel.frame _, fun h => by cases h⟩
theorem over : Rows.fnExactExtendChecksumRow.holds Try.pinned (OpenSpec.ofChange Rows.fnExactExtendChecksumSpec) :=
  OpenClaim.holds_of_wide 4 Try.f4 rfl rfl rfl rfl rfl rfl rfl ⟨rfl, rfl, rfl, rfl, rfl⟩ rfl rfl rfl rfl rfl (by kernel_rfl) Try.func4 (by kernel_rfl)
    (of_decide_eq_true (by kernel_rfl)) (by unfold Func.isWrapper; first | (rw [if_pos (by decide +kernel)]; kernel_rfl) | (rw [if_neg (by decide +kernel)]; exact ⟨rfl, rfl⟩))
    (fun os started H enc _ => lifted os started H enc)
theorem proved : Rows.FnExactExtendChecksumSaid := over
#print axioms proved
end Go.Proofs.Ytlcobkldkcdhbaa.rowFnExactExtendChecksum
namespace Go.Proofs.Ytlcobkldkcdhbaa
/-- The row, under a short name, for the claim. -/
theorem fnExactExtendChecksum_holds : Rows.FnExactExtendChecksumSaid := rowFnExactExtendChecksum.proved
end Go.Proofs.Ytlcobkldkcdhbaa
