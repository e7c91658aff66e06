/- The law FnExactWriteAll of the program returns true for every input that can be read, and leaves its arguments as they were. -/
import Derived.Test.YtockbgeloiekdaaQFnExactWriteAllx7
import Derived.Test.YtockbgeloiekdaaLWriteAll
import Derived.Test.YtockbgeloiekdaaRows
import Derived.Test.YtockbgeloiekdaaFits
import Derived.WalkKit
import Derived.ProofKit
import Derived.OpenShut
import Derived.ShutString
import Derived.ChangeOld
import Derived.Below
import Derived.SizedLaws
namespace Go.Proofs.Ytockbgeloiekdaa.rowFnExactWriteAll
open Go Go.ChangeShapes Go.WideShapes Go.ChangeAt Go.RowKit
open Go.ChangeMaps (open_string shut_string)
open Go.Proofs.Ytockbgeloiekdaa.QFnExactWriteAll Go.Proofs.Ytockbgeloiekdaa.Fits Go.Proofs.YtockbgeloiekdaaW.PrintWords
set_option linter.unusedVariables false
theorem own : ownKnob Try.prog.godebug = none := by kernel_rfl
theorem laidOut : laidOutB Try.prog = true := by kernel_rfl
theorem bytes_24 : Try.prog.bytesOf 24 = 24 := by kernel_rfl
set_option maxRecDepth 100000 in
theorem lifted (os : Os) (started : os.Started) (H : Type) (enc : TypeId × Value → H) :
    ReturnsInHanded {} Try.checked os 8 .any (Rows.fnExactWriteAllSpec.pre6 enc Try.prog Try.f8 Rows.fnExactWriteAllRow.domain false) (Rows.fnExactWriteAllSpec.post enc Try.prog Try.f8 false true false false) := by
  refine returnsInHanded_of_change_sized (C := Try.checked) own started (by kernel_rfl) Try.func8
    (ChangeSpec.witness6 (enc := enc) (C := Try.checked) false ⟨#[], #[.slice none 0 0], []⟩ 8 (by kernel_rfl) (by kernel_rfl) (by kernel_rfl) (by kernel_rfl)) ?_
  intro W base args ds gs before hval0 hW hcnd hsz0 _
  have hsz : (DataW.weightsEach Try.prog (Try.f8.params.toList ++ Rows.fnExactWriteAllSpec.plain.varTypes Try.prog) (ds ++ gs)).all (· ≤ reachBytes) = true := hsz0
  have hval : ∀ (j : Nat) t v, Try.f8.params[j]? = some t → args[j]? = some v → Value.okWide Try.prog W .any base t v := hval0
  have hW' := hW
  obtain ⟨p, q, hA0, hV, rfl, hfz, hnd⟩ := hW
  have hA : DataW.TrodAll enc Try.prog W 0 (fun _ => true) true Try.f8.params.toList args.toList ds p := hA0
  rw [Try.params8] at hA hval hsz
  obtain ⟨v0, vs0, d0, ds0, p0, q0, hargs, rfl, rfl, h0, r0⟩ := trodAll_cons hA
  obtain ⟨rfl, rfl, rfl⟩ := trodAll_nil r0
  obtain rfl : args = #[v0] := by cases args; simp_all
  obtain ⟨rfl, rfl⟩ := trodVars_none hV
  have kk0 := h0
  have lt0 : ∀ x ∈ p0, x.block < W.heap.size := by obtain ⟨m, hm⟩ := kk0; exact DataW.trod_lt m _ _ _ hm
  obtain ⟨A0, c0, l0, rfl, hC0, hc0, hb0, hg0⟩ := param_slice Try.underlying51 (hval 0 51 v0 rfl rfl) hsz (j := 0) rfl rfl h0 (fits_slice Try.underlying51 (by kernel_rfl) (fits_slice Try.underlying24 (by kernel_rfl) (fits_int Try.underlying3 (by kernel_rfl))))
  rw [bytes_24] at hb0
  obtain ⟨k, hk⟩ := LWriteAll.FnExactWriteAll l0 hb0 hg0
  clear hA0 hval0 hsz0 hsz
  refine (laws_FnExactWriteAll.calls k A0 c0 l0 true W hC0 hc0 hk).mono fun e W' ⟨he, bel⟩ => ?_
  subst he
  exact ⟨_, rfl, _, _, _, [], _, [], hW', trodAll_mk1 (shut_bool Try.underlying4 _), (trodAll_cons_mk (Below.trod laidOut (by kernel_rfl) (of_decide_eq_true (by kernel_rfl)) kk0 bel lt0) trodAll_mk0), rfl, bel.frame _, fun h => by cases h⟩
theorem over : Rows.fnExactWriteAllRow.holds Try.pinned (OpenSpec.ofChange Rows.fnExactWriteAllSpec) :=
  OpenClaim.holds_of_wide 8 Try.f8 rfl rfl rfl rfl rfl rfl rfl ⟨rfl, rfl, rfl, rfl, rfl⟩ rfl rfl rfl rfl rfl (by kernel_rfl) Try.func8 (by kernel_rfl)
    (of_decide_eq_true (by kernel_rfl)) (by unfold Func.isWrapper; first | (rw [if_pos (by decide +kernel)]; kernel_rfl) | (rw [if_neg (by decide +kernel)]; exact ⟨rfl, rfl⟩))
    (fun os started H enc _ => lifted os started H enc)
theorem proved : Rows.FnExactWriteAllSaid := over
#print axioms proved
end Go.Proofs.Ytockbgeloiekdaa.rowFnExactWriteAll
namespace Go.Proofs.Ytockbgeloiekdaa
/-- The row, under a short name, for the claim. -/
theorem fnExactWriteAll_holds : Rows.FnExactWriteAllSaid := rowFnExactWriteAll.proved
end Go.Proofs.Ytockbgeloiekdaa
