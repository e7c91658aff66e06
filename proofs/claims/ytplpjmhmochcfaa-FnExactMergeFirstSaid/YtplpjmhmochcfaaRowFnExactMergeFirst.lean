/- The law FnExactMergeFirst of the program returns true for every input that can be read, and leaves its arguments as they were. -/
import Derived.Test.YtplpjmhmochcfaaQFnExactMergeFirstx12
import Derived.Test.YtplpjmhmochcfaaLFnExactMergeFirst
import Derived.Test.YtplpjmhmochcfaaRows
import Derived.Test.YtplpjmhmochcfaaFitsM
import Derived.WalkKit
import Derived.ProofKit
import Derived.OpenShut
import Derived.ShutString
import Derived.ChangeOld
import Derived.Below
import Derived.SizedLaws
namespace Go.Proofs.Ytplpjmhmochcfaa.rowFnExactMergeFirst
open Go Go.ChangeShapes Go.WideShapes Go.ChangeAt Go.RowKit
open Go.ChangeMaps (open_string shut_string)
open Go.Proofs.Ytplpjmhmochcfaa.QFnExactMergeFirst Go.Proofs.Ytplpjmhmochcfaa.Fits Go.Proofs.YtplpjmhmochcfaaW.PrintWords
set_option linter.unusedVariables false
theorem own : ownKnob Try.prog.godebug = none := by kernel_rfl
theorem laidOut : laidOutB Try.prog = true := by kernel_rfl
theorem fits_96 : Fits Try.prog 96 k96 (fun x => ((Lit.int .i64 x.f0).wf = true) ∧ ((Lit.int .i64 x.f1).wf = true) ∧ ((Lit.int .i64 x.f2).wf = true)) :=
  fits_imp (fits_iso _ (fun a => ⟨a.1, a.2.1, a.2.2⟩) (fun _ => rfl) (fits_struct Try.underlying96 (by kernel_rfl) (fs_cons rfl (fits_int Try.underlying3 (by kernel_rfl)) rfl (fs_cons rfl (fits_int Try.underlying3 (by kernel_rfl)) rfl (fs_one rfl (fits_int Try.underlying3 (by kernel_rfl))))))) (fun _ h => h)
theorem bytes_96 : Try.prog.bytesOf 96 = 24 := by kernel_rfl
set_option maxRecDepth 100000 in
theorem lifted (os : Os) (started : os.Started) (H : Type) (enc : TypeId × Value → H) :
    ReturnsInHanded {} Try.checked os 6 .any (Rows.fnExactMergeFirstSpec.pre6 enc Try.prog Try.f6 Rows.fnExactMergeFirstRow.domain false) (Rows.fnExactMergeFirstSpec.post enc Try.prog Try.f6 false true false false) := by
  refine returnsInHanded_of_change_sized (C := Try.checked) own started (by kernel_rfl) Try.func6
    (ChangeSpec.witness6 (enc := enc) (C := Try.checked) false ⟨#[], #[.slice none 0 0, .slice none 0 0, .slice none 0 0], []⟩ 8 (by kernel_rfl) (by kernel_rfl) (by kernel_rfl) (by kernel_rfl)) ?_
  intro W base args ds gs before hval0 hW hcnd hsz0 _
  have hsz : (DataW.weightsEach Try.prog (Try.f6.params.toList ++ Rows.fnExactMergeFirstSpec.plain.varTypes Try.prog) (ds ++ gs)).all (· ≤ reachBytes) = true := hsz0
  have hval : ∀ (j : Nat) t v, Try.f6.params[j]? = some t → args[j]? = some v → Value.okWide Try.prog W .any base t v := hval0
  have hW' := hW
  obtain ⟨p, q, hA0, hV, rfl, hfz, hnd⟩ := hW
  have hA : DataW.TrodAll enc Try.prog W 0 (fun _ => true) true Try.f6.params.toList args.toList ds p := hA0
  rw [Try.params6] at hA hval hsz
  obtain ⟨v0, vs0, d0, ds0, p0, q0, hargs, rfl, rfl, h0, r0⟩ := trodAll_cons hA
  obtain ⟨v1, vs1, d1, ds1, p1, q1, rfl, rfl, rfl, h1, r1⟩ := trodAll_cons r0
  obtain ⟨v2, vs2, d2, ds2, p2, q2, rfl, rfl, rfl, h2, r2⟩ := trodAll_cons r1
  obtain ⟨rfl, rfl, rfl⟩ := trodAll_nil r2
  obtain rfl : args = #[v0, v1, v2] := by cases args; simp_all
  obtain ⟨rfl, rfl⟩ := trodVars_none hV
  have kk0 := h0
  have lt0 : ∀ x ∈ p0, x.block < W.heap.size := by obtain ⟨m, hm⟩ := kk0; exact DataW.trod_lt m _ _ _ hm
  obtain ⟨A0, c0, l0, rfl, hC0, hc0, hb0, hg0⟩ := param_slice Try.underlying48 (hval 0 48 v0 rfl rfl) hsz (j := 0) rfl rfl h0 (fits_slice Try.underlying48 (by kernel_rfl) fits_96)
  rw [bytes_96] at hb0
  have kk1 := h1
  have lt1 : ∀ x ∈ p1, x.block < W.heap.size := by obtain ⟨m, hm⟩ := kk1; exact DataW.trod_lt m _ _ _ hm
  obtain ⟨A1, c1, l1, rfl, hC1, hc1, hb1, hg1⟩ := param_slice Try.underlying48 (hval 1 48 v1 rfl rfl) hsz (j := 1) rfl rfl h1 (fits_slice Try.underlying48 (by kernel_rfl) fits_96)
  rw [bytes_96] at hb1
  have kk2 := h2
  have lt2 : ∀ x ∈ p2, x.block < W.heap.size := by obtain ⟨m, hm⟩ := kk2; exact DataW.trod_lt m _ _ _ hm
  obtain ⟨A2, c2, l2, rfl, hC2, hc2, hb2, hg2⟩ := param_slice Try.underlying48 (hval 2 48 v2 rfl rfl) hsz (j := 2) rfl rfl h2 (fits_slice Try.underlying48 (by kernel_rfl) fits_96)
  rw [bytes_96] at hb2
  obtain ⟨k, hk⟩ := LFnExactMergeFirst.FnExactMergeFirst l0 l1 l2 hb0 hg0 hb1 hg1 hb2 hg2
  clear hA0 hval0 hsz0 hsz
  refine (laws_FnExactMergeFirst.calls k A0 c0 l0 A1 c1 l1 A2 c2 l2 true W hC0 hc0 hC1 hc1 hC2 hc2 hk rfl).mono fun e W' ⟨he, bel⟩ => ?_
  subst he
  exact ⟨_, rfl, _, _, _, [], _, [], hW', trodAll_mk1 (shut_bool Try.underlying4 _), (trodAll_cons_mk (Below.trod laidOut (by kernel_rfl) (of_decide_eq_true (by kernel_rfl)) kk0 bel lt0) (trodAll_cons_mk (Below.trod laidOut (by kernel_rfl) (of_decide_eq_true (by kernel_rfl)) kk1 bel lt1) (trodAll_cons_mk (Below.trod laidOut (by kernel_rfl) (of_decide_eq_true (by kernel_rfl)) kk2 bel lt2) trodAll_mk0))), rfl, bel.frame _, fun h => by cases h⟩
theorem over : Rows.fnExactMergeFirstRow.holds Try.pinned (OpenSpec.ofChange Rows.fnExactMergeFirstSpec) :=
  OpenClaim.holds_of_wide 6 Try.f6 rfl rfl rfl rfl rfl rfl rfl ⟨rfl, rfl, rfl, rfl, rfl⟩ rfl rfl rfl rfl rfl (by kernel_rfl) Try.func6 (by kernel_rfl)
    (of_decide_eq_true (by kernel_rfl)) (by unfold Func.isWrapper; first | (rw [if_pos (by decide +kernel)]; kernel_rfl) | (rw [if_neg (by decide +kernel)]; exact ⟨rfl, rfl⟩))
    (fun os started H enc _ => lifted os started H enc)
theorem proved : Rows.FnExactMergeFirstSaid := over
#print axioms proved
end Go.Proofs.Ytplpjmhmochcfaa.rowFnExactMergeFirst
namespace Go.Proofs.Ytplpjmhmochcfaa
/-- The row, under a short name, for the claim. -/
theorem fnExactMergeFirst_holds : Rows.FnExactMergeFirstSaid := rowFnExactMergeFirst.proved
end Go.Proofs.Ytplpjmhmochcfaa
