/- The law FnExactCatalogueText of the program returns true for every input that can be read, and leaves its arguments as they were: the row, and its card, in which the listed tables of Go's library are tied to the program's text, over a pruned copy of the project. Condition: the listed variables read as they are laid. -/
import Derived.Test.YtoifgemjcpkapaaDoorQFnExactCatalogueTextx7
import Derived.Test.YtoifgemjcpkapaaDoorLCatalogueText
import Derived.Test.YtoifgemjcpkapaaDoorRows
import Derived.Test.YtoifgemjcpkapaaDoorFits
import Derived.WalkKit
import Derived.ProofKit
import Derived.OpenShut
import Derived.ShutString
import Derived.ChangeOld
import Derived.Below
import Derived.SizedLaws
import Derived.Test.YtoifgemjcpkapaaDoorTie
import Derived.Test.YtoifgemjcpkapaaDoorCards
import Derived.LaidMore
import Derived.Stop.Joined
import Derived.Stop.LaidErr
import Derived.Lib.LaidTab
import Derived.SevenTiedAt
namespace Go.Proofs.YtoifgemjcpkapaaDoor.rowFnExactCatalogueText
open Go Go.ChangeShapes Go.WideShapes Go.ChangeAt Go.RowKit
open Go.ChangeMaps (open_string shut_string)
open Go.Proofs.YtoifgemjcpkapaaDoor.QFnExactCatalogueText Go.Proofs.YtoifgemjcpkapaaDoor.Fits Go.Proofs.YtoifgemjcpkapaaDoorW.PrintWords
set_option linter.unusedVariables false
theorem own : ownKnob Tryd.prog.godebug = none := by kernel_rfl
theorem laidOut : laidOutB Tryd.prog = true := by kernel_rfl
theorem fits_60 : Fits Tryd.prog 60 k60 (fun x => (x.f0.size ≤ 140737488351232) ∧ (x.f1.size ≤ 140737488351232) ∧ ((Lit.int .i64 x.f2).wf = true) ∧ ((Lit.int .i64 x.f3).wf = true)) :=
  fits_imp (fits_iso _ (fun a => ⟨a.1, a.2.1, a.2.2.1, a.2.2.2⟩) (fun _ => rfl) (fits_struct Tryd.underlying60 (by kernel_rfl) (fs_cons rfl (fits_string Tryd.underlying9 (by kernel_rfl)) rfl (fs_cons rfl (fits_string Tryd.underlying9 (by kernel_rfl)) rfl (fs_cons rfl (fits_int Tryd.underlying3 (by kernel_rfl)) rfl (fs_one rfl (fits_int Tryd.underlying3 (by kernel_rfl)))))))) (fun _ h => h)
theorem bytes_60 : Tryd.prog.bytesOf 60 = 48 := by kernel_rfl
abbrev laid : List (String × DataW Unit) := Rows.fnExactCatalogueTextRow.laid
set_option maxRecDepth 100000 in
/-- The door's own heap meets the condition. -/
theorem door_met (os : Os) (args : Array Value) : laidMetH Tryd.prog laid ((World.doorLaid Tryd.prog 400 os).forCall (fun _ _ => 0) ⟨#[], args, []⟩).memory :=
  laidMetH_of_parts3 (fuel := 8) (laidMet_of_run' 8 (by kernel_rfl) (by kernel_rfl)) (by kernel_rfl) (by kernel_rfl)
theorem gPow : Tryd.prog.globalNamed "internal/strconv.uint64pow10" = some 1 := by kernel_rfl
theorem tPow : (Tryd.prog.globals[1]?).map (·.type) = some 106 := by kernel_rfl
theorem cellE : Tryd.prog.cellsOf 97 = 1 := by kernel_rfl
theorem cellT : Tryd.prog.cellsOf 106 = 20 := by kernel_rfl
/-- What the condition gives the walk: the table of powers reads as it was laid. -/
theorem of_laid {W : World} (h : laidMetH Tryd.prog laid W) : Lib.TabIs Tryd.prog W "internal/strconv.uint64pow10" .u64 Lib.pow10Tab := by
  rw [MakeChecks.laidMetH_plain _ _ _ (by kernel_rfl)] at h
  have h2 : laidMet Tryd.prog (("internal/strconv.uint64pow10", Lib.tabData .u64 Lib.pow10Tab) :: laid.drop 3) W := (laidMet.tail (laidMet.tail h))
  exact Lib.tabIs_of_head gPow tPow Tryd.underlying106 Tryd.underlying97 cellE cellT h2
set_option maxRecDepth 100000 in
theorem lifted (os : Os) (started : os.Started) (H : Type) (enc : TypeId × Value → H) :
    ReturnsInHanded {} Tryd.checked os 4 .any (fun w args => (Rows.fnExactCatalogueTextSpec.pre enc Tryd.prog Tryd.f4 [] false w args ∧ laidMetH Tryd.prog laid w) ∧ sizedMet enc Tryd.prog Tryd.f4 (OpenSpec.ofChange Rows.fnExactCatalogueTextSpec) false w args) (Rows.fnExactCatalogueTextSpec.post enc Tryd.prog Tryd.f4 false true false false) := by
  refine returnsInHanded_of_change_and (C := Tryd.checked) (X := fun w _ => laidMetH Tryd.prog laid w) (fun _ _ _ hh h => h.of_heap hh) own started (by kernel_rfl) Tryd.func4
    (ChangeSpec.witness_shaped (enc := enc) (C := Tryd.checked) (os := os) (X := fun w _ => laidMetH Tryd.prog laid w) false (World.doorLaid Tryd.prog 400 os) #[.slice none 0 0] 8 rfl (World.shaped_of_RefB (by kernel_rfl) (by kernel_rfl)) (by kernel_rfl) (by kernel_rfl) (by kernel_rfl) (door_met os _)) ?_
  intro W base args ds gs before hval0 hW hcnd hsz0 hL _
  have htab := of_laid hL
  have hsz : (DataW.weightsEach Tryd.prog (Tryd.f4.params.toList ++ Rows.fnExactCatalogueTextSpec.plain.varTypes Tryd.prog) (ds ++ gs)).all (· ≤ reachBytes) = true := hsz0
  have hval : ∀ (j : Nat) t v, Tryd.f4.params[j]? = some t → args[j]? = some v → Value.okWide Tryd.prog W .any base t v := hval0
  have hW' := hW
  obtain ⟨p, q, hA0, hV, rfl, hfz, hnd⟩ := hW
  have hA : DataW.TrodAll enc Tryd.prog W 0 (fun _ => true) true Tryd.f4.params.toList args.toList ds p := hA0
  rw [Tryd.params4] at hA hval hsz
  obtain ⟨v0, vs0, d0, ds0, p0, q0, hargs, rfl, rfl, h0, r0⟩ := trodAll_cons hA
  obtain ⟨rfl, rfl, rfl⟩ := trodAll_nil r0
  obtain rfl : args = #[v0] := by cases args; simp_all
  obtain ⟨rfl, rfl⟩ := trodVars_none hV
  have kk0 := h0
  have lt0 : ∀ x ∈ p0, x.block < W.heap.size := by obtain ⟨m, hm⟩ := kk0; exact DataW.trod_lt m _ _ _ hm
  obtain ⟨A0, c0, l0, rfl, hC0, hc0, hb0, hg0⟩ := param_slice Tryd.underlying30 (hval 0 30 v0 rfl rfl) hsz (j := 0) rfl rfl h0 (fits_slice Tryd.underlying30 (by kernel_rfl) fits_60)
  rw [bytes_60] at hb0
  obtain ⟨k, hk⟩ := LCatalogueText.FnExactCatalogueText l0 hb0 hg0
  clear hA0 hval0 hsz0 hsz
  refine (laws_FnExactCatalogueText.calls k A0 c0 l0 true W hC0 hc0 htab hk).mono fun e W' ⟨he, bel⟩ => ?_
  subst he
  exact ⟨_, rfl, _, _, _, [], _, [], hW', trodAll_mk1 (shut_bool Tryd.underlying4 _), (trodAll_cons_mk (Below.trod laidOut (by kernel_rfl) (of_decide_eq_true (by kernel_rfl)) kk0 bel lt0) trodAll_mk0), rfl, bel.frame _, fun h => by cases h⟩
theorem over : Rows.fnExactCatalogueTextRow.holds Tryd.pinned (OpenSpec.ofChange Rows.fnExactCatalogueTextSpec) :=
  OpenClaim.holds_of_wide 4 Tryd.f4 rfl rfl rfl rfl rfl rfl rfl ⟨rfl, rfl, rfl, rfl, rfl⟩ rfl rfl rfl rfl rfl (by kernel_rfl) Tryd.func4 (by kernel_rfl)
    (of_decide_eq_true (by kernel_rfl)) (by unfold Func.isWrapper; first | (rw [if_pos (by decide +kernel)]; kernel_rfl) | (rw [if_neg (by decide +kernel)]; exact ⟨rfl, rfl⟩))
    (fun os started H enc _ => lifted os started H enc)
set_option maxRecDepth 100000 in
theorem card : Rows.FnExactCatalogueTextCardSaid :=
  Claim7.holds_tied_plain_at .later [] [.data, .data, .data] true (true, "b122b2b42d3114318253d88b0644e22be7de2b8c85ab81bc723d62c82364709c") false
    over (fun _ h => by cases h) (by kernel_rfl) (fun _ h => by cases h) fnExactCatalogueText_row_tie rfl ⟨rfl, rfl⟩ (by kernel_rfl) rfl
    (fun f fn hf hfn => by
      obtain rfl : f = 4 := Option.some.inj ((show Tryd.prog.funcNamed "loop.example/g00949/laws.FnExactCatalogueText" = some 4 by kernel_rfl).symm.trans hf) |>.symm
      obtain rfl : fn = Tryd.f4 := (Option.some.inj (Tryd.func4.symm.trans hfn)).symm
      exact ⟨by kernel_rfl, fun j t ht => by
        rw [Tryd.params4] at ht
        have hm : t ∈ Tryd.f4.params.toList := by simpa [Tryd.params4] using Array.mem_of_getElem? ht
        have hall : (Tryd.f4.params.toList.all fun u => !Tryd.prog.wantsStandIn u) = true := by kernel_rfl
        exact (show Tryd.prog.wantsStandIn t = false by simpa using List.all_eq_true.1 hall t hm)⟩)
    (by kernel_rfl)
#print axioms card
end Go.Proofs.YtoifgemjcpkapaaDoor.rowFnExactCatalogueText
namespace Go.Proofs.YtoifgemjcpkapaaDoor
/-- The card, under a short name, for the claim. -/
theorem fnExactCatalogueText_card_holds : Rows.FnExactCatalogueTextCardSaid := rowFnExactCatalogueText.card
end Go.Proofs.YtoifgemjcpkapaaDoor
