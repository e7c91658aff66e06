/- Short names for what the printed texts say again and again. -/
import Derived.Test.YtkkmeccdjpibmaaGreatDoorApFnCatalogue
import Derived.Test.YtkkmeccdjpibmaaGreatDoorProg
import Derived.Below
import Derived.Deep.Draws
import Derived.Deep.AppendLies
import Derived.Maps.AppendAt
import Derived.OwnWalk
import Derived.Laws.BytesArg
import Derived.Laws.MakeOwn
import Derived.Laws.OwnMore
import Derived.Deep.OwnRows
import Derived.Tactics
import Derived.Lib.ConvBytes
import Derived.Laws.Slices
import Derived.WalkKit
import Derived.KernelRfl
import Derived.RowKit3
import Derived.Deep.LoopGhost
import Derived.Deep.QuietTactic
import Derived.BigQuiet
import Derived.WideLaws
import Derived.Deep.DeepCutAuto
import Derived.Deep.CutBlock
import Derived.Deep.RegionHeld3
import Derived.Laws.Rows
import Derived.Lib.AppendStr
import Derived.ArgAppend
import Derived.Laws.IdiomCopy
import Derived.OrdersHeld
import Derived.Laws.BitsLemmas
import Derived.RowKit
import Derived.Lib.LazyBuf
import Derived.Laws.IdiomCopy
import Derived.Shelf.Abstract
import Derived.Test.YtkkmeccdjpibmaaGreatDoorShelf
import Derived.Test.YtkkmeccdjpibmaaGreatDoorLib
import Derived.Lib.SplitLaws
import Derived.Lib.IndexBytes
import Derived.Test.YtkkmeccdjpibmaaGreatDoorVCWords
import Derived.Test.YtkkmeccdjpibmaaGreatDoorVCLast
import Derived.Test.YtkkmeccdjpibmaaGreatDoorVCTab
import Derived.Test.YtkkmeccdjpibmaaGreatDoorVCFour
import Derived.Test.YtkkmeccdjpibmaaGreatDoorVCQPut
import Derived.Test.YtkkmeccdjpibmaaGreatDoorVCApart
import Derived.Test.YtkkmeccdjpibmaaGreatDoorVCArr
import Derived.Test.YtkkmeccdjpibmaaGreatDoorVCZeros
import Derived.Test.YtkkmeccdjpibmaaGreatDoorVCFoot
import Derived.Test.YtkkmeccdjpibmaaGreatDoorVCKept
import Derived.Test.YtkkmeccdjpibmaaGreatDoorVCShare
import Derived.Test.YtkkmeccdjpibmaaGreatDoorVCN
import Derived.Test.YtkkmeccdjpibmaaGreatDoorVCFootNe
import Derived.Test.YtkkmeccdjpibmaaGreatDoorVCAt
import Derived.Test.YtkkmeccdjpibmaaGreatDoorVCEqStruct
import Derived.Test.YtkkmeccdjpibmaaGreatDoorVCRepsOne
import Derived.Test.YtkkmeccdjpibmaaGreatDoorVCInv
import Derived.Test.YtkkmeccdjpibmaaGreatDoorVCInvWords
import Derived.Test.YtkkmeccdjpibmaaGreatDoorVCGuard
import Derived.Test.YtkkmeccdjpibmaaGreatDoorVCNEv
import Derived.Test.YtkkmeccdjpibmaaGreatDoorVCMore
namespace Go.Proofs.YtkkmeccdjpibmaaGreatDoor.QFnCatalogue
open Go.RowKit Go.Proofs.YtkkmeccdjpibmaaGreatDoorW.PrintWords Go.Proofs.YtkkmeccdjpibmaaGreatDoorW.PrintLast Go.Proofs.YtkkmeccdjpibmaaGreatDoorW.PrintMore
theorem am_ {p : Prop} (h : p) : Aside0 p := ⟨h⟩
theorem bo_ {α β : Type} {a : Option α} {f : α → Option β} {b : β} (h : a.bind f = some b) : ∃ x, Aside0 (a = some x) ∧ f x = some b :=
  let ⟨x, h1, h2⟩ := Option.bind_eq_some_iff.mp h; ⟨x, ⟨h1⟩, h2⟩
theorem pu_ : (∀ {α : Type} (l : List α) (i : Nat) (a : α), l.toArray.setIfInBounds i a = (l.set i a).toArray) ∧ (∀ {α : Type} (x : α) (l : List α) (a : α), (x :: l).set 0 a = a :: l) ∧ (∀ {α : Type} (x : α) (l : List α) (n : Nat) (a : α), (x :: l).set (n + 1) a = x :: l.set n a) ∧ (∀ x : Int, IntKind.i64.wrap x = wrap64 x) ∧ (∀ x : Int, IntKind.i32.wrap x = wrap32 x) :=
  ⟨fun _ _ _ => by simp, fun _ _ _ => rfl, fun _ _ _ _ => rfl, i64_w, i32_w⟩
theorem gd_ {p : Prop} (h : p := by (try simp only [List.map_toArray, List.map_cons, List.map_nil]); first | done | rfl|(simp only [List.length_drop, List.length_take]; rfl)) : p := h
theorem hr_ {p : Prop} (h : p := by first | (go_simp; done) | (go_simp; rfl)) : p := h
def bl_:Nat→Nat→List Bool
 | _,0=>[]
 | 0,n+1=>false :: bl_ 0 n
 | i+1,n+1=>true :: bl_ i n
def bf_ (i n:Nat):Array Bool:=⟨bl_ i n⟩
end Go.Proofs.YtkkmeccdjpibmaaGreatDoor.QFnCatalogue
