/- Short names for what the printed texts say again and again. -/
import Derived.Test.YtcnegcdmmackeaaGreatApFnEditions
import Derived.Test.YtcnegcdmmackeaaGreatProg
import Derived.Below
import Derived.Deep.Draws
import Derived.Deep.AppendLies
import Derived.Maps.AppendAt
import Derived.OwnWalk
import Derived.Laws.BytesArg
import Derived.Laws.MakeOwn
import Derived.Laws.OwnMore
import Derived.Deep.OwnRows
import Derived.Tactics
import Derived.Lib.ConvBytes
import Derived.Laws.Slices
import Derived.WalkKit
import Derived.KernelRfl
import Derived.RowKit3
import Derived.Deep.LoopGhost
import Derived.Deep.QuietTactic
import Derived.BigQuiet
import Derived.WideLaws
import Derived.Deep.DeepCutAuto
import Derived.Deep.CutBlock
import Derived.Deep.RegionHeld3
import Derived.Laws.Rows
import Derived.Lib.AppendStr
import Derived.ArgAppend
import Derived.Laws.IdiomCopy
import Derived.OrdersHeld
import Derived.Laws.BitsLemmas
import Derived.RowKit
import Derived.Lib.LazyBuf
import Derived.Shelf.Abstract
import Derived.Test.YtcnegcdmmackeaaGreatShelf
import Derived.Test.YtcnegcdmmackeaaGreatSym3
import Derived.Test.YtcnegcdmmackeaaGreatBaseE
import Derived.StillTailTactics
import Derived.Test.YtcnegcdmmackeaaGreatVEWords
import Derived.Test.YtcnegcdmmackeaaGreatVELast
import Derived.Test.YtcnegcdmmackeaaGreatVEMore
import Derived.Test.YtcnegcdmmackeaaGreatVEFoot
import Derived.Test.YtcnegcdmmackeaaGreatVEApart
namespace Go.Proofs.YtcnegcdmmackeaaGreat.QFnEditions
open Go.RowKit Go.Proofs.YtcnegcdmmackeaaGreatW.PrintWords Go.Proofs.YtcnegcdmmackeaaGreatW.PrintLast Go.Proofs.YtcnegcdmmackeaaGreatW.PrintMore
theorem am_ {p : Prop} (h : p) : Aside0 p := ⟨h⟩
theorem bo_ {α β : Type} {a : Option α} {f : α → Option β} {b : β} (h : a.bind f = some b) : ∃ x, Aside0 (a = some x) ∧ f x = some b :=
  let ⟨x, h1, h2⟩ := Option.bind_eq_some_iff.mp h; ⟨x, ⟨h1⟩, h2⟩
theorem pu_ : (∀ {α : Type} (l : List α) (i : Nat) (a : α), l.toArray.setIfInBounds i a = (l.set i a).toArray) ∧ (∀ {α : Type} (x : α) (l : List α) (a : α), (x :: l).set 0 a = a :: l) ∧ (∀ {α : Type} (x : α) (l : List α) (n : Nat) (a : α), (x :: l).set (n + 1) a = x :: l.set n a) ∧ (∀ x : Int, IntKind.i64.wrap x = wrap64 x) ∧ (∀ x : Int, IntKind.i32.wrap x = wrap32 x) :=
  ⟨fun _ _ _ => by simp, fun _ _ _ => rfl, fun _ _ _ _ => rfl, i64_w, i32_w⟩
theorem gd_ {p : Prop} (h : p := by (try simp only [List.map_toArray, List.map_cons, List.map_nil]); first | done | rfl|(simp only [List.length_drop, List.length_take]; rfl)) : p := h
theorem hr_ {p : Prop} (h : p := by first | (go_simp; done) | (go_simp; rfl)) : p := h
def bl_:Nat→Nat→List Bool
 | _,0=>[]
 | 0,n+1=>false :: bl_ 0 n
 | i+1,n+1=>true :: bl_ i n
def bf_ (i n:Nat):Array Bool:=⟨bl_ i n⟩
end Go.Proofs.YtcnegcdmmackeaaGreat.QFnEditions
