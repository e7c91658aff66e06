/- Written by a program of this session (the kit's printer, with leaf contracts proved by hand put in): what each Go function computes, and that the call computes it. No condition but those that each theorem names. -/
import Derived.Test.YtkkmeccdjpibmaaGreatDoorSqFnCatalogue
import Derived.Test.YtkkmeccdjpibmaaGreatDoorApFnCatalogue
import Derived.Test.YtkkmeccdjpibmaaGreatDoorProg
import Derived.Below
import Derived.Deep.Draws
import Derived.Deep.AppendLies
import Derived.Maps.AppendAt
import Derived.OwnWalk
import Derived.Laws.BytesArg
import Derived.Laws.MakeOwn
import Derived.Laws.OwnMore
import Derived.Deep.OwnRows
import Derived.Tactics
import Derived.Lib.ConvBytes
import Derived.Laws.Slices
import Derived.WalkKit
import Derived.KernelRfl
import Derived.RowKit3
import Derived.Deep.LoopGhost
import Derived.Deep.QuietTactic
import Derived.BigQuiet
import Derived.WideLaws
import Derived.Deep.DeepCutAuto
import Derived.Deep.CutBlock
import Derived.Deep.RegionHeld3
import Derived.Laws.Rows
import Derived.Lib.AppendStr
import Derived.ArgAppend
import Derived.Laws.IdiomCopy
import Derived.OrdersHeld
import Derived.Laws.BitsLemmas
import Derived.RowKit
import Derived.Lib.LazyBuf
import Derived.Laws.IdiomCopy
import Derived.Shelf.Abstract
import Derived.Test.YtkkmeccdjpibmaaGreatDoorShelf
import Derived.Test.YtkkmeccdjpibmaaGreatDoorLib
import Derived.Lib.SplitLaws
import Derived.Lib.IndexBytes
import Derived.Test.YtkkmeccdjpibmaaGreatDoorVCWords
import Derived.Test.YtkkmeccdjpibmaaGreatDoorVCLast
import Derived.Test.YtkkmeccdjpibmaaGreatDoorVCTab
import Derived.Test.YtkkmeccdjpibmaaGreatDoorVCFour
import Derived.Test.YtkkmeccdjpibmaaGreatDoorVCQPut
import Derived.Test.YtkkmeccdjpibmaaGreatDoorVCApart
import Derived.Test.YtkkmeccdjpibmaaGreatDoorVCArr
import Derived.Test.YtkkmeccdjpibmaaGreatDoorVCZeros
import Derived.Test.YtkkmeccdjpibmaaGreatDoorVCFoot
import Derived.Test.YtkkmeccdjpibmaaGreatDoorVCKept
import Derived.Test.YtkkmeccdjpibmaaGreatDoorVCShare
import Derived.Test.YtkkmeccdjpibmaaGreatDoorVCN
import Derived.Test.YtkkmeccdjpibmaaGreatDoorVCFootNe
import Derived.Test.YtkkmeccdjpibmaaGreatDoorVCAt
import Derived.Test.YtkkmeccdjpibmaaGreatDoorVCEqStruct
import Derived.Test.YtkkmeccdjpibmaaGreatDoorVCRepsOne
import Derived.Test.YtkkmeccdjpibmaaGreatDoorVCInv
import Derived.Test.YtkkmeccdjpibmaaGreatDoorVCInvWords
import Derived.Test.YtkkmeccdjpibmaaGreatDoorVCGuard
import Derived.Test.YtkkmeccdjpibmaaGreatDoorVCNEv
import Derived.Test.YtkkmeccdjpibmaaGreatDoorVCMore
namespace Go.Proofs.YtkkmeccdjpibmaaGreatDoor.QFnCatalogue
open Go.RowKit Go.Proofs.YtkkmeccdjpibmaaGreatDoorW.PrintWords Go.Proofs.YtkkmeccdjpibmaaGreatDoorW.PrintLast Go.Proofs.YtkkmeccdjpibmaaGreatDoorW.PrintMore
attribute [local go_sem] max2_int min2_int max_two min_two max_three min_three max_four min_four   -- for this text's walks alone
set_option linter.unusedVariables false
set_option linter.unusedSimpArgs false



def errW:Option Int→Value
 | none=> .nilIface
 | some c=> .iface 0 (.int .i64 c)
theorem errW_none:errW none = .nilIface:=rfl
theorem errW_some (c:Int):errW (some c) = .iface 0 (.int .i64 c):=rfl

theorem info3:(Tryz.prog.info? 3).map (fun i=>(i.zero,i.size,i.bytes))=some (some (.int .i64 0),1,8):=by kernel_rfl
theorem info5:(Tryz.prog.info? 5).map (fun i=>(i.zero,i.size,i.bytes))=some (some (.int .u8 0),1,1):=by kernel_rfl
theorem info9:(Tryz.prog.info? 9).map (fun i=>(i.zero,i.size,i.bytes))=some (some (.string ⟨#[]⟩),1,16):=by kernel_rfl
theorem info47:(Tryz.prog.info? 47).map (fun i=>(i.zero,i.size,i.bytes))=some (some (.agg #[(.string ⟨#[]⟩),(.string ⟨#[]⟩),(.int .i64 0),(.int .i64 0)]),4,48):=by kernel_rfl
-- the values' own types
/-! #### struct type 47 -/
structure S47 where
 f0:ByteArray
 f1:ByteArray
 f2:Int
 f3:Int
def z47:S47:=⟨(⟨#[]⟩:ByteArray),(⟨#[]⟩:ByteArray),(0:Int),(0:Int)⟩
def k47:Kd S47:=Kd.iso (Kd.pair Kd.string (Kd.pair Kd.string (Kd.pair (Kd.int .i64) (Kd.int .i64)))) (fun x:S47=>(x.f0,x.f1,x.f2,x.f3))
theorem k47_open {w:World} {x:S47} {cs:List Value} (h:k47.K w x cs):cs = [.string x.f0, .string x.f1, .int .i64 x.f2, .int .i64 x.f3]:=by
 obtain⟨_,_,rfl,rfl,⟨_,_,rfl,rfl,⟨_,_,rfl,rfl,rfl⟩⟩⟩:=h;exact rfl
theorem k47_openM {w:World} {base:Nat} {ok:Nat→Prop} {x:S47} {cs:List Value} (h:k47.M w base ok x cs):cs = [.string x.f0, .string x.f1, .int .i64 x.f2, .int .i64 x.f3]:=by
 obtain⟨_,_,rfl,rfl,⟨_,_,rfl,rfl,⟨_,_,rfl,rfl,rfl⟩⟩⟩:=h;exact rfl
theorem k47_mk (w:World) (x:S47)  : k47.K w x [.string x.f0, .string x.f1, .int .i64 x.f2, .int .i64 x.f3]:=⟨[.string x.f0], [.string x.f1, .int .i64 x.f2, .int .i64 x.f3],rfl,rfl,⟨[.string x.f1], [.int .i64 x.f2, .int .i64 x.f3],rfl,rfl,⟨[.int .i64 x.f2], [.int .i64 x.f3],rfl,rfl,rfl⟩⟩⟩
theorem k47_mkM (w:World) (base:Nat) (ok:Nat→Prop) (x:S47)  : k47.M w base ok x [.string x.f0, .string x.f1, .int .i64 x.f2, .int .i64 x.f3]:=⟨[.string x.f0], [.string x.f1, .int .i64 x.f2, .int .i64 x.f3],rfl,rfl,⟨[.string x.f1], [.int .i64 x.f2, .int .i64 x.f3],rfl,rfl,⟨[.int .i64 x.f2], [.int .i64 x.f3],rfl,rfl,rfl⟩⟩⟩
def rd_T47 (xs:List S47) (i:Int):S47:=xs.getD i.toNat z47
theorem at_T47 {w:World} {A:Option Addr} {n:Nat} {xs:List S47} (h:Kd.C k47 w A n xs) (i:Int) (h0:0≤i) (h1:i<n):∃ad ,A=some ad∧w.cell? (ad.add (i.toNat*4))=some (.string (rd_T47 xs i).f0)∧w.cell? ⟨(ad.add (i.toNat*4)).block,(ad.add (i.toNat*4)).off+1,none⟩=some (.string (rd_T47 xs i).f1)∧w.cell? ⟨(ad.add (i.toNat*4)).block,(ad.add (i.toNat*4)).off+2,none⟩=some (.int .i64 (rd_T47 xs i).f2)∧w.cell? ⟨(ad.add (i.toNat*4)).block,(ad.add (i.toNat*4)).off+3,none⟩=some (.int .i64 (rd_T47 xs i).f3):=by
 obtain⟨ad,c,e,_,hK,hc0⟩:=Kd.C_get h z47 i h0 h1;(have hc:∀j u,c[j]? = some u→w.cell? (ad.add (i.toNat*4+j))=some u:=hc0);obtain rfl:=k47_open hK;exact⟨ad,e,hc 0 _ rfl,by rw[← add_field _ _ 1 (by omega)];exact hc 1 _ rfl,by rw[← add_field _ _ 2 (by omega)];exact hc 2 _ rfl,by rw[← add_field _ _ 3 (by omega)];exact hc 3 _ rfl⟩

end Go.Proofs.YtkkmeccdjpibmaaGreatDoor.QFnCatalogue
