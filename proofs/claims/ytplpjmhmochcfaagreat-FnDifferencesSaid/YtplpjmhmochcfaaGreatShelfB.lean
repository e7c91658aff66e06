/- Laid by the kit's tool at this seat's program: the laying of the sort of structs (slices.SortFunc's kin), apart from the other contracts. -/
import Derived.Shelf.Small.Bits
import Derived.Shelf.Strconv.Itoa0
import Derived.Shelf.Sort.Plain
import Derived.Shelf.GgSortFunc.Insertion
import Derived.Shelf.GgSortFunc.InsertionK
import Derived.Shelf.GgSortFunc.Tiny
import Derived.Shelf.GgSortFunc.Compose
import Derived.Shelf.GgSortMore.Stable
import Derived.Shelf.Slices.Clone
import Derived.Shelf.Slices.CompactI
import Derived.Shelf.Slices.SearchI
import Derived.Shelf.Slices.Cells
import Derived.Shelf.Slices.In.SortNone
import Derived.Shelf.Slices.In.SortNone2
import Derived.Shelf.SlSortFuncK.ComposeK
import Derived.Shelf.SlicesE.Clone
import Derived.Test.YtplpjmhmochcfaaGreatProg
namespace Go.Proofs
open Go.Shelf
def Tryz.laysGt8_ren:Go.Shelf.Ren:=⟨fun | 8=>96 | 13=>112 | 14=>113 | 16=>115 | 15=>114 | 29=>127 | 30=>128 | 42=>140 | 49=>147 | n=>n,fun | 20=>20 | 26=>112 | 36=>123 | 0=>0 | 38=>125 | 42=>129 | 3=>3 | 4=>4 | 47=>130 | 17=>17 | 33=>120 | 34=>121 | 89=>169 | 12=>12 | 56=>146 | 82=>162 | 5=>5 | 83=>163 | 84=>164 | 85=>165 | 86=>166 | 87=>167 | n=>n,fun | n=>n⟩
theorem Tryz.laysGt8:Go.Proofs.LaysGt.n8 Tryz.prog Tryz.laysGt8_ren:= {
 mixed:=by kernel_rfl
 f8:=Tryz.func96.trans (congrArg some (by kernel_rfl))
 f13:=Tryz.func112.trans (congrArg some (by kernel_rfl))
 f14:=Tryz.func113.trans (congrArg some (by kernel_rfl))
 f15:=Tryz.func114.trans (congrArg some (by kernel_rfl))
 f16:=Tryz.func115.trans (congrArg some (by kernel_rfl))
 f29:=Tryz.func127.trans (congrArg some (by kernel_rfl))
 f30:=Tryz.func128.trans (congrArg some (by kernel_rfl))
 f42:=Tryz.func140.trans (congrArg some (by kernel_rfl))
 f49:=Tryz.func147.trans (congrArg some (by kernel_rfl))
 t0:=Tryz.underlying0
 a0:=Tryz.isAgg0
 z0:=Tryz.sizeOf0
 v0:=Tryz.zeroValue0
 i0:=by kernel_rfl
 t3:=Tryz.underlying3
 a3:=Tryz.isAgg3
 z3:=Tryz.sizeOf3
 v3:=Tryz.zeroValue3
 i3:=by kernel_rfl
 t4:=Tryz.underlying4
 a4:=Tryz.isAgg4
 z4:=Tryz.sizeOf4
 v4:=Tryz.zeroValue4
 i4:=by kernel_rfl
 t5:=Tryz.underlying5
 a5:=Tryz.isAgg5
 z5:=Tryz.sizeOf5
 v5:=Tryz.zeroValue5
 i5:=by kernel_rfl
 t12:=Tryz.underlying12
 a12:=Tryz.isAgg12
 z12:=Tryz.sizeOf12
 v12:=Tryz.zeroValue12
 i12:=by kernel_rfl
 t17:=Tryz.underlying17
 a17:=Tryz.isAgg17
 z17:=Tryz.sizeOf17
 v17:=Tryz.zeroValue17
 i17:=by kernel_rfl
 t20:=Tryz.underlying20
 a20:=Tryz.isAgg20
 z20:=Tryz.sizeOf20
 v20:=Tryz.zeroValue20
 i20:=by kernel_rfl
 t26:=Tryz.underlying112
 a26:=Tryz.isAgg112
 z26:=Tryz.sizeOf112
 v26:=Tryz.zeroValue112
 i26:=by kernel_rfl
 t33:=Tryz.underlying120
 a33:=Tryz.isAgg120
 z33:=Tryz.sizeOf120
 v33:=Tryz.zeroValue120
 i33:=by kernel_rfl
 t34:=Tryz.underlying121
 a34:=Tryz.isAgg121
 z34:=Tryz.sizeOf121
 v34:=Tryz.zeroValue121
 i34:=by kernel_rfl
 t36:=Tryz.underlying123
 a36:=Tryz.isAgg123
 z36:=Tryz.sizeOf123
 v36:=Tryz.zeroValue123
 i36:=by kernel_rfl
 t38:=Tryz.underlying125
 a38:=Tryz.isAgg125
 z38:=Tryz.sizeOf125
 v38:=Tryz.zeroValue125
 i38:=by kernel_rfl
 t42:=Tryz.underlying129
 a42:=Tryz.isAgg129
 z42:=Tryz.sizeOf129
 v42:=Tryz.zeroValue129
 i42:=by kernel_rfl
 t47:=Tryz.underlying130
 a47:=Tryz.isAgg130
 z47:=Tryz.sizeOf130
 v47:=Tryz.zeroValue130
 i47:=by kernel_rfl
 t56:=Tryz.underlying146
 a56:=Tryz.isAgg146
 z56:=Tryz.sizeOf146
 v56:=Tryz.zeroValue146
 i56:=by kernel_rfl
 t82:=Tryz.underlying162
 a82:=Tryz.isAgg162
 z82:=Tryz.sizeOf162
 v82:=Tryz.zeroValue162
 i82:=by kernel_rfl
 t83:=Tryz.underlying163
 a83:=Tryz.isAgg163
 z83:=Tryz.sizeOf163
 v83:=Tryz.zeroValue163
 i83:=by kernel_rfl
 t84:=Tryz.underlying164
 a84:=Tryz.isAgg164
 z84:=Tryz.sizeOf164
 v84:=Tryz.zeroValue164
 i84:=by kernel_rfl
 t85:=Tryz.underlying165
 a85:=Tryz.isAgg165
 z85:=Tryz.sizeOf165
 v85:=Tryz.zeroValue165
 i85:=by kernel_rfl
 t86:=Tryz.underlying166
 a86:=Tryz.isAgg166
 z86:=Tryz.sizeOf166
 v86:=Tryz.zeroValue166
 i86:=by kernel_rfl
 t87:=Tryz.underlying167
 a87:=Tryz.isAgg167
 z87:=Tryz.sizeOf167
 v87:=Tryz.zeroValue167
 i87:=by kernel_rfl
 t89:=Tryz.underlying169
 a89:=Tryz.isAgg169
 z89:=Tryz.sizeOf169
 v89:=Tryz.zeroValue169
 i89:=by kernel_rfl }
end Go.Proofs
