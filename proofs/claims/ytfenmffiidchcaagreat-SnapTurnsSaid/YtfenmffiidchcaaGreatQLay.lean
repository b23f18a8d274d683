/- Part of the proof (my own). -/
import Derived.Test.YtfenmffiidchcaaGreatProg
import Derived.Test.YtfenmffiidchcaaGreatChecked
import Derived.Shelf.SlIterI.Nil
import Derived.Shelf.SortM.Plain
import Derived.Shelf.SortM.SortNone
import Derived.Ground.GgzProg
import Derived.Ground.SlgmProg
namespace Go.Proofs.YtfenmffiidchcaaGreat
set_option linter.unusedVariables false
set_option maxRecDepth 100000
open Go.RowKit Go.Maps Go.Sort Go.Shelf
def Y_:Go.Shelf.Ren:=⟨λ| 7=>155|10=>235|n=>n,λ| 23=>127|26=>3|3=>140|28=>231|0=>0|27=>230|33=>96|4=>4|n=>n,λ| n=>n⟩
theorem Y':Go.Proofs.SlLaysZI.n7 Tryz.prog Y_ where
 mixed:=by kernel_rfl
 f7 := ⟨ "maps.Keys[map[int]*qanat/disk.file,int,*qanat/disk.file]", by decide, Tryz.func155.trans (congrArg some (by kernel_rfl))⟩
 f10 := ⟨ "maps.Keys[map[int]*qanat/disk.file,int,*qanat/disk.file]$1", by decide, Tryz.func235.trans (congrArg some (by kernel_rfl))⟩
 t0:=Tryz.underlying0
 a0:=Tryz.isAgg0
 z0:=Tryz.sizeOf0
 v0:=Tryz.zeroValue0
 t4:=Tryz.underlying4
 a4:=Tryz.isAgg4
 z4:=Tryz.sizeOf4
 v4:=Tryz.zeroValue4
 t23:=Tryz.underlying127
 a23:=Tryz.isAgg127
 z23:=Tryz.sizeOf127
 v23:=Tryz.zeroValue127
 t26:=Tryz.underlying3
 a26:=Tryz.isAgg3
 z26:=Tryz.sizeOf3
 v26:=Tryz.zeroValue3
 t27:=Tryz.underlying230
 a27:=Tryz.isAgg230
 z27:=Tryz.sizeOf230
 v27:=Tryz.zeroValue230
 t28:=Tryz.underlying231
 a28:=Tryz.isAgg231
 z28:=Tryz.sizeOf231
 v28:=Tryz.zeroValue231
 t33:=Tryz.underlying96
 a33:=Tryz.isAgg96
 z33:=Tryz.sizeOf96
 v33:=Tryz.zeroValue96
def Sw:Go.Shelf.Ren:=⟨λ| 6=>154|8=>233|9=>234|11=>292|13=>294|12=>293|23=>341|24=>342|14=>332|15=>333|16=>334|17=>335|18=>336|19=>337|20=>338|21=>339|22=>340|25=>360|26=>361|27=>362|28=>363|29=>364|30=>365|31=>373|n=>n,λ| 26=>3|28=>231|24=>23|0=>0|3=>3|37=>134|48=>265|50=>180|4=>4|40=>414|39=>413|45=>183|5=>5|9=>9|51=>432|55=>436|57=>443|58=>444|33=>96|n=>n,λ| n=>n⟩
theorem a7x:Go.Proofs.SlLaysZI.n6 Tryz.prog Sw where
 mixed:=by kernel_rfl
 f6 := ⟨ "slices.Sorted[int]", by decide, Tryz.func154.trans (congrArg some (by kernel_rfl))⟩
 f8 := ⟨ "slices.Collect[int]", by decide, Tryz.func233.trans (congrArg some (by kernel_rfl))⟩
 f11 := ⟨ "slices.AppendSeq[[]int,int]", by decide, Tryz.func292.trans (congrArg some (by kernel_rfl))⟩
 t0:=Tryz.underlying0
 a0:=Tryz.isAgg0
 z0:=Tryz.sizeOf0
 v0:=Tryz.zeroValue0
 t24:=Tryz.underlying23
 a24:=Tryz.isAgg23
 z24:=Tryz.sizeOf23
 v24:=Tryz.zeroValue23
 t26:=Tryz.underlying3
 a26:=Tryz.isAgg3
 z26:=Tryz.sizeOf3
 v26:=Tryz.zeroValue3
 t28:=Tryz.underlying231
 a28:=Tryz.isAgg231
 z28:=Tryz.sizeOf231
 v28:=Tryz.zeroValue231
 i26:=by kernel_rfl
def a7w:Go.Shelf.Ren:=⟨λ| 5=>234|8=>294|7=>293|19=>341|20=>342|10=>332|11=>333|12=>334|13=>335|14=>336|15=>337|16=>338|17=>339|18=>340|30=>360|31=>361|32=>362|33=>363|34=>364|35=>365|40=>373|n=>n,λ| 23=>23|25=>3|3=>3|32=>134|22=>23|0=>0|44=>265|46=>180|4=>4|36=>414|35=>413|41=>183|5=>5|9=>9|53=>432|57=>436|63=>443|64=>444|n=>n,λ| n=>n⟩
theorem Sv:Go.Proofs.SlLaysM.n5 Tryz.prog a7w where
 mixed:=by kernel_rfl
 f5 := ⟨ "slices.Sort[[]int,int]", by decide, Tryz.func234.trans (congrArg some (by kernel_rfl))⟩
 f7 := ⟨ "slices.pdqsortOrdered[int]", by decide, Tryz.func293.trans (congrArg some (by kernel_rfl))⟩
 f8:=Tryz.func294.trans (congrArg some (by kernel_rfl))
 f10 := ⟨ "slices.insertionSortOrdered[int]", by decide, Tryz.func332.trans (congrArg some (by kernel_rfl))⟩
 f11 := ⟨ "slices.heapSortOrdered[int]", by decide, Tryz.func333.trans (congrArg some (by kernel_rfl))⟩
 f12 := ⟨ "slices.breakPatternsOrdered[int]", by decide, Tryz.func334.trans (congrArg some (by kernel_rfl))⟩
 f13 := ⟨ "slices.choosePivotOrdered[int]", by decide, Tryz.func335.trans (congrArg some (by kernel_rfl))⟩
 f14 := ⟨ "slices.reverseRangeOrdered[int]", by decide, Tryz.func336.trans (congrArg some (by kernel_rfl))⟩
 f15 := ⟨ "slices.partialInsertionSortOrdered[int]", by decide, Tryz.func337.trans (congrArg some (by kernel_rfl))⟩
 f16 := ⟨ "cmp.Less[int]", by decide, Tryz.func338.trans (congrArg some (by kernel_rfl))⟩
 f17 := ⟨ "slices.partitionEqualOrdered[int]", by decide, Tryz.func339.trans (congrArg some (by kernel_rfl))⟩
 f18 := ⟨ "slices.partitionOrdered[int]", by decide, Tryz.func340.trans (congrArg some (by kernel_rfl))⟩
 f19:=Tryz.func341.trans (congrArg some (by kernel_rfl))
 f20:=Tryz.func342.trans (congrArg some (by kernel_rfl))
 f30 := ⟨ "slices.siftDownOrdered[int]", by decide, Tryz.func360.trans (congrArg some (by kernel_rfl))⟩
 f31:=Tryz.func361.trans (congrArg some (by kernel_rfl))
 f32:=Tryz.func362.trans (congrArg some (by kernel_rfl))
 f33 := ⟨ "slices.medianAdjacentOrdered[int]", by decide, Tryz.func363.trans (congrArg some (by kernel_rfl))⟩
 f34 := ⟨ "slices.medianOrdered[int]", by decide, Tryz.func364.trans (congrArg some (by kernel_rfl))⟩
 f35 := ⟨ "cmp.isNaN[int]", by decide, Tryz.func365.trans (congrArg some (by kernel_rfl))⟩
 f40 := ⟨ "slices.order2Ordered[int]", by decide, Tryz.func373.trans (congrArg some (by kernel_rfl))⟩
 t0:=Tryz.underlying0
 a0:=Tryz.isAgg0
 z0:=Tryz.sizeOf0
 v0:=Tryz.zeroValue0
 t3:=Tryz.underlying3
 a3:=Tryz.isAgg3
 z3:=Tryz.sizeOf3
 v3:=Tryz.zeroValue3
 t4:=Tryz.underlying4
 a4:=Tryz.isAgg4
 z4:=Tryz.sizeOf4
 v4:=Tryz.zeroValue4
 t5:=Tryz.underlying5
 a5:=Tryz.isAgg5
 z5:=Tryz.sizeOf5
 v5:=Tryz.zeroValue5
 t9:=Tryz.underlying9
 a9:=Tryz.isAgg9
 z9:=Tryz.sizeOf9
 v9:=Tryz.zeroValue9
 t22:=Tryz.underlying23
 a22:=Tryz.isAgg23
 z22:=Tryz.sizeOf23
 v22:=Tryz.zeroValue23
 t23:=Tryz.underlying23
 a23:=Tryz.isAgg23
 z23:=Tryz.sizeOf23
 v23:=Tryz.zeroValue23
 t25:=Tryz.underlying3
 a25:=Tryz.isAgg3
 z25:=Tryz.sizeOf3
 v25:=Tryz.zeroValue3
 t32:=Tryz.underlying134
 a32:=Tryz.isAgg134
 z32:=Tryz.sizeOf134
 v32:=Tryz.zeroValue134
 t35:=Tryz.underlying413
 a35:=Tryz.isAgg413
 z35:=Tryz.sizeOf413
 v35:=Tryz.zeroValue413
 t36:=Tryz.underlying414
 a36:=Tryz.isAgg414
 z36:=Tryz.sizeOf414
 v36:=Tryz.zeroValue414
 t41:=Tryz.underlying183
 a41:=Tryz.isAgg183
 z41:=Tryz.sizeOf183
 v41:=Tryz.zeroValue183
 t44:=Tryz.underlying265
 a44:=Tryz.isAgg265
 z44:=Tryz.sizeOf265
 v44:=Tryz.zeroValue265
 t46:=Tryz.underlying180
 a46:=Tryz.isAgg180
 z46:=Tryz.sizeOf180
 v46:=Tryz.zeroValue180
 t53:=Tryz.underlying432
 a53:=Tryz.isAgg432
 z53:=Tryz.sizeOf432
 v53:=Tryz.zeroValue432
 t57:=Tryz.underlying436
 a57:=Tryz.isAgg436
 z57:=Tryz.sizeOf436
 v57:=Tryz.zeroValue436
 t63:=Tryz.underlying443
 a63:=Tryz.isAgg443
 z63:=Tryz.sizeOf443
 v63:=Tryz.zeroValue443
 t64:=Tryz.underlying444
 a64:=Tryz.isAgg444
 z64:=Tryz.sizeOf444
 v64:=Tryz.zeroValue444
end Go.Proofs.YtfenmffiidchcaaGreat
