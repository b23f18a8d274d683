/- Part of the proof (my own). -/
import Derived.Test.YtfenmffiidchcaaGreatQEng10
import Derived.Test.YtfenmffiidchcaaGreatProg
import Derived.Test.YtfenmffiidchcaaGreatChecked
namespace Go.Proofs.YtfenmffiidchcaaGreat
set_option linter.unusedVariables false
set_option maxRecDepth 100000
open Go.RowKit
def Tcall:List Bool:=[false,false,true,true,true,true,true,true,true,true,true,true,true,true,true,true,true,true,true,true,true,true,true,true,true,true,true,true,true,true,true,true,true,true,true,true,true,true,true,true,true,true,true,true,true,true,true,true,true,true,true,true,true,true,true,true,true,true,true,true,true,true,true,true,true,true,true,true,true,true,true,true,true,true,true,true,true,true,true,true,true,true,true,true,true,true,true,true,true,true,true,true,true,true,true,true,true,true,true,true,true,true,true,true,true,true,true,true,true,true,true,true,true,true,true,true,true,true,true,true,true,true,true,true,true,true,true,true,true,true,true,true,true,true,true,true,true,true,true,true,true,true,true,true,true,true,true,true,true,true,true,true,true,true,true,true,true,true,true,true,true,true,true,true,true,true,true,true,true,true,true,true,true,true,true,true,true,true,true,true,true,true,true,true,true,true,true,true,true,true,true,true,true,true,true,true,true,true,true,true,true,true,true,true,true,true,true,true,true,true,true,true,true,true,true,true,true,true,true,true,true,true,true,true,true,true,true,true,true,true,true,true,true,true,true,true,true,true,true,true,true,true,true,true,true,true,true,true,true,true,true,true,true,true,true,true,true,true,true,true,true,true,true,true,true,true,true,true,true,true,true,true,true,true,true,true,true,true,true,true,true,true,true,true,true,true,true,true,true,true,true,true,true,true,true,true,true,true,true,true,true,true,true,true,true,true,true,true,true,true,true,true,true,true,true,true,true,true,true,true,true,true,true,false,true,true,true,true,true,true,true,true,true,true,true,true,true,true,true,true,true,true,true,true,true,true,true,true,true,true,true,true,true,true,true,true,true,true,true,true,true,true,true,true,true,true,true,true,true,true,true,true,true,true,true,true,false,true,true,false,true,false,false,false,false,false,false,false,false,false,false,false,false,false,false,false,false]
theorem Tcall_ok:Calls.Tab Tryz.prog Tcall:=callTab_ok _ _ (by kernel_rfl)
theorem mixed_ok:Tryz.prog.follows .mixedOrders=true:=by kernel_rfl
theorem VJ(JL JC:Marks){f:FuncId}{fn:Func}{vs:List Value}{w:World}{R:Value→World→Prop}{V:Prop}(hf:Tryz.prog.funcs[f]?=some fn)(h:V)(a:funOk Tryz.prog fn=true:=by kernel_rfl)(b:Nat.ble (lenL vs) fn.ntmps=true:=by kernel_rfl)(e:funP Tryz.prog Tcall JL JC fn vs w R=V:=by kernel_rfl):z6 Tryz.prog f vs w R:=funP_sound Tcall_ok mixed_ok hf a b (e.mpr h)
abbrev HCl:=z6 Tryz.prog
abbrev IW:=List Value→World→Prop
abbrev IM:=List Value→World→Nat
end Go.Proofs.YtfenmffiidchcaaGreat
