/- Part of the proof (my own). -/
import Derived.Test.YtfenmffiidchcaaGreatQEng10
import Derived.Test.YtfenmffiidchcaaGreatProg
import Derived.Test.YtfenmffiidchcaaGreatChecked
namespace Go.Proofs.YtfenmffiidchcaaGreat
set_option linter.unusedVariables false
set_option maxRecDepth 100000
open Go.RowKit
def uN:List Bool:=[false,false,true,true,true,true,true,true,true,true,true,true,true,true,true,true,true,true,true,true,true,true,true,true,true,true,true,true,true,true,true,true,true,true,true,true,true,true,true,true,true,true,true,true,true,true,true,true,true,true,true,true,true,true,true,true,true,true,true,true,true,true,true,true,true,true,true,true,true,true,true,true,true,true,true,true,true,true,true,true,true,true,true,true,true,true,true,true,true,true,true,true,true,true,true,true,true,true,true,true,true,true,true,true,true,true,true,true,true,true,true,true,true,true,true,true,true,true,true,true,true,true,true,true,true,true,true,true,true,true,true,true,true,true,true,true,true,true,true,true,true,true,true,true,true,true,true,true,true,true,true,true,true,true,true,true,true,true,true,true,true,true,true,true,true,true,true,true,true,true,true,true,true,true,true,true,true,true,true,true,true,true,true,true,true,true,true,true,true,true,true,true,true,true,true,true,true,true,true,true,true,true,true,true,true,true,true,true,true,true,true,true,true,true,true,true,true,true,true,true,true,true,true,true,true,true,true,true,true,true,true,true,true,true,true,true,true,true,true,true,true,true,true,true,true,true,true,true,true,true,true,true,true,true,true,true,true,true,true,true,true,true,true,true,true,true,true,true,true,true,true,true,true,true,true,true,true,true,true,true,true,true,true,true,true,true,true,true,true,true,true,true,true,true,true,true,true,true,true,true,true,true,true,true,true,true,true,true,true,true,true,true,true,true,true,true,true,true,true,true,true,true,true,false,true,true,true,true,true,true,true,true,true,true,true,true,true,true,true,true,true,true,true,true,true,true,true,true,true,true,true,true,true,true,true,true,true,true,true,true,true,true,true,true,true,true,true,true,true,true,true,true,true,true,true,true,false,true,true,false,true,false,false,false,false,false,false,false,false,false,false,false,false,false,false,false,false]
theorem UY:Calls.rM Tryz.prog uN:=VW _ _ (by kernel_rfl)
theorem aWu:Tryz.prog.follows .mixedOrders=true:=by kernel_rfl
theorem VJ(JL JC:Marks){f:FuncId}{fn:Func}{vs:List Value}{w:World}{R:Value->World->Prop}{V:Prop}(hf:Tryz.prog.funcs[f]?=some fn)(h:V)(a:DD Tryz.prog fn=true:=by kernel_rfl)(b:Nat.ble (xL vs) fn.ntmps=true:=by kernel_rfl)(e:DE Tryz.prog uN JL JC fn vs w R=V:=by kernel_rfl):zU Tryz.prog f vs w R:=Xn UY aWu hf a b (e.mpr h)
abbrev aw:=zU Tryz.prog
abbrev bF(n:Nat)(p:Value)(w:World)(K:Value->Prop):Prop:=YX p λa=>zr n a λb=>b6 b w K
abbrev fI(n:Nat)(p v:Value)(w:World)(K:World->Prop):Prop:=YX p λa=>zr n a λb=>jG b v w K
abbrev dI(n:Nat)(p:Value)(K:Value->Prop):Prop:=YX p λa=>zr n a K
abbrev a7(n:Nat)(p:Value)(w:World)(K:Value->Prop):Prop:=zr n p λb=>b6 b w K
abbrev aF(o:BinOp)(a b:Value)(A B:Prop):Prop:=zc o a b λv=>ic v A B
abbrev ai:=Value.int .i64
abbrev c_(a:Value)(A B:Prop):Prop:=Zj a λv=>ic v A B
abbrev b7(R:Value->World->Prop)(w:World):Prop:=R (.bool false) w
abbrev bI:Value:=.slice none 0 0
abbrev aW(p:Value)(w:World)(u:Value)(A:Prop):Prop:=b6 p w λv=>v=u/\A
abbrev iG:List Value:=[ai 0,ai 0,ai 0,ai 0,ai 0,ai 0,ai 0,ai 0,ai 0,ai 0]
abbrev eI:Value:=.pointer none
abbrev cI:Value:=.string ⟨#[]⟩
theorem dw{f:FuncId}{fn:Func}{vs:List Value}{w:World}{R:Value->World->Prop}{V:Prop}(hf:Tryz.prog.funcs[f]?=some fn)(h:V)(a:DD Tryz.prog fn=true:=by kernel_rfl)(b:Nat.ble (xL vs) fn.ntmps=true:=by kernel_rfl)(e:DE Tryz.prog uN [] [] fn vs w R=V:=by kernel_rfl):zU Tryz.prog f vs w R:=VJ [] [] hf h a b e
abbrev IW:=List Value->World->Prop
abbrev IM:=List Value->World->Nat
end Go.Proofs.YtfenmffiidchcaaGreat
