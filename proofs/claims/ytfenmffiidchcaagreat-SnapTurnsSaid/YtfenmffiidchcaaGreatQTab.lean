/- Part of the proof (my own). -/
import Derived.Test.YtfenmffiidchcaaGreatQEng10
import Derived.Test.YtfenmffiidchcaaGreatProg
import Derived.Test.YtfenmffiidchcaaGreatChecked
namespace Go.Proofs.YtfenmffiidchcaaGreat
set_option linter.unusedVariables false
set_option maxRecDepth 100000
open Go.RowKit
def rD:List Bool:=[false,false,true,true,true,true,true,true,true,true,true,true,true,true,true,true,true,true,true,true,true,true,true,true,true,true,true,true,true,true,true,true,true,true,true,true,true,true,true,true,true,true,true,true,true,true,true,true,true,true,true,true,true,true,true,true,true,true,true,true,true,true,true,true,true,true,true,true,true,true,true,true,true,true,true,true,true,true,true,true,true,true,true,true,true,true,true,true,true,true,true,true,true,true,true,true,true,true,true,true,true,true,true,true,true,true,true,true,true,true,true,true,true,true,true,true,true,true,true,true,true,true,true,true,true,true,true,true,true,true,true,true,true,true,true,true,true,true,true,true,true,true,true,true,true,true,true,true,true,true,true,true,true,true,true,true,true,true,true,true,true,true,true,true,true,true,true,true,true,true,true,true,true,true,true,true,true,true,true,true,true,true,true,true,true,true,true,true,true,true,true,true,true,true,true,true,true,true,true,true,true,true,true,true,true,true,true,true,true,true,true,true,true,true,true,true,true,true,true,true,true,true,true,true,true,true,true,true,true,true,true,true,true,true,true,true,true,true,true,true,true,true,true,true,true,true,true,true,true,true,true,true,true,true,true,true,true,true,true,true,true,true,true,true,true,true,true,true,true,true,true,true,true,true,true,true,true,true,true,true,true,true,true,true,true,true,true,true,true,true,true,true,true,true,true,true,true,true,true,true,true,true,true,true,true,true,true,true,true,true,true,true,true,true,true,true,true,true,true,true,true,true,true,false,true,true,true,true,true,true,true,true,true,true,true,true,true,true,true,true,true,true,true,true,true,true,true,true,true,true,true,true,true,true,true,true,true,true,true,true,true,true,true,true,true,true,true,true,true,true,true,true,true,true,true,true,false,true,true,false,true,false,false,false,false,false,false,false,false,false,false,false,false,false,false,false,false]
theorem Tt:Calls.nr Tryz.prog rD:=Um _ _ (by kernel_rfl)
theorem awe:Tryz.prog.follows .mixedOrders=true:=by kernel_rfl
theorem VJ(JL JC:Marks){f:FuncId}{fn:Func}{vs:List Value}{w:World}{R:Value->World->Prop}{V:Prop}(hf:Tryz.prog.funcs[f]?=some fn)(h:V)(a:Bz Tryz.prog fn=true:=by kernel_rfl)(b:Nat.ble (uR vs) fn.ntmps=true:=by kernel_rfl)(e:BA Tryz.prog rD JL JC fn vs w R=V:=by kernel_rfl):zU Tryz.prog f vs w R:=VE Tt awe hf a b (e.mpr h)
abbrev aw:=zU Tryz.prog
abbrev bw(n:Nat)(p:Value)(w:World)(K:Value->Prop):Prop:=YW p λa=>zu n a λb=>cR b w K
abbrev dx(n:Nat)(p v:Value)(w:World)(K:World->Prop):Prop:=YW p λa=>zu n a λb=>fH b v w K
abbrev df(n:Nat)(p:Value)(K:Value->Prop):Prop:=YW p λa=>zu n a K
abbrev a_(n:Nat)(p:Value)(w:World)(K:Value->Prop):Prop:=zu n p λb=>cR b w K
abbrev aF(o:BinOp)(a b:Value)(A B:Prop):Prop:=zc o a b λv=>dO v A B
abbrev ai:=Value.int .i64
abbrev dc(a:Value)(A B:Prop):Prop:=Zi a λv=>dO v A B
abbrev b7(R:Value->World->Prop)(w:World):Prop:=R (.bool false) w
abbrev bF:Value:=.slice none 0 0
abbrev cF(p:Value)(w:World)(u:Value)(A:Prop):Prop:=cR p w λv=>v=u/\A
abbrev C6:List Value:=[ai 0,ai 0,ai 0,ai 0,ai 0,ai 0,ai 0,ai 0,ai 0,ai 0]
abbrev dk:Value:=.pointer none
abbrev c_:Value:=.string ⟨#[]⟩
theorem dd{f:FuncId}{fn:Func}{vs:List Value}{w:World}{R:Value->World->Prop}{V:Prop}(hf:Tryz.prog.funcs[f]?=some fn)(h:V)(a:Bz Tryz.prog fn=true:=by kernel_rfl)(b:Nat.ble (uR vs) fn.ntmps=true:=by kernel_rfl)(e:BA Tryz.prog rD [] [] fn vs w R=V:=by kernel_rfl):zU Tryz.prog f vs w R:=VJ [] [] hf h a b e
abbrev IW:=List Value->World->Prop
abbrev IM:=List Value->World->Nat
end Go.Proofs.YtfenmffiidchcaaGreat
