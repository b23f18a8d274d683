/- Part. -/
import Derived.Test.YtmkllimamejcgaaGreatQEng10
import Derived.Test.YtmkllimamejcgaaGreatProg
import Derived.Test.YtmkllimamejcgaaGreatChecked
namespace Go.Proofs.YtmkllimamejcgaaGreat
set_option linter.all false
set_option maxRecDepth 100000
open Go.RowKit
def mT:List Bool:=[false,false,true,true,true,true,true,true,true,true,true,true,true,true,true,true,true,true,true,true,true,true,true,true,true,true,true,true,true,true,true,true,true,true,true,true,true,true,true,true,true,true,true,true,true,true,true,true,true,true,true,true,true,true,true,true,true,true,true,true,true,true,true,true,true,true,true,true,true,true,true,true,true,true,true,true,true,true,true,true,true,true,true,true,true,true,true,true,true,true,true,true,true,true,true,true,true,true,true,true,true,true,true,true,true,true,true,true,true,true,true,true,true,true,true,true,true,true,true,true,true,true,true,true,true,true,true,true,true,true,true,true,true,true,true,true,true,true,true,true,true,true,true,true,true,true,true,true,true,true,true,true,true,true,true,true,true,true,true,true,true,true,true,true,true,true,true,true,true,true,true,true,true,true,true,true,true,true,true,true,true,true,true,true,true,true,true,true,true,true,true,true,true,true,true,true,true,true,true,true,true,true,true,true,true,true,true,true,true,true,true,true,true,true,true,true,true,true,true,true,true,true,true,true,true,true,true,true,true,true,true,true,true,true,true,true,true,true,true,true,true,true,true,true,true,true,true,true,true,true,true,true,true,true,true,true,true,true,true,true,true,true,true,true,true,true,true,true,true,true,true,true,true,true,true,true,true,true,true,true,true,true,true,true,true,true,true,true,true,true,true,true,true,true,true,true,true,true,true,true,true,true,true,true,true,true,true,true,true,true,true,true,true,true,true,true,true,true,true,true,true,true,true,true,true,true,true,true,true,true,true,true,true,true,true,true,true,true,true,true,true,true,true,true,true,true,true,true,true,true,true,true,true,true,true,true,true,true,true,true,true,true,false,true,true,true,false,true,true,true,true,true,true,true,true,true,true,true,true,true,true,true,true,true,true,true,true,true,true,true,false,true,true,true,true,true,true,true,true,true,true,false,false,false,false,false,false,false,false,false,false,false,false,false,false,false,false,false]
theorem aw0:Calls.pB Tryz.prog mT:=aR5 _ _ (by kernel_rfl)
theorem b_a:Tryz.prog.follows .mixedOrders=true:=by kernel_rfl
theorem VJ(JL JC:Marks){f:FuncId}{fn:Func}{vs:List Value}{w:World}{R:Value->World->Prop}{V:Prop}(hf:Tryz.prog.funcs[f]?=some fn)(h:V)(a:EW Tryz.prog fn=true:=by kernel_rfl)(b:Nat.ble (xV vs) fn.ntmps=true:=by kernel_rfl)(e:EX Tryz.prog mT JL JC fn vs w R=V:=by kernel_rfl):zQ Tryz.prog f vs w R:=bIw aw0 b_a hf a b (e.mpr h)
abbrev aF:=zQ Tryz.prog
abbrev bU(n:Nat)(p:Value)(w:World)(K:Value->Prop):Prop:=qa p λa=>zl n a λb=>cn b w K
abbrev cV(n:Nat)(p v:Value)(w:World)(K:World->Prop):Prop:=qa p λa=>zl n a λb=>eH b v w K
abbrev bV(n:Nat)(p:Value)(K:Value->Prop):Prop:=qa p λa=>zl n a K
abbrev a_(n:Nat)(p:Value)(w:World)(K:Value->Prop):Prop:=zl n p λb=>cn b w K
abbrev aI(o:BinOp)(a b:Value)(A B:Prop):Prop:=zc o a b λv=>dm v A B
abbrev ai:=Value.int .i64
abbrev cL(a:Value)(A B:Prop):Prop:=Zf a λv=>dm v A B
abbrev bY(R:Value->World->Prop)(w:World):Prop:=R (.bool false) w
abbrev bI:Value:=.slice none 0 0
abbrev aR(p:Value)(w:World)(u:Value)(A:Prop):Prop:=cn p w λv=>v=u/\A
abbrev ir:List Value:=[ai 0,ai 0,ai 0,ai 0,ai 0,ai 0,ai 0,ai 0,ai 0,ai 0]
abbrev cT:Value:=.pointer none
abbrev cQ:Value:=.string ⟨#[]⟩
theorem cw{f:FuncId}{fn:Func}{vs:List Value}{w:World}{R:Value->World->Prop}{V:Prop}(hf:Tryz.prog.funcs[f]?=some fn)(h:V)(a:EW Tryz.prog fn=true:=by kernel_rfl)(b:Nat.ble (xV vs) fn.ntmps=true:=by kernel_rfl)(e:EX Tryz.prog mT [] [] fn vs w R=V:=by kernel_rfl):zQ Tryz.prog f vs w R:=VJ [] [] hf h a b e
abbrev IW:=List Value->World->Prop
abbrev IM:=List Value->World->Nat
