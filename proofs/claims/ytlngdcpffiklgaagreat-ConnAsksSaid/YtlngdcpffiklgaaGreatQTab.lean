/- Part. -/
import Derived.Test.YtlngdcpffiklgaaGreatQEng10
import Derived.Test.YtlngdcpffiklgaaGreatChecked
namespace Go.Proofs.YtlngdcpffiklgaaGreat
set_option linter.all false
set_option maxRecDepth 100000
open Go.RowKit Go.Proofs.Tryz
def kN:List Bool:=[false,false]++(List.replicate 357 true++[false,true,true,false,true,true,true,true,true,true,true,true,true,true,true,true,true,true,true,true,true,true,true,true,true,true,true,false,true,true,true,true,true,true,true,true,true,true,false,false,false,false,false,false,false,false,false,false,false,false,false,false,false,false,false])
theorem aIf:Calls.pI prog kN:=a_n _ _ (by kernel_rfl)
theorem cBq:prog.follows .mixedOrders=true:=by kernel_rfl
theorem VJ(JL JC:Marks){f:FuncId}{fn:Func}{vs:List Value}{w:World}{R:Value->World->Prop}{V:Prop}(hf:prog.funcs[f]?=some fn)(h:V)(a:Fg prog fn=true:=by kernel_rfl)(b:Nat.ble (y_ vs) fn.ntmps=true:=by kernel_rfl)(e:Fh prog kN JL JC fn vs w R=V:=by kernel_rfl):zB prog f vs w R:=bWe aIf cBq hf a b (e.mpr h)
abbrev aF:=zB prog
abbrev bW(n:Nat)(p:Value)(w:World)(K:Value->Prop):Prop:=qn p λa=>zl n a λb=>cC b w K
abbrev c_(n:Nat)(p v:Value)(w:World)(K:World->Prop):Prop:=qn p λa=>zl n a λb=>eE b v w K
abbrev b_(n:Nat)(p:Value)(K:Value->Prop):Prop:=qn p λa=>zl n a K
abbrev a_(n:Nat)(p:Value)(w:World)(K:Value->Prop):Prop:=zl n p λb=>cC b w K
abbrev aI(o:BinOp)(a b:Value)(A B:Prop):Prop:=zc o a b λv=>df v A B
abbrev ai:=Value.int .i64
abbrev cP(a:Value)(A B:Prop):Prop:=y6 a λv=>df v A B
abbrev cz(R:Value->World->Prop)(w:World):Prop:=R (.bool false) w
abbrev bR:Value:=.slice none 0 0
abbrev aW(p:Value)(w:World)(u:Value)(A:Prop):Prop:=cC p w λv=>v=u/\A
abbrev iA:List Value:=[ai 0,ai 0,ai 0,ai 0,ai 0,ai 0,ai 0,ai 0,ai 0,ai 0]
abbrev cY:Value:=.pointer none
abbrev cR:Value:=.string ⟨#[]⟩
theorem cB{f:FuncId}{fn:Func}{vs:List Value}{w:World}{R:Value->World->Prop}{V:Prop}(hf:prog.funcs[f]?=some fn)(h:V)(a:Fg prog fn=true:=by kernel_rfl)(b:Nat.ble (y_ vs) fn.ntmps=true:=by kernel_rfl)(e:Fh prog kN [] [] fn vs w R=V:=by kernel_rfl):zB prog f vs w R:=VJ [] [] hf h a b e
abbrev IW:=List Value->World->Prop
abbrev IM:=List Value->World->Nat
