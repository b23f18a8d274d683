/- Part of the proof (my own). -/
import Derived.Test.YtfenmffiidchcaaGreatQEng10
import Derived.Test.YtfenmffiidchcaaGreatProg
import Derived.Test.YtfenmffiidchcaaGreatChecked
namespace Go.Proofs.YtfenmffiidchcaaGreat
set_option linter.unusedVariables false
set_option maxRecDepth 100000
open Go.RowKit
def pW:List Bool:=[false,false,true,true,true,true,true,true,true,true,true,true,true,true,true,true,true,true,true,true,true,true,true,true,true,true,true,true,true,true,true,true,true,true,true,true,true,true,true,true,true,true,true,true,true,true,true,true,true,true,true,true,true,true,true,true,true,true,true,true,true,true,true,true,true,true,true,true,true,true,true,true,true,true,true,true,true,true,true,true,true,true,true,true,true,true,true,true,true,true,true,true,true,true,true,true,true,true,true,true,true,true,true,true,true,true,true,true,true,true,true,true,true,true,true,true,true,true,true,true,true,true,true,true,true,true,true,true,true,true,true,true,true,true,true,true,true,true,true,true,true,true,true,true,true,true,true,true,true,true,true,true,true,true,true,true,true,true,true,true,true,true,true,true,true,true,true,true,true,true,true,true,true,true,true,true,true,true,true,true,true,true,true,true,true,true,true,true,true,true,true,true,true,true,true,true,true,true,true,true,true,true,true,true,true,true,true,true,true,true,true,true,true,true,true,true,true,true,true,true,true,true,true,true,true,true,true,true,true,true,true,true,true,true,true,true,true,true,true,true,true,true,true,true,true,true,true,true,true,true,true,true,true,true,true,true,true,true,true,true,true,true,true,true,true,true,true,true,true,true,true,true,true,true,true,true,true,true,true,true,true,true,true,true,true,true,true,true,true,true,true,true,true,true,true,true,true,true,true,true,true,true,true,true,true,true,true,true,true,true,true,true,true,true,true,true,true,true,true,true,true,true,true,false,true,true,true,true,true,true,true,true,true,true,true,true,true,true,true,true,true,true,true,true,true,true,true,true,true,true,true,true,true,true,true,true,true,true,true,true,true,true,true,true,true,true,true,true,true,true,true,true,true,true,true,true,false,true,true,false,true,false,false,false,false,false,false,false,false,false,false,false,false,false,false,false,false]
theorem VM:Calls.sm Tryz.prog pW:=WR _ _ (by kernel_rfl)
theorem bRc:Tryz.prog.follows .mixedOrders=true:=by kernel_rfl
theorem VJ(JL JC:Marks){f:FuncId}{fn:Func}{vs:List Value}{w:World}{R:Value->World->Prop}{V:Prop}(hf:Tryz.prog.funcs[f]?=some fn)(h:V)(a:D_ Tryz.prog fn=true:=by kernel_rfl)(b:Nat.ble (x8 vs) fn.ntmps=true:=by kernel_rfl)(e:Ea Tryz.prog pW JL JC fn vs w R=V:=by kernel_rfl):zV Tryz.prog f vs w R:=ai1 VM bRc hf a b (e.mpr h)
abbrev aw:=zV Tryz.prog
abbrev bF(n:Nat)(p:Value)(w:World)(K:Value->Prop):Prop:=Ys p λa=>zq n a λb=>cI b w K
abbrev fR(n:Nat)(p v:Value)(w:World)(K:World->Prop):Prop:=Ys p λa=>zq n a λb=>jH b v w K
abbrev d_(n:Nat)(p:Value)(K:Value->Prop):Prop:=Ys p λa=>zq n a K
abbrev a_(n:Nat)(p:Value)(w:World)(K:Value->Prop):Prop:=zq n p λb=>cI b w K
abbrev aF(o:BinOp)(a b:Value)(A B:Prop):Prop:=zc o a b λv=>g9 v A B
abbrev ai:=Value.int .i64
abbrev dW(a:Value)(A B:Prop):Prop:=y0 a λv=>g9 v A B
abbrev cw(R:Value->World->Prop)(w:World):Prop:=R (.bool false) w
abbrev bR:Value:=.slice none 0 0
abbrev aW(p:Value)(w:World)(u:Value)(A:Prop):Prop:=cI p w λv=>v=u/\A
abbrev iV:List Value:=[ai 0,ai 0,ai 0,ai 0,ai 0,ai 0,ai 0,ai 0,ai 0,ai 0]
abbrev gw:Value:=.pointer none
abbrev dw:Value:=.string ⟨#[]⟩
theorem dF{f:FuncId}{fn:Func}{vs:List Value}{w:World}{R:Value->World->Prop}{V:Prop}(hf:Tryz.prog.funcs[f]?=some fn)(h:V)(a:D_ Tryz.prog fn=true:=by kernel_rfl)(b:Nat.ble (x8 vs) fn.ntmps=true:=by kernel_rfl)(e:Ea Tryz.prog pW [] [] fn vs w R=V:=by kernel_rfl):zV Tryz.prog f vs w R:=VJ [] [] hf h a b e
abbrev IW:=List Value->World->Prop
abbrev IM:=List Value->World->Nat
end Go.Proofs.YtfenmffiidchcaaGreat
