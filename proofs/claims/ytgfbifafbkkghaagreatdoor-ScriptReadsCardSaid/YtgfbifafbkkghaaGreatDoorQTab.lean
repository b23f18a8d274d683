/- Part. -/
import Derived.Test.YtgfbifafbkkghaaGreatDoorQEng10
import Derived.Test.YtgfbifafbkkghaaGreatDoorChecked
namespace Go.Proofs.YtgfbifafbkkghaaGreatDoor
set_option linter.all false
set_option maxRecDepth 100000
open Go.RowKit Go.Proofs.Tryz
def jV:List Bool:=[false,false]++(List.replicate 348 true++[false,true,true,true,true,true,true,true,true,true,true,true,true,true,true,true,true,true,true,true,true,true,true,true,true,true,true,true,true,true,true,true,true,true,true,true,true,true,true,true,true,true,true,true,false,true,true,false,true,false,false,false,false,false,false,false,false,false,false,false,false,false,false,false,false,false,false,false,false,false,false,false,true])
theorem Pn:Calls.lx prog jV:=Re _ _ (by kernel_rfl)
theorem WB:prog.follows .mixedOrders=true:=by kernel_rfl
theorem VJ(JL JC:Marks){f:FuncId}{fn:Func}{vs:List Value}{w:World}{R:Value->World->Prop}{V:Prop}(hf:prog.funcs[f]?=some fn)(h:V)(a:xB prog fn=true:=by kernel_rfl)(b:Nat.ble (r7 vs) fn.ntmps=true:=by kernel_rfl)(e:xC prog jV JL JC fn vs w R=V:=by kernel_rfl):zL prog f vs w R:=Ta Pn WB hf a b (e.mpr h)
abbrev aw:=zL prog
abbrev bd(n:Nat)(p:Value)(w:World)(K:Value->Prop):Prop:=YC p λa=>zm n a λb=>bx b w K
abbrev cq(n:Nat)(p v:Value)(w:World)(K:World->Prop):Prop:=YC p λa=>zm n a λb=>cR b v w K
abbrev bG(n:Nat)(p:Value)(K:Value->Prop):Prop:=YC p λa=>zm n a K
abbrev aW(n:Nat)(p:Value)(w:World)(K:Value->Prop):Prop:=zm n p λb=>bx b w K
abbrev aF(o:BinOp)(a b:Value)(A B:Prop):Prop:=zc o a b λv=>bL v A B
abbrev ai:=Value.int .i64
abbrev bD(a:Value)(A B:Prop):Prop:=yM a λv=>bL v A B
abbrev bc(R:Value->World->Prop)(w:World):Prop:=R (.bool false) w
abbrev aZ:Value:=.slice none 0 0
abbrev ba(p:Value)(w:World)(u:Value)(A:Prop):Prop:=bx p w λv=>v=u/\A
abbrev wB:List Value:=[ai 0,ai 0,ai 0,ai 0,ai 0,ai 0,ai 0,ai 0,ai 0,ai 0]
abbrev bC:Value:=.pointer none
abbrev bn:Value:=.string ⟨#[]⟩
theorem bu{f:FuncId}{fn:Func}{vs:List Value}{w:World}{R:Value->World->Prop}{V:Prop}(hf:prog.funcs[f]?=some fn)(h:V)(a:xB prog fn=true:=by kernel_rfl)(b:Nat.ble (r7 vs) fn.ntmps=true:=by kernel_rfl)(e:xC prog jV [] [] fn vs w R=V:=by kernel_rfl):zL prog f vs w R:=VJ [] [] hf h a b e
abbrev IW:=List Value->World->Prop
abbrev IM:=List Value->World->Nat
