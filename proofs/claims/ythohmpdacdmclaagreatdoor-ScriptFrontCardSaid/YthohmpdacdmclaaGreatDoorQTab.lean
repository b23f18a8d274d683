/- Part. -/
import Derived.Test.YthohmpdacdmclaaGreatDoorQEng10
import Derived.Test.YthohmpdacdmclaaGreatDoorChecked
namespace Go.Proofs.YthohmpdacdmclaaGreatDoor
set_option linter.all false
set_option maxRecDepth 100000
open Go.RowKit Go.Proofs.Tryz
def mK:List Bool:=[false,false]++(List.replicate 311 true++[false,true,true,true,true,true,true,true,true,true,true,true,true,true,true,true,true,true,true,true,true,true,true,true,true,true,true,true,true,true,true,true,true,true,true,true,true,true,true,true,true,true,true,true,false,true,true,false,true,false,false,false,false,false,false,false,false,false,false,false,false,false,false,false,false,false,false,false,false,false,false,false,true])
theorem aww:Calls.oM prog mK:=aR8 _ _ (by kernel_rfl)
theorem bo7:prog.follows .mixedOrders=true:=by kernel_rfl
theorem VJ(JL JC:Marks){f:FuncId}{fn:Func}{vs:List Value}{w:World}{R:Value->World->Prop}{V:Prop}(hf:prog.funcs[f]?=some fn)(h:V)(a:En prog fn=true:=by kernel_rfl)(b:Nat.ble (xj vs) fn.ntmps=true:=by kernel_rfl)(e:Eo prog mK JL JC fn vs w R=V:=by kernel_rfl):zJ prog f vs w R:=bf2 aww bo7 hf a b (e.mpr h)
abbrev aF:=zJ prog
abbrev bh(n:Nat)(p:Value)(w:World)(K:Value->Prop):Prop:=qd p λa=>zk n a λb=>bu b w K
abbrev bS(n:Nat)(p v:Value)(w:World)(K:World->Prop):Prop:=qd p λa=>zk n a λb=>dj b v w K
abbrev bk(n:Nat)(p:Value)(K:Value->Prop):Prop:=qd p λa=>zk n a K
abbrev aW(n:Nat)(p:Value)(w:World)(K:Value->Prop):Prop:=zk n p λb=>bu b w K
abbrev aI(o:BinOp)(a b:Value)(A B:Prop):Prop:=zc o a b λv=>cB v A B
abbrev ai:=Value.int .i64
abbrev bJ(a:Value)(A B:Prop):Prop:=y7 a λv=>cB v A B
abbrev br(R:Value->World->Prop)(w:World):Prop:=R (.bool false) w
abbrev bc:Value:=.slice none 0 0
abbrev bg(p:Value)(w:World)(u:Value)(A:Prop):Prop:=bu p w λv=>v=u/\A
abbrev gC:List Value:=[ai 0,ai 0,ai 0,ai 0,ai 0,ai 0,ai 0,ai 0,ai 0,ai 0]
abbrev bT:Value:=.pointer none
abbrev bK:Value:=.string ⟨#[]⟩
theorem bt{f:FuncId}{fn:Func}{vs:List Value}{w:World}{R:Value->World->Prop}{V:Prop}(hf:prog.funcs[f]?=some fn)(h:V)(a:En prog fn=true:=by kernel_rfl)(b:Nat.ble (xj vs) fn.ntmps=true:=by kernel_rfl)(e:Eo prog mK [] [] fn vs w R=V:=by kernel_rfl):zJ prog f vs w R:=VJ [] [] hf h a b e
abbrev IW:=List Value->World->Prop
abbrev IM:=List Value->World->Nat
