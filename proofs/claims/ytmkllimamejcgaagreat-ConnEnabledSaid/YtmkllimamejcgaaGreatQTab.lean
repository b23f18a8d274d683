/- Part of the proof. -/
import Derived.Test.YtmkllimamejcgaaGreatQEng10
import Derived.Test.YtmkllimamejcgaaGreatProg
import Derived.Test.YtmkllimamejcgaaGreatChecked
namespace Go.Proofs.YtmkllimamejcgaaGreat
set_option linter.all false
set_option maxRecDepth 100000
open Go.RowKit
def r_:List Bool:=[false,false,true,true,true,true,true,true,true,true,true,true,true,true,true,true,true,true,true,true,true,true,true,true,true,true,true,true,true,true,true,true,true,true,true,true,true,true,true,true,true,true,true,true,true,true,true,true,true,true,true,true,true,true,true,true,true,true,true,true,true,true,true,true,true,true,true,true,true,true,true,true,true,true,true,true,true,true,true,true,true,true,true,true,true,true,true,true,true,true,true,true,true,true,true,true,true,true,true,true,true,true,true,true,true,true,true,true,true,true,true,true,true,true,true,true,true,true,true,true,true,true,true,true,true,true,true,true,true,true,true,true,true,true,true,true,true,true,true,true,true,true,true,true,true,true,true,true,true,true,true,true,true,true,true,true,true,true,true,true,true,true,true,true,true,true,true,true,true,true,true,true,true,true,true,true,true,true,true,true,true,true,true,true,true,true,true,true,true,true,true,true,true,true,true,true,true,true,true,true,true,true,true,true,true,true,true,true,true,true,true,true,true,true,true,true,true,true,true,true,true,true,true,true,true,true,true,true,true,true,true,true,true,true,true,true,true,true,true,true,true,true,true,true,true,true,true,true,true,true,true,true,true,true,true,true,true,true,true,true,true,true,true,true,true,true,true,true,true,true,true,true,true,true,true,true,true,true,true,true,true,true,true,true,true,true,true,true,true,true,true,true,true,true,true,true,true,true,true,true,true,true,true,true,true,true,true,true,true,true,true,true,true,true,true,true,true,true,true,true,true,true,true,true,true,true,true,true,true,true,true,true,true,true,true,true,true,true,true,true,true,true,true,true,true,true,true,true,true,true,true,true,true,true,true,true,true,true,true,true,true,true,false,true,true,true,false,true,true,true,true,true,true,true,true,true,true,true,true,true,true,true,true,true,true,true,true,true,true,true,false,true,true,true,true,true,true,true,true,true,true,false,false,false,false,false,false,false,false,false,false,false,false,false,false,false,false,false]
theorem aWj:Calls.uu Tryz.prog r_:=bw0 _ _ (by kernel_rfl)
theorem e_l:Tryz.prog.follows .mixedOrders=true:=by kernel_rfl
theorem VJ(JL JC:Marks){f:FuncId}{fn:Func}{vs:List Value}{w:World}{R:Value->World->Prop}{V:Prop}(hf:Tryz.prog.funcs[f]?=some fn)(h:V)(a:Hp Tryz.prog fn=true:=by kernel_rfl)(b:Nat.ble (CK vs) fn.ntmps=true:=by kernel_rfl)(e:Hq Tryz.prog r_ JL JC fn vs w R=V:=by kernel_rfl):zQ Tryz.prog f vs w R:=cI1 aWj e_l hf a b (e.mpr h)
abbrev aF:=zQ Tryz.prog
abbrev bW(n:Nat)(p:Value)(w:World)(K:Value->Prop):Prop:=Y6 p λa=>zn n a λb=>cI b w K
abbrev ia(n:Nat)(p v:Value)(w:World)(K:World->Prop):Prop:=Y6 p λa=>zn n a λb=>jN b v w K
abbrev b_(n:Nat)(p:Value)(K:Value->Prop):Prop:=Y6 p λa=>zn n a K
abbrev a_(n:Nat)(p:Value)(w:World)(K:Value->Prop):Prop:=zn n p λb=>cI b w K
abbrev aI(o:BinOp)(a b:Value)(A B:Prop):Prop:=zc o a b λv=>iy v A B
abbrev ai:=Value.int .i64
abbrev gi(a:Value)(A B:Prop):Prop:=Zf a λv=>iy v A B
abbrev cW(R:Value->World->Prop)(w:World):Prop:=R (.bool false) w
abbrev bI:Value:=.slice none 0 0
abbrev aR(p:Value)(w:World)(u:Value)(A:Prop):Prop:=cI p w λv=>v=u/\A
abbrev iU:List Value:=[ai 0,ai 0,ai 0,ai 0,ai 0,ai 0,ai 0,ai 0,ai 0,ai 0]
abbrev h_:Value:=.pointer none
abbrev gI:Value:=.string ⟨#[]⟩
theorem c_{f:FuncId}{fn:Func}{vs:List Value}{w:World}{R:Value->World->Prop}{V:Prop}(hf:Tryz.prog.funcs[f]?=some fn)(h:V)(a:Hp Tryz.prog fn=true:=by kernel_rfl)(b:Nat.ble (CK vs) fn.ntmps=true:=by kernel_rfl)(e:Hq Tryz.prog r_ [] [] fn vs w R=V:=by kernel_rfl):zQ Tryz.prog f vs w R:=VJ [] [] hf h a b e
abbrev IW:=List Value->World->Prop
abbrev IM:=List Value->World->Nat
