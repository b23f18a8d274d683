/- Part of the proof (my own). -/
import Derived.Test.YtnmhmnnadkclbaaGreatQTab
namespace Go.Proofs.YtnmhmnnadkclbaaGreat
set_option linter.unusedVariables false
set_option maxRecDepth 100000
open Go.RowKit
def Vc12(w:World)(R:Value→World→Prop):Prop:=
 zt [.map none,.bool false,.int .i64 0,.int .i64 0] [(0,1,(.map (some w.heap.size)))] λv2=>
 ∃cs:List Value,v2= .agg cs.toArray∧zn cs 144 (w.alloc (.map #[] 0)) λv3 w_1=>
 R v3 w_1
theorem vc12(w:World)(R:Value→World→Prop)(h:Vc12 w R):za Tryz.prog 12 [] w R:=
 VV Tryz.func12 (by kernel_rfl) (by kernel_rfl) (by kernel_rfl) h
def Vc21(v0 v1 v2:Value)(w:World)(R:Value→World→Prop):Prop:=
 za Tryz.prog 87 [v0,v1] w λv11 w_1=>
 zd .neq v11 (.int .i64 0) λv13=>
 HIf v13
 (R v11 w_1)
 (zg v0 λv16=>
 zc 0 v16 λv17=>
 HLd v17 w_1 λv18=>
 HRq Tryz.prog (Instr.lookup 142 v18 v1 false) w_1 λv20=>
 HEq (.pointer 178) false v20 (.pointer none) λv22=>
 HIf v22
 (zt [.slice none 0 0,.int .i64 0] [] λv23=>
 ∃cs:List Value,v23= .agg cs.toArray∧zn cs 178 w_1 λv24 w_2=>
 zg v0 λv26=>
 zc 0 v26 λv27=>
 HLd v27 w_2 λv28=>
 yz Tryz.prog (do Instr.mapUpdate 142 v28 v1 v24;pure undef) w_2 λu w_3=>
 zg v24 λv33=>
 zc 0 v33 λv34=>
 HLd v34 w_3 λv35=>
 zr 1 1 [.int .u8 0] 5 v35 v2 w_3 λv37 w_4=>
 zg v24 λv38=>
 zc 0 v38 λv39=>
 HSt v39 v37 w_4 λw_5=>
 za Tryz.prog 88 [v0] w_5 λv41 w_6=>
 R v41 w_6)
 (zg v20 λv33_1=>
 zc 0 v33_1 λv34_1=>
 HLd v34_1 w_1 λv35_1=>
 zr 1 1 [.int .u8 0] 5 v35_1 v2 w_1 λv37_1 w_7=>
 zg v20 λv38_1=>
 zc 0 v38_1 λv39_1=>
 HSt v39_1 v37_1 w_7 λw_8=>
 za Tryz.prog 88 [v0] w_8 λv41_1 w_9=>
 R v41_1 w_9))
theorem vc21(v0 v1 v2:Value)(w:World)(R:Value→World→Prop)(h:Vc21 v0 v1 v2 w R):za Tryz.prog 21 [v0,v1,v2] w R:=
 VV Tryz.func21 (by kernel_rfl) (by kernel_rfl) (by kernel_rfl) h
def Vc22(v0 v1:Value)(w:World)(R:Value→World→Prop):Prop:=
 za Tryz.prog 89 [v0,v1] w λv10 w_1=>
 zm 0 v10 λv11=>
 zm 1 v10 λv12=>
 zd .eql v12 (.int .i64 0) λv14=>
 HIf v14
 (za Tryz.prog 88 [v0] w_1 λv16 w_2=>
 zd .eql v16 (.int .i64 0) λv18=>
 HIf v18
 (zg v11 λv21=>
 zc 0 v21 λv22=>
 HLd v22 w_2 λv23=>
 zh v23 λv24=>
 zg v11 λv25=>
 zc 1 v25 λv26=>
 HSt v26 v24 w_2 λw_3=>
 R v16 w_3)
 (R v16 w_2))
 (zd .eql v12 (.int .i64 0) λv18_1=>
 HIf v18_1
 (zg v11 λv21_1=>
 zc 0 v21_1 λv22_1=>
 HLd v22_1 w_1 λv23_1=>
 zh v23_1 λv24_1=>
 zg v11 λv25_1=>
 zc 1 v25_1 λv26_1=>
 HSt v26_1 v24_1 w_1 λw_4=>
 R v12 w_4)
 (R v12 w_1))
theorem vc22(v0 v1:Value)(w:World)(R:Value→World→Prop)(h:Vc22 v0 v1 w R):za Tryz.prog 22 [v0,v1] w R:=
 VV Tryz.func22 (by kernel_rfl) (by kernel_rfl) (by kernel_rfl) h
def Vc28(v0 v1:Value)(w:World)(R:Value→World→Prop):Prop:=
 qq v1 (.int .i64 0) λv6=>
 zg v0 λv7=>
 zc 2 v7 λv8=>
 HSt v8 v6 w λw_1=>
 R (.tuple #[]) w_1
theorem vc28(v0 v1:Value)(w:World)(R:Value→World→Prop)(h:Vc28 v0 v1 w R):za Tryz.prog 28 [v0,v1] w R:=
 VV Tryz.func28 (by kernel_rfl) (by kernel_rfl) (by kernel_rfl) h
def Vc31(v0 v1:Value)(w:World)(R:Value→World→Prop):Prop:=
 za Tryz.prog 108 [v0] w λv9 w_1=>
 zh v9 λv10=>
 ∃(I:List Value→World→Prop) (μ:List Value→World→Nat),I [(.int .i64 0)] w_1 ∧
 ∀(v11:Value) w_2,I [v11] w_2 →
 zd .lss v11 v10 λv12=>
 HIf v12
 (zk 1 v9 v11 λv14=>
 HLd v14 w_2 λv15=>
 zg v0 λv17=>
 zc 0 v17 λv18=>
 HLd v18 w_2 λv19=>
 HRq Tryz.prog (Instr.lookup 142 v19 v15 false) w_2 λv21=>
 ∃I_1:List Value→World→Prop,(zh v1 λv24=>
 zd .lss v11 v24 λv25=>
 HIf v25
 (zk 1 v1 v11 λv29=>
 HLd v29 w_2 λv30=>
 zd .gtr v30 (.int .i64 0) λv31=>
 HIf v31
 (zl w_2 λw_3=>
 zk 1 v1 v11 λv35=>
 HLd v35 w_3 λv36=>
 zg v21 λv38=>
 zc 0 v38 λv39=>
 HLd v39 w_3 λv40=>
 zh v40 λv41=>
 zg v21 λv43=>
 zc 1 v43 λv44=>
 HLd v44 w_3 λv45=>
 zd .sub v41 v45 λv46=>
 zd .add v46 (.int .i64 1) λv47=>
 zd .rem v36 v47 λv48=>
 I_1 [v48] w_3)
 (I_1 [(.int .i64 0)] w_2))
 (I_1 [(.int .i64 0)] w_2)) ∧
 ∀(v7:Value) w_4,I_1 [v7] w_4 →
 zg v21 λv51=>
 zc 1 v51 λv52=>
 HLd v52 w_4 λv53=>
 zd .add v53 v7 λv55=>
 za Tryz.prog 109 [v21,v55] w_4 λv56 w_5=>
 zg v21 λv59=>
 zc 0 v59 λv60=>
 HLd v60 w_5 λv61=>
 zh v61 λv62=>
 zg v21 λv63=>
 zc 1 v63 λv64=>
 HSt v64 v62 w_5 λw_6=>
 zd .add v11 (.int .i64 1) λv65=>
 I [v65] w_6∧μ [v65] w_6<μ [v11] w_2)
 (zg v0 λv68=>
 zc 1 v68 λv69=>
 HSt v69 (.bool false) w_2 λw_7=>
 zg v0 λv70=>
 zc 2 v70 λv71=>
 HSt v71 (.int .i64 0) w_7 λw_8=>
 R (.tuple #[]) w_8)
theorem vc31(v0 v1:Value)(w:World)(R:Value→World→Prop)(h:Vc31 v0 v1 w R):za Tryz.prog 31 [v0,v1] w R:=
 VJ [(1,[11],[0,1,9,10])] [(7,[7],[0,1,6,9,10,11])] Tryz.func31 (by kernel_rfl) (by kernel_rfl) (by kernel_rfl) h
def Vc87(v0 v1:Value)(w:World)(R:Value→World→Prop):Prop:=
 zg v0 λv7=>
 zc 1 v7 λv8=>
 HLd v8 w λv9=>
 HIf v9
 (R (.int .i64 8) w)
 (zd .lss v1 (.int .i64 0) λv12=>
 HIf v12
 (R (.int .i64 1) w)
 (zd .geq v1 (.int .i64 16384) λv15=>
 HIf v15
 (R (.int .i64 1) w)
 (R (.int .i64 0) w)))
theorem vc87(v0 v1:Value)(w:World)(R:Value→World→Prop)(h:Vc87 v0 v1 w R):za Tryz.prog 87 [v0,v1] w R:=
 VV Tryz.func87 (by kernel_rfl) (by kernel_rfl) (by kernel_rfl) h
def Vc88(v0:Value)(w:World)(R:Value→World→Prop):Prop:=
 zg v0 λv4=>
 zc 3 v4 λv5=>
 HLd v5 w λv6=>
 zd .add v6 (.int .i64 1) λv7=>
 zg v0 λv8=>
 zc 3 v8 λv9=>
 HSt v9 v7 w λw_1=>
 zg v0 λv11=>
 zc 2 v11 λv12=>
 HLd v12 w_1 λv13=>
 zd .gtr v13 (.int .i64 0) λv14=>
 HIf v14
 (zg v0 λv16=>
 zc 2 v16 λv17=>
 HLd v17 w_1 λv18=>
 zd .sub v18 (.int .i64 1) λv19=>
 zg v0 λv20=>
 zc 2 v20 λv21=>
 HSt v21 v19 w_1 λw_2=>
 zg v0 λv24=>
 zc 2 v24 λv25=>
 HLd v25 w_2 λv26=>
 zd .eql v26 (.int .i64 0) λv27=>
 zg v0 λv28=>
 zc 1 v28 λv29=>
 HSt v29 v27 w_2 λw_3=>
 zg v0 λv31=>
 zc 1 v31 λv32=>
 HLd v32 w_3 λv33=>
 HIf v33
 (R (.int .i64 8) w_3)
 (R (.int .i64 0) w_3))
 (zg v0 λv31_1=>
 zc 1 v31_1 λv32_1=>
 HLd v32_1 w_1 λv33_1=>
 HIf v33_1
 (R (.int .i64 8) w_1)
 (R (.int .i64 0) w_1))
theorem vc88(v0:Value)(w:World)(R:Value→World→Prop)(h:Vc88 v0 w R):za Tryz.prog 88 [v0] w R:=
 VV Tryz.func88 (by kernel_rfl) (by kernel_rfl) (by kernel_rfl) h
def Vc89(v0 v1:Value)(w:World)(R:Value→World→Prop):Prop:=
 za Tryz.prog 87 [v0,v1] w λv10 w_1=>
 zd .neq v10 (.int .i64 0) λv12=>
 HIf v12
 (R (.tuple #[(.pointer none),v10]) w_1)
 (zg v0 λv15=>
 zc 0 v15 λv16=>
 HLd v16 w_1 λv17=>
 HRq Tryz.prog (Instr.lookup 142 v17 v1 false) w_1 λv19=>
 HEq (.pointer 178) false v19 (.pointer none) λv21=>
 HIf v21
 (R (.tuple #[(.pointer none),(.int .i64 5)]) w_1)
 (R (.tuple #[v19,(.int .i64 0)]) w_1))
theorem vc89(v0 v1:Value)(w:World)(R:Value→World→Prop)(h:Vc89 v0 v1 w R):za Tryz.prog 89 [v0,v1] w R:=
 VV Tryz.func89 (by kernel_rfl) (by kernel_rfl) (by kernel_rfl) h
def Vc102(v0:Value)(w:World)(R:Value→World→Prop):Prop:=
 zg v0 λv4=>
 zc 1 v4 λv5=>
 HLd v5 w λv6=>
 R v6 w
theorem vc102(v0:Value)(w:World)(R:Value→World→Prop)(h:Vc102 v0 w R):za Tryz.prog 102 [v0] w R:=
 VV Tryz.func102 (by kernel_rfl) (by kernel_rfl) (by kernel_rfl) h
def Vc108(v0:Value)(w:World)(R:Value→World→Prop):Prop:=
 zg v0 λv4=>
 zc 0 v4 λv5=>
 HLd v5 w λv6=>
 za Tryz.prog 188 [v6] w λv7 w_1=>
 za Tryz.prog 187 [v7] w_1 λv8 w_2=>
 R v8 w_2
theorem vc108(v0:Value)(w:World)(R:Value→World→Prop)(h:Vc108 v0 w R):za Tryz.prog 108 [v0] w R:=
 VV Tryz.func108 (by kernel_rfl) (by kernel_rfl) (by kernel_rfl) h
def Vc109(v0 v1:Value)(w:World)(R:Value→World→Prop):Prop:=
 zg v0 λv6=>
 zc 0 v6 λv7=>
 HLd v7 w λv8=>
 HSl 1 v8 none (some v1) none λv10=>
 za Tryz.prog 185 [v10] w λv11 w_1=>
 zg v0 λv12=>
 zc 0 v12 λv13=>
 HSt v13 v11 w_1 λw_2=>
 zg v0 λv16=>
 zc 1 v16 λv17=>
 HLd v17 w_2 λv18=>
 Y3 v18 v1 λv20=>
 zg v0 λv21=>
 zc 1 v21 λv22=>
 HSt v22 v20 w_2 λw_3=>
 R (.tuple #[]) w_3
theorem vc109(v0 v1:Value)(w:World)(R:Value→World→Prop)(h:Vc109 v0 v1 w R):za Tryz.prog 109 [v0,v1] w R:=
 VV Tryz.func109 (by kernel_rfl) (by kernel_rfl) (by kernel_rfl) h
def Vc125(v0:Value)(w:World)(R:Value→World→Prop):Prop:=
 zg v0 λv4=>
 zc 3 v4 λv5=>
 HLd v5 w λv6=>
 R v6 w
theorem vc125(v0:Value)(w:World)(R:Value→World→Prop)(h:Vc125 v0 w R):za Tryz.prog 125 [v0] w R:=
 VV Tryz.func125 (by kernel_rfl) (by kernel_rfl) (by kernel_rfl) h
def Vc126(v0 v1:Value)(w:World)(R:Value→World→Prop):Prop:=
 zg v0 λv8=>
 zc 0 v8 λv9=>
 HLd v9 w λv10=>
 HRq Tryz.prog (Instr.lookup 142 v10 v1 false) w λv12=>
 HEq (.pointer 178) false v12 (.pointer none) λv14=>
 HIf v14
 (R (.tuple #[(.slice none 0 0),(.bool false)]) w)
 (zg v12 λv16=>
 zc 0 v16 λv17=>
 HLd v17 w λv18=>
 za Tryz.prog 185 [v18] w λv19 w_1=>
 R (.tuple #[v19,(.bool true)]) w_1)
theorem vc126(v0 v1:Value)(w:World)(R:Value→World→Prop)(h:Vc126 v0 v1 w R):za Tryz.prog 126 [v0,v1] w R:=
 VV Tryz.func126 (by kernel_rfl) (by kernel_rfl) (by kernel_rfl) h
def Vc128(v0 v1:Value)(w:World)(R:Value→World→Prop):Prop:=
 zg v0 λv7=>
 zc 0 v7 λv8=>
 HLd v8 w λv9=>
 HRq Tryz.prog (Instr.lookup 142 v9 v1 false) w λv11=>
 HEq (.pointer 178) true v11 (.pointer none) λv13=>
 HIf v13
 (zg v11 λv15=>
 zc 1 v15 λv16=>
 HLd v16 w λv17=>
 R v17 w)
 (R (.int .i64 (-1)) w)
theorem vc128(v0 v1:Value)(w:World)(R:Value→World→Prop)(h:Vc128 v0 v1 w R):za Tryz.prog 128 [v0,v1] w R:=
 VV Tryz.func128 (by kernel_rfl) (by kernel_rfl) (by kernel_rfl) h
def Vc212(v0 v1:Value)(w:World)(R:Value→World→Prop):Prop:=
 za Tryz.prog 89 [v0,v1] w λv10 w_1=>
 zm 0 v10 λv11=>
 zm 1 v10 λv12=>
 zd .eql v12 (.int .i64 0) λv14=>
 HIf v14
 (za Tryz.prog 88 [v0] w_1 λv16 w_2=>
 zd .eql v16 (.int .i64 0) λv18=>
 HIf v18
 (zg v0 λv20=>
 zc 0 v20 λv21=>
 HLd v21 w_2 λv22=>
 yz Tryz.prog (Builtin.delete_ #[142,3] 0 [v22,v1].toArray) w_2 λu w_3=>
 R v16 w_3)
 (R v16 w_2))
 (zd .eql v12 (.int .i64 0) λv18_1=>
 HIf v18_1
 (zg v0 λv20_1=>
 zc 0 v20_1 λv21_1=>
 HLd v21_1 w_1 λv22_1=>
 yz Tryz.prog (Builtin.delete_ #[142,3] 0 [v22_1,v1].toArray) w_1 λu_1 w_4=>
 R v12 w_4)
 (R v12 w_1))
theorem vc212(v0 v1:Value)(w:World)(R:Value→World→Prop)(h:Vc212 v0 v1 w R):za Tryz.prog 212 [v0,v1] w R:=
 VV Tryz.func212 (by kernel_rfl) (by kernel_rfl) (by kernel_rfl) h
def Vc213(v0 v1:Value)(w:World)(R:Value→World→Prop):Prop:=
 zg v0 λv7=>
 zc 0 v7 λv8=>
 HLd v8 w λv9=>
 HRq Tryz.prog (Instr.lookup 142 v9 v1 false) w λv11=>
 HEq (.pointer 178) true v11 (.pointer none) λv13=>
 HIf v13
 (zg v11 λv15=>
 zc 0 v15 λv16=>
 HLd v16 w λv17=>
 zh v17 λv18=>
 R v18 w)
 (R (.int .i64 (-1)) w)
theorem vc213(v0 v1:Value)(w:World)(R:Value→World→Prop)(h:Vc213 v0 v1 w R):za Tryz.prog 213 [v0,v1] w R:=
 VV Tryz.func213 (by kernel_rfl) (by kernel_rfl) (by kernel_rfl) h
def Vc214(v0 v1 v2:Value)(w:World)(R:Value→World→Prop):Prop:=
 za Tryz.prog 89 [v0,v1] w λv12 w_1=>
 zm 0 v12 λv13=>
 zm 1 v12 λv14=>
 ∃I:List Value→World→Prop,(zd .eql v14 (.int .i64 0) λv16=>
 HIf v16
 (zd .lss v2 (.int .i64 0) λv19=>
 HIf v19
 (I [(.int .i64 1)] w_1)
 (zg v13 λv23=>
 zc 0 v23 λv24=>
 HLd v24 w_1 λv25=>
 zh v25 λv26=>
 zd .gtr v2 v26 λv27=>
 HIf v27
 (I [(.int .i64 1)] w_1)
 (I [v14] w_1)))
 (I [v14] w_1)) ∧
 ∀(v8:Value) w_2,I [v8] w_2 →
 zd .eql v8 (.int .i64 0) λv31=>
 HIf v31
 (za Tryz.prog 88 [v0] w_2 λv33 w_3=>
 zd .eql v33 (.int .i64 0) λv35=>
 HIf v35
 (za Tryz.prog 109 [v13,v2] w_3 λv38 w_4=>
 R v33 w_4)
 (R v33 w_3))
 (zd .eql v8 (.int .i64 0) λv35_1=>
 HIf v35_1
 (za Tryz.prog 109 [v13,v2] w_2 λv38_1 w_5=>
 R v8 w_5)
 (R v8 w_2))
theorem vc214(v0 v1 v2:Value)(w:World)(R:Value→World→Prop)(h:Vc214 v0 v1 v2 w R):za Tryz.prog 214 [v0,v1,v2] w R:=
 VJ [] [(4,[8],[0,2,7])] Tryz.func214 (by kernel_rfl) (by kernel_rfl) (by kernel_rfl) h
def Vc45(v0 v1:Value)(w:World)(R:Value→World→Prop):Prop:=
 qq v1 (.int .i64 0) λv6=>
 zg v0 λv7=>
 zc 1 v7 λv8=>
 HSt v8 v6 w λw_1=>
 R (.tuple #[]) w_1
theorem vc45(v0 v1:Value)(w:World)(R:Value→World→Prop)(h:Vc45 v0 v1 w R):za Tryz.prog 45 [v0,v1] w R:=
 VV Tryz.func45 (by kernel_rfl) (by kernel_rfl) (by kernel_rfl) h
def Vc47(v0 v1:Value)(w:World)(R:Value→World→Prop):Prop:=
 ∃(I:List Value→World→Prop) (μ:List Value→World→Nat),I [(.int .i64 0)] w ∧
 ∀(v4:Value) w_1,I [v4] w_1 →
 zg v0 λv9=>
 zc 0 v9 λv10=>
 HLd v10 w_1 λv11=>
 zh v11 λv12=>
 zd .lss v4 v12 λv13=>
 HIf v13
 (zl w_1 λw_2=>
 zg v0 λv17=>
 zc 0 v17 λv18=>
 HLd v18 w_2 λv19=>
 zk 3 v19 v4 λv21=>
 zc 2 v21 λv22=>
 HLd v22 w_2 λv23=>
 zh v23 λv24=>
 zg v0 λv26=>
 zc 0 v26 λv27=>
 HLd v27 w_2 λv28=>
 zk 3 v28 v4 λv30=>
 zc 1 v30 λv31=>
 HLd v31 w_2 λv32=>
 zd .sub v24 v32 λv33=>
 ∃I_1:List Value→World→Prop,(zh v1 λv36=>
 zd .lss v4 v36 λv37=>
 HIf v37
 (zk 1 v1 v4 λv41=>
 HLd v41 w_2 λv42=>
 zd .gtr v42 (.int .i64 0) λv43=>
 HIf v43
 (zk 1 v1 v4 λv47=>
 HLd v47 w_2 λv48=>
 zd .add v33 (.int .i64 1) λv50=>
 zd .rem v48 v50 λv51=>
 I_1 [v51] w_2)
 (I_1 [(.int .i64 0)] w_2))
 (I_1 [(.int .i64 0)] w_2)) ∧
 ∀(v6:Value) w_3,I_1 [v6] w_3 →
 zl w_3 λw_4=>
 zg v0 λv53=>
 zc 0 v53 λv54=>
 HLd v54 w_4 λv55=>
 zg v0 λv59=>
 zc 0 v59 λv60=>
 HLd v60 w_4 λv61=>
 zk 3 v61 v4 λv63=>
 zc 2 v63 λv64=>
 HLd v64 w_4 λv65=>
 zg v0 λv67=>
 zc 0 v67 λv68=>
 HLd v68 w_4 λv69=>
 zk 3 v69 v4 λv71=>
 zc 1 v71 λv72=>
 HLd v72 w_4 λv73=>
 zd .add v73 v6 λv75=>
 HSl 1 v65 none (some v75) none λv76=>
 zo (zrow [.int .u8 0] 0) [] 5 0 w_4 λv57 w_5=>
 HLd v54 w_5 λv55_1=>
 v55_1=v55 ∧
 HLd v60 w_5 λv61_1=>
 v61_1=v61 ∧
 HLd v64 w_5 λv65_1=>
 v65_1=v65 ∧
 HLd v68 w_5 λv69_1=>
 v69_1=v69 ∧
 HLd v72 w_5 λv73_1=>
 v73_1=v73 ∧
 zr 1 1 [.int .u8 0] 5 v57 v76 w_5 λv77 w_6=>
 HLd v54 w_6 λv55_2=>
 v55_2=v55 ∧
 zk 3 v55 v4 λv78=>
 zc 2 v78 λv79=>
 HSt v79 v77 w_6 λw_7=>
 zl w_7 λw_8=>
 zg v0 λv81=>
 zc 0 v81 λv82=>
 HLd v82 w_8 λv83=>
 zg v0 λv86=>
 zc 0 v86 λv87=>
 HLd v87 w_8 λv88=>
 zk 3 v88 v4 λv90=>
 zc 2 v90 λv91=>
 HLd v91 w_8 λv92=>
 zh v92 λv93=>
 zk 3 v83 v4 λv94=>
 zc 1 v94 λv95=>
 HSt v95 v93 w_8 λw_9=>
 zd .add v4 (.int .i64 1) λv15=>
 I [v15] w_9∧μ [v15] w_9<μ [v4] w_1)
 (zg v0 λv97=>
 zc 2 v97 λv98=>
 HSt v98 (.bool false) w_1 λw_10=>
 zg v0 λv100=>
 zc 1 v100 λv101=>
 HSt v101 (.int .i64 0) w_10 λw_11=>
 R (.tuple #[]) w_11)
theorem vc47(v0 v1:Value)(w:World)(R:Value→World→Prop)(h:Vc47 v0 v1 w R):za Tryz.prog 47 [v0,v1] w R:=
 VJ [(1,[4],[0,1])] [(7,[6],[0,1,4])] Tryz.func47 (by kernel_rfl) (by kernel_rfl) (by kernel_rfl) h
def Vc72(v0 v1:Value)(w:World)(R:Value→World→Prop):Prop:=
 za Tryz.prog 156 [v0,v1,(.bool true)] w λv11 w_1=>
 zd .neq v11 (.int .i64 0) λv13=>
 HIf v13
 (R v11 w_1)
 (za Tryz.prog 157 [v0] w_1 λv16 w_2=>
 zw v16 λv18=>
 HIf v18
 (za Tryz.prog 158 [v0,v1] w_2 λv22 w_3=>
 zm 0 v22 λv23=>
 zm 1 v22 λv24=>
 zl w_3 λw_4=>
 zg v0 λv28=>
 zc 0 v28 λv29=>
 HLd v29 w_4 λv30=>
 HSl 3 v30 none (some v23) none λv32=>
 zg v0 λv35=>
 zc 0 v35 λv36=>
 HLd v36 w_4 λv37=>
 zd .add v23 (.int .i64 1) λv39=>
 HSl 3 v37 (some v39) none none λv40=>
 zo (zrow [.int .i64 0,.int .i64 0,.slice none 0 0] 0) [] 61 0 w_4 λv26 w_5=>
 HLd v29 w_5 λv30_1=>
 v30_1=v30 ∧
 HLd v36 w_5 λv37_1=>
 v37_1=v37 ∧
 zr 3 40 [.int .i64 0,.int .i64 0,.slice none 0 0] 61 v26 v32 w_5 λv33 w_6=>
 HLd v36 w_6 λv37_2=>
 v37_2=v37 ∧
 zr 3 40 [.int .i64 0,.int .i64 0,.slice none 0 0] 61 v33 v40 w_6 λv41 w_7=>
 zg v0 λv42=>
 zc 0 v42 λv43=>
 HSt v43 v41 w_7 λw_8=>
 za Tryz.prog 159 [v16] w_8 λv45 w_9=>
 R v45 w_9)
 (za Tryz.prog 159 [v16] w_2 λv45_1 w_10=>
 R v45_1 w_10))
theorem vc72(v0 v1:Value)(w:World)(R:Value→World→Prop)(h:Vc72 v0 v1 w R):za Tryz.prog 72 [v0,v1] w R:=
 VV Tryz.func72 (by kernel_rfl) (by kernel_rfl) (by kernel_rfl) h
def Vc74(v0 v1 v2:Value)(w:World)(R:Value→World→Prop):Prop:=
 za Tryz.prog 156 [v0,v1,(.bool true)] w λv13 w_1=>
 zd .neq v13 (.int .i64 0) λv15=>
 HIf v15
 (R v13 w_1)
 (za Tryz.prog 158 [v0,v1] w_1 λv20 w_2=>
 zm 0 v20 λv21=>
 zm 1 v20 λv22=>
 zd .lss v2 (.int .i64 0) λv24=>
 HIf v24
 (R (.int .i64 1) w_2)
 (zg v0 λv28=>
 zc 0 v28 λv29=>
 HLd v29 w_2 λv30=>
 zk 3 v30 v21 λv32=>
 zc 2 v32 λv33=>
 HLd v33 w_2 λv34=>
 zh v34 λv35=>
 zd .gtr v2 v35 λv36=>
 HIf v36
 (R (.int .i64 1) w_2)
 (za Tryz.prog 157 [v0] w_2 λv39 w_3=>
 zw v39 λv41=>
 HIf v41
 (zl w_3 λw_4=>
 zg v0 λv43=>
 zc 0 v43 λv44=>
 HLd v44 w_4 λv45=>
 zg v0 λv49=>
 zc 0 v49 λv50=>
 HLd v50 w_4 λv51=>
 zk 3 v51 v21 λv53=>
 zc 2 v53 λv54=>
 HLd v54 w_4 λv55=>
 HSl 1 v55 none (some v2) none λv57=>
 zo (zrow [.int .u8 0] 0) [] 5 0 w_4 λv47 w_5=>
 HLd v44 w_5 λv45_1=>
 v45_1=v45 ∧
 HLd v50 w_5 λv51_1=>
 v51_1=v51 ∧
 HLd v54 w_5 λv55_1=>
 v55_1=v55 ∧
 zr 1 1 [.int .u8 0] 5 v47 v57 w_5 λv58 w_6=>
 HLd v44 w_6 λv45_2=>
 v45_2=v45 ∧
 zk 3 v45 v21 λv59=>
 zc 2 v59 λv60=>
 HSt v60 v58 w_6 λw_7=>
 zl w_7 λw_8=>
 zg v0 λv62=>
 zc 0 v62 λv63=>
 HLd v63 w_8 λv64=>
 zg v0 λv67=>
 zc 0 v67 λv68=>
 HLd v68 w_8 λv69=>
 zk 3 v69 v21 λv71=>
 zc 1 v71 λv72=>
 HLd v72 w_8 λv73=>
 Y3 v73 v2 λv75=>
 zk 3 v64 v21 λv76=>
 zc 1 v76 λv77=>
 HSt v77 v75 w_8 λw_9=>
 za Tryz.prog 159 [v39] w_9 λv79 w_10=>
 R v79 w_10)
 (za Tryz.prog 159 [v39] w_3 λv79_1 w_11=>
 R v79_1 w_11))))
theorem vc74(v0 v1 v2:Value)(w:World)(R:Value→World→Prop)(h:Vc74 v0 v1 v2 w R):za Tryz.prog 74 [v0,v1,v2] w R:=
 VV Tryz.func74 (by kernel_rfl) (by kernel_rfl) (by kernel_rfl) h
def Vc84(v0 v1 v2:Value)(w:World)(R:Value→World→Prop):Prop:=
 za Tryz.prog 156 [v0,v1,(.bool false)] w λv14 w_1=>
 zd .neq v14 (.int .i64 0) λv16=>
 HIf v16
 (R v14 w_1)
 (za Tryz.prog 157 [v0] w_1 λv19 w_2=>
 za Tryz.prog 158 [v0,v1] w_2 λv23 w_3=>
 zm 0 v23 λv24=>
 zm 1 v23 λv25=>
 ∃I:List Value→World→Prop,(zw v25 λv27=>
 HIf v27
 (zo (zrow [.int .i64 0,.int .i64 0,.slice none 0 0] 0) [] 61 0 w_3 λv28 w_4=>
 zg v0 λv30=>
 zc 0 v30 λv31=>
 HLd v31 w_4 λv32=>
 HSl 3 v32 none (some v24) none λv34=>
 zr 3 40 [.int .i64 0,.int .i64 0,.slice none 0 0] 61 v28 v34 w_4 λv35 w_5=>
 zt [.int .i64 0,.int .i64 0,.slice none 0 0] [(0,1,v1)] λv38=>
 zo (zrow [.int .i64 0,.int .i64 0,.slice none 0 0] 1) [(0,3,v38)] 61 1 w_5 λv39 w_6=>
 zr 3 40 [.int .i64 0,.int .i64 0,.slice none 0 0] 61 v35 v39 w_6 λv40 w_7=>
 zg v0 λv44=>
 zc 0 v44 λv45=>
 HLd v45 w_7 λv46=>
 HSl 3 v46 (some v24) none none λv48=>
 zr 3 40 [.int .i64 0,.int .i64 0,.slice none 0 0] 61 v40 v48 w_7 λv49 w_8=>
 zg v0 λv50=>
 zc 0 v50 λv51=>
 HSt v51 v49 w_8 λw_9=>
 I [] w_9)
 (I [] w_3)) ∧
 ∀w_10,I [] w_10 →
 zl w_10 λw_11=>
 zg v0 λv53=>
 zc 0 v53 λv54=>
 HLd v54 w_11 λv55=>
 zg v0 λv59=>
 zc 0 v59 λv60=>
 HLd v60 w_11 λv61=>
 zk 3 v61 v24 λv63=>
 zc 2 v63 λv64=>
 HLd v64 w_11 λv65=>
 zo (zrow [.int .u8 0] 0) [] 5 0 w_11 λv57 w_12=>
 HLd v54 w_12 λv55_1=>
 v55_1=v55 ∧
 HLd v60 w_12 λv61_1=>
 v61_1=v61 ∧
 HLd v64 w_12 λv65_1=>
 v65_1=v65 ∧
 zr 1 1 [.int .u8 0] 5 v57 v65 w_12 λv66 w_13=>
 HLd v54 w_13 λv55_2=>
 v55_2=v55 ∧
 zr 1 1 [.int .u8 0] 5 v66 v2 w_13 λv68 w_14=>
 HLd v54 w_14 λv55_3=>
 v55_3=v55 ∧
 zk 3 v55 v24 λv69=>
 zc 2 v69 λv70=>
 HSt v70 v68 w_14 λw_15=>
 za Tryz.prog 159 [v19] w_15 λv72 w_16=>
 R v72 w_16)
theorem vc84(v0 v1 v2:Value)(w:World)(R:Value→World→Prop)(h:Vc84 v0 v1 v2 w R):za Tryz.prog 84 [v0,v1,v2] w R:=
 VJ [] [(10,[],[0,2,8,9])] Tryz.func84 (by kernel_rfl) (by kernel_rfl) (by kernel_rfl) h
def Vc85(v0 v1:Value)(w:World)(R:Value→World→Prop):Prop:=
 za Tryz.prog 156 [v0,v1,(.bool true)] w λv11 w_1=>
 zd .neq v11 (.int .i64 0) λv13=>
 HIf v13
 (R v11 w_1)
 (za Tryz.prog 157 [v0] w_1 λv16 w_2=>
 zw v16 λv18=>
 HIf v18
 (za Tryz.prog 158 [v0,v1] w_2 λv22 w_3=>
 zm 0 v22 λv23=>
 zm 1 v22 λv24=>
 zl w_3 λw_4=>
 zg v0 λv26=>
 zc 0 v26 λv27=>
 HLd v27 w_4 λv28=>
 zg v0 λv31=>
 zc 0 v31 λv32=>
 HLd v32 w_4 λv33=>
 zk 3 v33 v23 λv35=>
 zc 2 v35 λv36=>
 HLd v36 w_4 λv37=>
 zh v37 λv38=>
 zk 3 v28 v23 λv39=>
 zc 1 v39 λv40=>
 HSt v40 v38 w_4 λw_5=>
 za Tryz.prog 159 [v16] w_5 λv42 w_6=>
 R v42 w_6)
 (za Tryz.prog 159 [v16] w_2 λv42_1 w_7=>
 R v42_1 w_7))
theorem vc85(v0 v1:Value)(w:World)(R:Value→World→Prop)(h:Vc85 v0 v1 w R):za Tryz.prog 85 [v0,v1] w R:=
 VV Tryz.func85 (by kernel_rfl) (by kernel_rfl) (by kernel_rfl) h
def Vc156(v0 v1 v2:Value)(w:World)(R:Value→World→Prop):Prop:=
 zg v0 λv10=>
 zc 2 v10 λv11=>
 HLd v11 w λv12=>
 HIf v12
 (R (.int .i64 8) w)
 (zd .lss v1 (.int .i64 0) λv14=>
 HIf v14
 (R (.int .i64 1) w)
 (zd .geq v1 (.int .i64 16384) λv17=>
 HIf v17
 (R (.int .i64 1) w)
 (za Tryz.prog 158 [v0,v1] w λv22 w_1=>
 zm 0 v22 λv23=>
 zm 1 v22 λv24=>
 HIf v2
 (zw v24 λv28=>
 HIf v28
 (R (.int .i64 5) w_1)
 (R (.int .i64 0) w_1))
 (R (.int .i64 0) w_1))))
theorem vc156(v0 v1 v2:Value)(w:World)(R:Value→World→Prop)(h:Vc156 v0 v1 v2 w R):za Tryz.prog 156 [v0,v1,v2] w R:=
 VV Tryz.func156 (by kernel_rfl) (by kernel_rfl) (by kernel_rfl) h
def Vc157(v0:Value)(w:World)(R:Value→World→Prop):Prop:=
 zg v0 λv4=>
 zc 3 v4 λv5=>
 HLd v5 w λv6=>
 zd .add v6 (.int .i64 1) λv7=>
 zg v0 λv8=>
 zc 3 v8 λv9=>
 HSt v9 v7 w λw_1=>
 zg v0 λv11=>
 zc 1 v11 λv12=>
 HLd v12 w_1 λv13=>
 zd .gtr v13 (.int .i64 0) λv14=>
 HIf v14
 (zg v0 λv16=>
 zc 1 v16 λv17=>
 HLd v17 w_1 λv18=>
 zd .sub v18 (.int .i64 1) λv19=>
 zg v0 λv20=>
 zc 1 v20 λv21=>
 HSt v21 v19 w_1 λw_2=>
 zg v0 λv23=>
 zc 1 v23 λv24=>
 HLd v24 w_2 λv25=>
 zd .eql v25 (.int .i64 0) λv26=>
 HIf v26
 (zg v0 λv28=>
 zc 2 v28 λv29=>
 HSt v29 (.bool true) w_2 λw_3=>
 zg v0 λv31=>
 zc 2 v31 λv32=>
 HLd v32 w_3 λv33=>
 R v33 w_3)
 (zg v0 λv31_1=>
 zc 2 v31_1 λv32_1=>
 HLd v32_1 w_2 λv33_1=>
 R v33_1 w_2))
 (zg v0 λv31_2=>
 zc 2 v31_2 λv32_2=>
 HLd v32_2 w_1 λv33_2=>
 R v33_2 w_1)
theorem vc157(v0:Value)(w:World)(R:Value→World→Prop)(h:Vc157 v0 w R):za Tryz.prog 157 [v0] w R:=
 VV Tryz.func157 (by kernel_rfl) (by kernel_rfl) (by kernel_rfl) h
def Vc158(v0 v1:Value)(w:World)(R:Value→World→Prop):Prop:=
 ∃(I:List Value→World→Prop) (μ:List Value→World→Nat),I [(.int .i64 0)] w ∧
 ∀(v6:Value) w_1,I [v6] w_1 →
 zg v0 λv9=>
 zc 0 v9 λv10=>
 HLd v10 w_1 λv11=>
 zh v11 λv12=>
 zd .lss v6 v12 λv13=>
 HIf v13
 (zg v0 λv16=>
 zc 0 v16 λv17=>
 HLd v17 w_1 λv18=>
 zk 3 v18 v6 λv20=>
 zc 0 v20 λv21=>
 HLd v21 w_1 λv22=>
 zd .lss v22 v1 λv24=>
 HIf v24
 (zd .add v6 (.int .i64 1) λv27=>
 I [v27] w_1∧μ [v27] w_1<μ [v6] w_1)
 (zl w_1 λw_2=>
 zg v0 λv31=>
 zc 0 v31 λv32=>
 HLd v32 w_2 λv33=>
 zh v33 λv34=>
 zd .lss v6 v34 λv35=>
 HIf v35
 (zg v0 λv38=>
 zc 0 v38 λv39=>
 HLd v39 w_2 λv40=>
 zk 3 v40 v6 λv42=>
 zc 0 v42 λv43=>
 HLd v43 w_2 λv44=>
 zd .eql v44 v1 λv46=>
 HLd v39 w_2 λv40_1=>
 v40_1=v40 ∧
 HLd v43 w_2 λv44_1=>
 v44_1=v44 ∧
 R (.tuple #[v6,v46]) w_2)
 (R (.tuple #[v6,(.bool false)]) w_2)))
 (zl w_1 λw_3=>
 zg v0 λv31_1=>
 zc 0 v31_1 λv32_1=>
 HLd v32_1 w_3 λv33_1=>
 zh v33_1 λv34_1=>
 zd .lss v6 v34_1 λv35_1=>
 HIf v35_1
 (zg v0 λv38_1=>
 zc 0 v38_1 λv39_1=>
 HLd v39_1 w_3 λv40_2=>
 zk 3 v40_2 v6 λv42_1=>
 zc 0 v42_1 λv43_1=>
 HLd v43_1 w_3 λv44_2=>
 zd .eql v44_2 v1 λv46_1=>
 HLd v39_1 w_3 λv40_3=>
 v40_3=v40_2 ∧
 HLd v43_1 w_3 λv44_3=>
 v44_3=v44_2 ∧
 R (.tuple #[v6,v46_1]) w_3)
 (R (.tuple #[v6,(.bool false)]) w_3))
theorem vc158(v0 v1:Value)(w:World)(R:Value→World→Prop)(h:Vc158 v0 v1 w R):za Tryz.prog 158 [v0,v1] w R:=
 VJ [(2,[6],[0,1])] [] Tryz.func158 (by kernel_rfl) (by kernel_rfl) (by kernel_rfl) h
def Vc159(v0:Value)(w:World)(R:Value→World→Prop):Prop:=
 HIf v0
 (R (.int .i64 8) w)
 (R (.int .i64 0) w)
theorem vc159(v0:Value)(w:World)(R:Value→World→Prop)(h:Vc159 v0 w R):za Tryz.prog 159 [v0] w R:=
 VV Tryz.func159 (by kernel_rfl) (by kernel_rfl) (by kernel_rfl) h
def Vc35(v0 v1:Value)(w:World)(R:Value→World→Prop):Prop:=
 zg v0 λv9=>
 zc 0 v9 λv10=>
 HLd v10 w λv11=>
 za Tryz.prog 114 [v11,v1] w λv13 w_1=>
 zw v13 λv14=>
 HIf v14
 (R (.slice none 0 0) w_1)
 (zg v0 λv16=>
 zc 0 v16 λv17=>
 HLd v17 w_1 λv18=>
 zk 1 v18 v1 λv20=>
 HLd v20 w_1 λv21=>
 za Tryz.prog 116 [v21] w_1 λv22 w_2=>
 za Tryz.prog 115 [v22] w_2 λv23 w_3=>
 zh v23 λv24=>
 ∃(I:List Value→World→Prop) (μ:List Value→World→Nat),I [(.slice none 0 0),(.int .i64 0)] w_3 ∧
 ∀(v5 v25:Value) w_4,I [v5,v25] w_4 →
 zd .lss v25 v24 λv26=>
 HIf v26
 (zk 1 v23 v25 λv27=>
 HLd v27 w_4 λv28=>
 zg v0 λv31=>
 zc 0 v31 λv32=>
 HLd v32 w_4 λv33=>
 zk 1 v33 v1 λv35=>
 HLd v35 w_4 λv36=>
 HRq Tryz.prog (Instr.lookup 213 v36 v28 false) w_4 λv38=>
 zo (zrow [.int .i64 0,.int .i64 0,.bool false,.string ⟨#[]⟩] 1) [(0,4,v38)] 80 1 w_4 λv39 w_5=>
 zr 4 40 [.int .i64 0,.int .i64 0,.bool false,.string ⟨#[]⟩] 80 v5 v39 w_5 λv40 w_6=>
 zd .add v25 (.int .i64 1) λv41=>
 I [v40,v41] w_6∧μ [v40,v41] w_6<μ [v5,v25] w_4)
 (R v5 w_4))
theorem vc35(v0 v1:Value)(w:World)(R:Value→World→Prop)(h:Vc35 v0 v1 w R):za Tryz.prog 35 [v0,v1] w R:=
 VJ [(5,[5,25],[0,1,23,24])] [] Tryz.func35 (by kernel_rfl) (by kernel_rfl) (by kernel_rfl) h
def Vc68(v0 v1:Value)(w:World)(R:Value→World→Prop):Prop:=
 za Tryz.prog 35 [v0,v1] w λv10 w_1=>
 zh v10 λv11=>
 ∃(I:List Value→World→Prop) (μ:List Value→World→Nat),I [(.slice none 0 0),(.int .i64 0)] w_1 ∧
 ∀(v5 v12:Value) w_2,I [v5,v12] w_2 →
 zd .lss v12 v11 λv13=>
 HIf v13
 (zk 4 v10 v12 λv14=>
 zj 4 v14 w_2 λv15=>
 zn [.int .i64 0,.int .i64 0,.bool false,.string ⟨#[]⟩] 80 w_2 λv7 w_3=>
 zp 4 v7 v15 w_3 λw_4=>
 zc 2 v7 λv16=>
 HLd v16 w_4 λv17=>
 zw v17 λv18=>
 HIf v18
 (zc 0 v7 λv20=>
 HLd v20 w_4 λv21=>
 zc 3 v7 λv22=>
 HLd v22 w_4 λv23=>
 zt [.int .i64 0,.string ⟨#[]⟩] [(0,1,v21),(1,1,v23)] λv24=>
 zo (zrow [.int .i64 0,.string ⟨#[]⟩] 1) [(0,2,v24)] 147 1 w_4 λv25 w_5=>
 zr 2 24 [.int .i64 0,.string ⟨#[]⟩] 147 v5 v25 w_5 λv26 w_6=>
 zd .add v12 (.int .i64 1) λv27=>
 I [v26,v27] w_6∧μ [v26,v27] w_6<μ [v5,v12] w_2)
 (zd .add v12 (.int .i64 1) λv27_1=>
 I [v5,v27_1] w_4∧μ [v5,v27_1] w_4<μ [v5,v12] w_2))
 (R v5 w_2)
theorem vc68(v0 v1:Value)(w:World)(R:Value→World→Prop)(h:Vc68 v0 v1 w R):za Tryz.prog 68 [v0,v1] w R:=
 VJ [(3,[5,12],[10,11])] [] Tryz.func68 (by kernel_rfl) (by kernel_rfl) (by kernel_rfl) h
def Vc69(v0:Value)(w:World)(R:Value→World→Prop):Prop:=
 zg v0 λv4=>
 zc 0 v4 λv5=>
 HLd v5 w λv6=>
 zh v6 λv7=>
 R v7 w
theorem vc69(v0:Value)(w:World)(R:Value→World→Prop)(h:Vc69 v0 w R):za Tryz.prog 69 [v0] w R:=
 VV Tryz.func69 (by kernel_rfl) (by kernel_rfl) (by kernel_rfl) h
def Vc90(v0:Value)(w:World)(R:Value→World→Prop):Prop:=
 zd .lss v0 (.int .i64 1) λv6=>
 HIf v6
 (R (.tuple #[(.pointer none),(.int .i64 1)]) w)
 (zd .gtr v0 (.int .i64 8) λv9=>
 HIf v9
 (R (.tuple #[(.pointer none),(.int .i64 1)]) w)
 (zt [.slice none 0 0] [] λv11=>
 ∃cs:List Value,v11= .agg cs.toArray∧zn cs 208 w λv12 w_1=>
 ∃(I:List Value→World→Prop) (μ:List Value→World→Nat),I [(.int .i64 0)] w_1 ∧
 ∀(v14:Value) w_2,I [v14] w_2 →
 zd .lss v14 v0 λv15=>
 HIf v15
 (zg v12 λv18=>
 zc 0 v18 λv19=>
 HLd v19 w_2 λv20=>
 zo (zrow [.map none] 1) [(0,1,(.map (some w_2.heap.size)))] 213 1 (w_2.alloc (.map #[] 0)) λv22 w_3=>
 zr 1 8 [.map none] 213 v20 v22 w_3 λv23 w_4=>
 zg v12 λv24=>
 zc 0 v24 λv25=>
 HSt v25 v23 w_4 λw_5=>
 zd .add v14 (.int .i64 1) λv26=>
 I [v26] w_5∧μ [v26] w_5<μ [v14] w_2)
 (R (.tuple #[v12,(.int .i64 0)]) w_2)))
theorem vc90(v0:Value)(w:World)(R:Value→World→Prop)(h:Vc90 v0 w R):za Tryz.prog 90 [v0] w R:=
 VJ [(5,[14],[4,13])] [] Tryz.func90 (by kernel_rfl) (by kernel_rfl) (by kernel_rfl) h
def Vc114(v0 v1:Value)(w:World)(R:Value→World→Prop):Prop:=
 zd .geq v1 (.int .i64 0) λv6=>
 HIf v6
 (zh v0 λv10=>
 zd .lss v1 v10 λv11=>
 R v11 w)
 (R (.bool false) w)
theorem vc114(v0 v1:Value)(w:World)(R:Value→World→Prop)(h:Vc114 v0 v1 w R):za Tryz.prog 114 [v0,v1] w R:=
 VV Tryz.func114 (by kernel_rfl) (by kernel_rfl) (by kernel_rfl) h
def Vc186(v0 v1:Value)(w:World)(R:Value→World→Prop):Prop:=
 zh v1 λv9=>
 ∃(I:List Value→World→Prop) (μ:List Value→World→Nat),I [(.int .i64 0),(.int .i64 0)] w ∧
 ∀(v5 v10:Value) w_1,I [v5,v10] w_1 →
 zd .lss v10 v9 λv11=>
 HIf v11
 (zk 5 v1 v10 λv12=>
 zj 5 v12 w_1 λv13=>
 zn [.int .i64 0,.int .i64 0,.int .i64 0,.bool false,.string ⟨#[]⟩] 96 w_1 λv7 w_2=>
 zp 5 v7 v13 w_2 λw_3=>
 zl w_3 λw_4=>
 zg v0 λv15=>
 zc 0 v15 λv16=>
 HLd v16 w_4 λv17=>
 zj 5 v7 w_4 λv18=>
 za Tryz.prog 230 [v17,v18] w_4 λv19 w_5=>
 HIf v19
 (zd .add v5 (.int .i64 1) λv21=>
 zd .add v10 (.int .i64 1) λv22=>
 I [v21,v22] w_5∧μ [v21,v22] w_5<μ [v5,v10] w_1)
 (zd .add v10 (.int .i64 1) λv22_1=>
 I [v5,v22_1] w_5∧μ [v5,v22_1] w_5<μ [v5,v10] w_1))
 (R v5 w_1)
theorem vc186(v0 v1:Value)(w:World)(R:Value→World→Prop)(h:Vc186 v0 v1 w R):za Tryz.prog 186 [v0,v1] w R:=
 VJ [(3,[5,10],[0,8,9])] [] Tryz.func186 (by kernel_rfl) (by kernel_rfl) (by kernel_rfl) h
def Vc230(v0 v1:Value)(w:World)(R:Value→World→Prop):Prop:=
 ∃cs:List Value,v1= .agg cs.toArray∧zn cs 96 w λv3 w_1=>
 zc 1 v3 λv9=>
 HLd v9 w_1 λv10=>
 za Tryz.prog 114 [v0,v10] w_1 λv11 w_2=>
 zw v11 λv12=>
 HIf v12
 (R (.bool false) w_2)
 (∃I:List Value→World→Prop,(zl w_2 λw_3=>
 zc 1 v3 λv15=>
 HLd v15 w_3 λv16=>
 zk 1 v0 v16 λv17=>
 HLd v17 w_3 λv18=>
 zc 2 v3 λv19=>
 HLd v19 w_3 λv20=>
 HRq Tryz.prog (Instr.lookup 213 v18 v20 true) w_3 λv21=>
 zm 0 v21 λv22=>
 zm 1 v21 λv23=>
 zn [.int .i64 0,.int .i64 0,.bool false,.string ⟨#[]⟩] 80 w_3 λv5 w_4=>
 HLd v15 w_4 λv16_1=>
 v16_1=v16 ∧
 HLd v17 w_4 λv18_1=>
 v18_1=v18 ∧
 HLd v19 w_4 λv20_1=>
 v20_1=v20 ∧
 HRq Tryz.prog (Instr.lookup 213 v18 v20 true) w_4 λv21_1=>
 v21_1=v21 ∧
 zp 4 v5 v22 w_4 λw_5=>
 HIf v23
 (zc 1 v5 λv26=>
 HLd v26 w_5 λv27=>
 zc 0 v3 λv28=>
 HLd v28 w_5 λv29=>
 zd .gtr v27 v29 λv30=>
 HIf v30
 (R (.bool false) w_5)
 (I [] w_5))
 (I [] w_5)) ∧
 ∀w_6,I [] w_6 →
 zc 2 v3 λv32=>
 HLd v32 w_6 λv33=>
 zc 0 v3 λv34=>
 HLd v34 w_6 λv35=>
 zc 3 v3 λv36=>
 HLd v36 w_6 λv37=>
 zc 4 v3 λv38=>
 HLd v38 w_6 λv39=>
 zt [.int .i64 0,.int .i64 0,.bool false,.string ⟨#[]⟩] [(0,1,v33),(1,1,v35),(2,1,v37),(3,1,v39)] λv40=>
 zn [.int .i64 0,.int .i64 0,.bool false,.string ⟨#[]⟩] 80 w_6 λv7 w_7=>
 zp 4 v7 v40 w_7 λw_8=>
 ∃I_1:List Value→World→Prop,(zc 3 v3 λv41=>
 HLd v41 w_8 λv42=>
 HIf v42
 (zc 3 v7 λv43=>
 HSt v43 (.string {data:=#[]}) w_8 λw_9=>
 I_1 [] w_9)
 (I_1 [] w_8)) ∧
 ∀w_10,I_1 [] w_10 →
 zl w_10 λw_11=>
 zc 1 v3 λv45=>
 HLd v45 w_11 λv46=>
 zk 1 v0 v46 λv47=>
 HLd v47 w_11 λv48=>
 zc 2 v3 λv49=>
 HLd v49 w_11 λv50=>
 zj 4 v7 w_11 λv51=>
 yz Tryz.prog (do Instr.mapUpdate 213 v48 v50 v51;pure undef) w_11 λu w_12=>
 R (.bool true) w_12)
theorem vc230(v0 v1:Value)(w:World)(R:Value→World→Prop)(h:Vc230 v0 v1 w R):za Tryz.prog 230 [v0,v1] w R:=
 VJ [] [(6,[],[0,3]),(9,[],[0,3,7])] Tryz.func230 (by kernel_rfl) (by kernel_rfl) (by kernel_rfl) h
def Vc34(v0 v1:Value)(w:World)(R:Value→World→Prop):Prop:=
 za Tryz.prog 112 [v0,v1,(.func (.func 113) #[] #[])] w λv7 w_1=>
 R v7 w_1
theorem vc34(v0 v1:Value)(w:World)(R:Value→World→Prop)(h:Vc34 v0 v1 w R):za Tryz.prog 34 [v0,v1] w R:=
 VV Tryz.func34 (by kernel_rfl) (by kernel_rfl) (by kernel_rfl) h
def Vc37(v0 v1:Value)(w:World)(R:Value→World→Prop):Prop:=
 za Tryz.prog 117 [v0,v1,(.func (.func 118) #[] #[])] w λv7 w_1=>
 R v7 w_1
theorem vc37(v0 v1:Value)(w:World)(R:Value→World→Prop)(h:Vc37 v0 v1 w R):za Tryz.prog 37 [v0,v1] w R:=
 VV Tryz.func37 (by kernel_rfl) (by kernel_rfl) (by kernel_rfl) h
def Vc67(v0 v1:Value)(w:World)(R:Value→World→Prop):Prop:=
 za Tryz.prog 152 [v0,v1,(.func (.func 153) #[] #[])] w λv7 w_1=>
 R v7 w_1
theorem vc67(v0 v1:Value)(w:World)(R:Value→World→Prop)(h:Vc67 v0 v1 w R):za Tryz.prog 67 [v0,v1] w R:=
 VV Tryz.func67 (by kernel_rfl) (by kernel_rfl) (by kernel_rfl) h
def Vc112(v0 v1 v2:Value)(w:World)(R:Value→World→Prop):Prop:=
 zh v0 λv9=>
 zh v1 λv11=>
 zd .neq v9 v11 λv12=>
 HIf v12
 (R (.bool false) w)
 (∃(I:List Value→World→Prop) (μ:List Value→World→Nat),I [(.int .i64 0)] w ∧
 ∀(v7:Value) w_1,I [v7] w_1 →
 zh v0 λv15=>
 zd .lss v7 v15 λv16=>
 HIf v16
 (zl w_1 λw_2=>
 zk 4 v0 v7 λv22=>
 zj 4 v22 w_2 λv23=>
 zk 4 v1 v7 λv26=>
 zj 4 v26 w_2 λv27=>
 Zl Tryz.prog Tcall v2 [v23,v27] w_2 λv28 w_3=>
 zw v28 λv29=>
 HIf v29
 (R (.bool false) w_3)
 (zd .add v7 (.int .i64 1) λv18=>
 I [v18] w_3∧μ [v18] w_3<μ [v7] w_1))
 (R (.bool true) w_1))
theorem vc112(v0 v1 v2:Value)(w:World)(R:Value→World→Prop)(h:Vc112 v0 v1 v2 w R):za Tryz.prog 112 [v0,v1,v2] w R:=
 VJ [(4,[7],[0,1,2])] [] Tryz.func112 (by kernel_rfl) (by kernel_rfl) (by kernel_rfl) h
def Vc113(v0 v1:Value)(w:World)(R:Value→World→Prop):Prop:=
 ∃cs:List Value,v0= .agg cs.toArray∧zn cs 80 w λv2 w_1=>
 ∃cs_1:List Value,v1= .agg cs_1.toArray∧zn cs_1 80 w_1 λv3 w_2=>
 zj 4 v2 w_2 λv5=>
 zj 4 v3 w_2 λv6=>
 YM Tryz.prog 80 false v5 v6 w_2 λv7=>
 R v7 w_2
theorem vc113(v0 v1:Value)(w:World)(R:Value→World→Prop)(h:Vc113 v0 v1 w R):za Tryz.prog 113 [v0,v1] w R:=
 VV Tryz.func113 (by kernel_rfl) (by kernel_rfl) (by kernel_rfl) h
def Vc117(v0 v1 v2:Value)(w:World)(R:Value→World→Prop):Prop:=
 zh v0 λv9=>
 zh v1 λv11=>
 zd .neq v9 v11 λv12=>
 HIf v12
 (R (.bool false) w)
 (∃(I:List Value→World→Prop) (μ:List Value→World→Nat),I [(.int .i64 0)] w ∧
 ∀(v7:Value) w_1,I [v7] w_1 →
 zh v0 λv15=>
 zd .lss v7 v15 λv16=>
 HIf v16
 (zl w_1 λw_2=>
 zk 7 v0 v7 λv22=>
 zj 7 v22 w_2 λv23=>
 zk 7 v1 v7 λv26=>
 zj 7 v26 w_2 λv27=>
 Zl Tryz.prog Tcall v2 [v23,v27] w_2 λv28 w_3=>
 zw v28 λv29=>
 HIf v29
 (R (.bool false) w_3)
 (zd .add v7 (.int .i64 1) λv18=>
 I [v18] w_3∧μ [v18] w_3<μ [v7] w_1))
 (R (.bool true) w_1))
theorem vc117(v0 v1 v2:Value)(w:World)(R:Value→World→Prop)(h:Vc117 v0 v1 v2 w R):za Tryz.prog 117 [v0,v1,v2] w R:=
 VJ [(4,[7],[0,1,2])] [] Tryz.func117 (by kernel_rfl) (by kernel_rfl) (by kernel_rfl) h
def Vc118(v0 v1:Value)(w:World)(R:Value→World→Prop):Prop:=
 ∃cs:List Value,v0= .agg cs.toArray∧zn cs 89 w λv2 w_1=>
 ∃cs_1:List Value,v1= .agg cs_1.toArray∧zn cs_1 89 w_1 λv3 w_2=>
 zj 7 v2 w_2 λv5=>
 zj 7 v3 w_2 λv6=>
 YM Tryz.prog 89 false v5 v6 w_2 λv7=>
 R v7 w_2
theorem vc118(v0 v1:Value)(w:World)(R:Value→World→Prop)(h:Vc118 v0 v1 w R):za Tryz.prog 118 [v0,v1] w R:=
 VV Tryz.func118 (by kernel_rfl) (by kernel_rfl) (by kernel_rfl) h
def Vc127(v0 v1:Value)(w:World)(R:Value→World→Prop):Prop:=
 HRq Tryz.prog (convert 54 9 v0) w λv6=>
 HRq Tryz.prog (convert 54 9 v1) w λv8=>
 zd .eql v6 v8 λv9=>
 R v9 w
theorem vc127(v0 v1:Value)(w:World)(R:Value→World→Prop)(h:Vc127 v0 v1 w R):za Tryz.prog 127 [v0,v1] w R:=
 VV Tryz.func127 (by kernel_rfl) (by kernel_rfl) (by kernel_rfl) h
def Vc152(v0 v1 v2:Value)(w:World)(R:Value→World→Prop):Prop:=
 zh v0 λv9=>
 zh v1 λv11=>
 zd .neq v9 v11 λv12=>
 HIf v12
 (R (.bool false) w)
 (∃(I:List Value→World→Prop) (μ:List Value→World→Nat),I [(.int .i64 0)] w ∧
 ∀(v7:Value) w_1,I [v7] w_1 →
 zh v0 λv15=>
 zd .lss v7 v15 λv16=>
 HIf v16
 (zl w_1 λw_2=>
 zk 2 v0 v7 λv22=>
 zj 2 v22 w_2 λv23=>
 zk 2 v1 v7 λv26=>
 zj 2 v26 w_2 λv27=>
 Zl Tryz.prog Tcall v2 [v23,v27] w_2 λv28 w_3=>
 zw v28 λv29=>
 HIf v29
 (R (.bool false) w_3)
 (zd .add v7 (.int .i64 1) λv18=>
 I [v18] w_3∧μ [v18] w_3<μ [v7] w_1))
 (R (.bool true) w_1))
theorem vc152(v0 v1 v2:Value)(w:World)(R:Value→World→Prop)(h:Vc152 v0 v1 v2 w R):za Tryz.prog 152 [v0,v1,v2] w R:=
 VJ [(4,[7],[0,1,2])] [] Tryz.func152 (by kernel_rfl) (by kernel_rfl) (by kernel_rfl) h
def Vc153(v0 v1:Value)(w:World)(R:Value→World→Prop):Prop:=
 ∃cs:List Value,v0= .agg cs.toArray∧zn cs 147 w λv2 w_1=>
 ∃cs_1:List Value,v1= .agg cs_1.toArray∧zn cs_1 147 w_1 λv3 w_2=>
 zj 2 v2 w_2 λv5=>
 zj 2 v3 w_2 λv6=>
 YM Tryz.prog 147 false v5 v6 w_2 λv7=>
 R v7 w_2
theorem vc153(v0 v1:Value)(w:World)(R:Value→World→Prop)(h:Vc153 v0 v1 w R):za Tryz.prog 153 [v0,v1] w R:=
 VV Tryz.func153 (by kernel_rfl) (by kernel_rfl) (by kernel_rfl) h
def Vc29(v0 v1:Value)(w:World)(R:Value→World→Prop):Prop:=
 zO .u64 v0 λv6=>
 zO .u64 v1 λv8=>
 zd .rem v6 v8 λv9=>
 zO .i64 v9 λv10=>
 R v10 w
theorem vc29(v0 v1:Value)(w:World)(R:Value→World→Prop)(h:Vc29 v0 v1 w R):za Tryz.prog 29 [v0,v1] w R:=
 VV Tryz.func29 (by kernel_rfl) (by kernel_rfl) (by kernel_rfl) h
def Vc39(v0:Value)(w:World)(R:Value→World→Prop):Prop:=
 ∃cs:List Value,v0= .agg cs.toArray∧zn cs 48 w λv1 w_1=>
 zn [.int .i64 0,.int .i64 0] 48 w_1 λv2 w_2=>
 zc 0 v1 λv4=>
 HLd v4 w_2 λv5=>
 za Tryz.prog 29 [v5,(.int .i64 3)] w_2 λv6 w_3=>
 zd .add (.int .i64 1) v6 λv7=>
 zd .eql v7 (.int .i64 2) λv9=>
 HIf v9
 (zc 1 v1 λv11=>
 HLd v11 w_3 λv12=>
 za Tryz.prog 29 [v12,(.int .i64 300)] w_3 λv13 w_4=>
 zt [.int .i64 0,.int .i64 0] [(0,1,v7),(1,1,v13)] λv14=>
 zp 2 v2 v14 w_4 λw_5=>
 zj 2 v2 w_5 λr=>
 R r w_5)
 (zt [.int .i64 0,.int .i64 0] [(0,1,v7)] λv16=>
 zp 2 v2 v16 w_3 λw_6=>
 zj 2 v2 w_6 λr_1=>
 R r_1 w_6)
theorem vc39(v0:Value)(w:World)(R:Value→World→Prop)(h:Vc39 v0 w R):za Tryz.prog 39 [v0] w R:=
 VV Tryz.func39 (by kernel_rfl) (by kernel_rfl) (by kernel_rfl) h
def Vc46(v0 v1:Value)(w:World)(R:Value→World→Prop):Prop:=
 ∃(I:List Value→World→Prop) (μ:List Value→World→Nat),I [(.slice none 0 0),(.int .i64 0)] w ∧
 ∀(v5 v6:Value) w_1,I [v5,v6] w_1 →
 zh v0 λv9=>
 zd .lss v6 v9 λv10=>
 HIf v10
 (zd .lss v6 v1 λv14=>
 HIf v14
 (zk 1 v0 v6 λv21=>
 HLd v21 w_1 λv22=>
 za Tryz.prog 29 [v22,(.int .i64 200)] w_1 λv23 w_2=>
 zo (zrow [.int .i64 0] 1) [(0,1,v23)] 3 1 w_2 λv24 w_3=>
 zr 1 8 [.int .i64 0] 3 v5 v24 w_3 λv25 w_4=>
 zd .add v6 (.int .i64 1) λv17=>
 I [v25,v17] w_4∧μ [v25,v17] w_4<μ [v5,v6] w_1)
 (R v5 w_1))
 (R v5 w_1)
theorem vc46(v0 v1:Value)(w:World)(R:Value→World→Prop)(h:Vc46 v0 v1 w R):za Tryz.prog 46 [v0,v1] w R:=
 VJ [(3,[5,6],[0,1])] [] Tryz.func46 (by kernel_rfl) (by kernel_rfl) (by kernel_rfl) h
def Vc53(v0 v1 v2:Value)(w:World)(R:Value→World→Prop):Prop:=
 ∃cs:List Value,v0= .agg cs.toArray∧zn cs 46 w λv3 w_1=>
 zn [.int .i64 0,.slice none 0 0,.slice none 0 0] 46 w_1 λv6 w_2=>
 zd .add v2 (.int .i64 1) λv12=>
 zc 0 v3 λv13=>
 HLd v13 w_2 λv14=>
 za Tryz.prog 64 [v14,(.int .i64 3)] w_2 λv15 w_3=>
 zd .add v12 v15 λv16=>
 zt [.int .i64 0,.slice none 0 0,.slice none 0 0] [(0,1,v16)] λv17=>
 zn [.int .i64 0,.slice none 0 0,.slice none 0 0] 46 w_3 λv7 w_4=>
 zp 3 v7 v17 w_4 λw_5=>
 ∃(I:List Value→World→Prop) (μ:List Value→World→Nat),I [(.int .i64 0)] w_5 ∧
 ∀(v8:Value) w_6,I [v8] w_6 →
 zc 1 v3 λv19=>
 HLd v19 w_6 λv20=>
 zh v20 λv21=>
 zd .lss v8 v21 λv22=>
 HIf v22
 (zd .lss v8 (.int .i64 5) λv25=>
 HIf v25
 (zc 1 v3 λv29=>
 HLd v29 w_6 λv30=>
 zk 5 v30 v8 λv32=>
 zj 5 v32 w_6 λv33=>
 zn [.int .i64 0,.int .i64 0,.int .i64 0,.bool false,.string ⟨#[]⟩] 96 w_6 λv9 w_7=>
 zp 5 v9 v33 w_7 λw_8=>
 zc 1 v9 λv34=>
 HLd v34 w_8 λv35=>
 zc 2 v9 λv36=>
 HLd v36 w_8 λv37=>
 zc 3 v9 λv38=>
 HLd v38 w_8 λv39=>
 zc 4 v9 λv40=>
 HLd v40 w_8 λv41=>
 zt [.int .i64 0,.int .i64 0,.bool false,.string ⟨#[]⟩] [(0,1,v35),(1,1,v37),(2,1,v39),(3,1,v41)] λv42=>
 za Tryz.prog 134 [v42,v1] w_8 λv44 w_9=>
 zn [.int .i64 0,.int .i64 0,.bool false,.string ⟨#[]⟩] 170 w_9 λv10 w_10=>
 zp 4 v10 v44 w_10 λw_11=>
 zl w_11 λw_12=>
 zc 1 v7 λv45=>
 HLd v45 w_12 λv46=>
 zc 0 v9 λv47=>
 HLd v47 w_12 λv48=>
 zc 0 v7 λv49=>
 HLd v49 w_12 λv50=>
 zc 0 v10 λv53=>
 HLd v53 w_12 λv54=>
 zc 1 v10 λv55=>
 HLd v55 w_12 λv56=>
 zc 2 v10 λv57=>
 HLd v57 w_12 λv58=>
 zc 3 v10 λv59=>
 HLd v59 w_12 λv60=>
 za Tryz.prog 64 [v48,v50] w_12 λv51 w_13=>
 HLd v45 w_13 λv46_1=>
 v46_1=v46 ∧
 HLd v53 w_13 λv54_1=>
 v54_1=v54 ∧
 HLd v55 w_13 λv56_1=>
 v56_1=v56 ∧
 HLd v57 w_13 λv58_1=>
 v58_1=v58 ∧
 HLd v59 w_13 λv60_1=>
 v60_1=v60 ∧
 zd .add (.int .i64 1) v51 λv52=>
 zt [.int .i64 0,.int .i64 0,.int .i64 0,.bool false,.string ⟨#[]⟩] [(0,1,v52),(1,1,v54),(2,1,v56),(3,1,v58),(4,1,v60)] λv61=>
 zo (zrow [.int .i64 0,.int .i64 0,.int .i64 0,.bool false,.string ⟨#[]⟩] 1) [(0,5,v61)] 96 1 w_13 λv62 w_14=>
 HLd v45 w_14 λv46_2=>
 v46_2=v46 ∧
 zr 5 48 [.int .i64 0,.int .i64 0,.int .i64 0,.bool false,.string ⟨#[]⟩] 96 v46 v62 w_14 λv63 w_15=>
 zc 1 v7 λv64=>
 HSt v64 v63 w_15 λw_16=>
 zd .add v8 (.int .i64 1) λv28=>
 I [v28] w_16∧μ [v28] w_16<μ [v8] w_6)
 (zj 3 v7 w_6 λv65=>
 zp 3 v6 v65 w_6 λw_17=>
 zj 3 v6 w_17 λr=>
 R r w_17))
 (zj 3 v7 w_6 λv65_1=>
 zp 3 v6 v65_1 w_6 λw_18=>
 zj 3 v6 w_18 λr_1=>
 R r_1 w_18)
theorem vc53(v0 v1 v2:Value)(w:World)(R:Value→World→Prop)(h:Vc53 v0 v1 v2 w R):za Tryz.prog 53 [v0,v1,v2] w R:=
 VJ [(3,[8],[1,3,6,7])] [] Tryz.func53 (by kernel_rfl) (by kernel_rfl) (by kernel_rfl) h
def Vc64(v0 v1:Value)(w:World)(R:Value→World→Prop):Prop:=
 zO .u64 v0 λv6=>
 zO .u64 v1 λv8=>
 zd .rem v6 v8 λv9=>
 zO .i64 v9 λv10=>
 R v10 w
theorem vc64(v0 v1:Value)(w:World)(R:Value→World→Prop)(h:Vc64 v0 v1 w R):za Tryz.prog 64 [v0,v1] w R:=
 VV Tryz.func64 (by kernel_rfl) (by kernel_rfl) (by kernel_rfl) h
def Vc134(v0 v1:Value)(w:World)(R:Value→World→Prop):Prop:=
 ∃cs:List Value,v0= .agg cs.toArray∧zn cs 170 w λv2 w_1=>
 zn [.int .i64 0,.int .i64 0,.bool false,.string ⟨#[]⟩] 170 w_1 λv4 w_2=>
 ∃I:List Value→World→Prop,(zl w_2 λw_3=>
 zc 0 v2 λv6=>
 HLd v6 w_3 λv7=>
 zc 1 v2 λv10=>
 HLd v10 w_3 λv11=>
 zc 2 v2 λv14=>
 HLd v14 w_3 λv15=>
 (za Tryz.prog 29 [v7,v1] w_3 λv9 w_4=>
 HLd v10 w_4 λv11_1=>
 v11_1=v11 ∧
 HLd v14 w_4 λv15_1=>
 v15_1=v15 ∧
 (za Tryz.prog 64 [v11,(.int .i64 12)] w_4 λv12 w_5=>
 HLd v14 w_5 λv15_2=>
 v15_2=v15 ∧
 zd .add (.int .i64 1) v12 λv13=>
 zt [.int .i64 0,.int .i64 0,.bool false,.string ⟨#[]⟩] [(0,1,v9),(1,1,v13),(2,1,v15)] λv16=>
 zn [.int .i64 0,.int .i64 0,.bool false,.string ⟨#[]⟩] 170 w_5 λv5 w_6=>
 HLd v14 w_6 λv15_3=>
 v15_3=v15 ∧
 zp 4 v5 v16 w_6 λw_7=>
 I [v5] w_7) ∧
 (zn [.int .i64 0,.int .i64 0,.bool false,.string ⟨#[]⟩] 170 w_4 λv5_1 w_8=>
 HLd v10 w_8 λv11_2=>
 v11_2=v11 ∧
 HLd v14 w_8 λv15_4=>
 v15_4=v15 ∧
 za Tryz.prog 64 [v11,(.int .i64 12)] w_8 λv12_1 w_9=>
 HLd v14 w_9 λv15_5=>
 v15_5=v15 ∧
 zd .add (.int .i64 1) v12_1 λv13_1=>
 zt [.int .i64 0,.int .i64 0,.bool false,.string ⟨#[]⟩] [(0,1,v9),(1,1,v13_1),(2,1,v15)] λv16_1=>
 zp 4 v5_1 v16_1 w_9 λw_10=>
 I [v5_1] w_10)) ∧
 (zn [.int .i64 0,.int .i64 0,.bool false,.string ⟨#[]⟩] 170 w_3 λv5_2 w_11=>
 HLd v6 w_11 λv7_1=>
 v7_1=v7 ∧
 HLd v10 w_11 λv11_3=>
 v11_3=v11 ∧
 HLd v14 w_11 λv15_6=>
 v15_6=v15 ∧
 za Tryz.prog 29 [v7,v1] w_11 λv9_1 w_12=>
 HLd v10 w_12 λv11_4=>
 v11_4=v11 ∧
 HLd v14 w_12 λv15_7=>
 v15_7=v15 ∧
 za Tryz.prog 64 [v11,(.int .i64 12)] w_12 λv12_2 w_13=>
 HLd v14 w_13 λv15_8=>
 v15_8=v15 ∧
 zd .add (.int .i64 1) v12_2 λv13_2=>
 zt [.int .i64 0,.int .i64 0,.bool false,.string ⟨#[]⟩] [(0,1,v9_1),(1,1,v13_2),(2,1,v15)] λv16_2=>
 zp 4 v5_2 v16_2 w_13 λw_14=>
 I [v5_2] w_14)) ∧
 ∀(v5_3:Value) w_15,I [v5_3] w_15 →
 ∃I_1:List Value→World→Prop,(zc 1 v2 λv17=>
 HLd v17 w_15 λv18=>
 za Tryz.prog 64 [v18,(.int .i64 31)] w_15 λv19 w_16=>
 zd .eql v19 (.int .i64 30) λv20=>
 HIf v20
 (zc 1 v2 λv21=>
 HLd v21 w_16 λv22=>
 za Tryz.prog 64 [v22,(.int .i64 1099511627776)] w_16 λv23 w_17=>
 zd .add (.int .i64 1) v23 λv24=>
 zc 1 v5_3 λv25=>
 HSt v25 v24 w_17 λw_18=>
 I_1 [] w_18)
 (I_1 [] w_16)) ∧
 ∀w_19,I_1 [] w_19 →
 zc 2 v2 λv26=>
 HLd v26 w_19 λv27=>
 zw v27 λv28=>
 HIf v28
 (zc 3 v2 λv29=>
 HLd v29 w_19 λv30=>
 za Tryz.prog 197 [v30,(.int .i64 32)] w_19 λv31 w_20=>
 zc 3 v5_3 λv32=>
 HSt v32 v31 w_20 λw_21=>
 zj 4 v5_3 w_21 λv33=>
 zp 4 v4 v33 w_21 λw_22=>
 zj 4 v4 w_22 λr=>
 R r w_22)
 (zj 4 v5_3 w_19 λv33_1=>
 zp 4 v4 v33_1 w_19 λw_23=>
 zj 4 v4 w_23 λr_1=>
 R r_1 w_23)
theorem vc134(v0 v1:Value)(w:World)(R:Value→World→Prop)(h:Vc134 v0 v1 w R):za Tryz.prog 134 [v0,v1] w R:=
 VJ [] [(2,[5],[2,4]),(4,[],[2,4,5])] Tryz.func134 (by kernel_rfl) (by kernel_rfl) (by kernel_rfl) h
def Vc197(v0 v1:Value)(w:World)(R:Value→World→Prop):Prop:=
 yM v0 λv7=>
 Y3 v7 v1 λv9=>
 HSlS v0 none (some v9) λv10=>
 R v10 w
theorem vc197(v0 v1:Value)(w:World)(R:Value→World→Prop)(h:Vc197 v0 v1 w R):za Tryz.prog 197 [v0,v1] w R:=
 VV Tryz.func197 (by kernel_rfl) (by kernel_rfl) (by kernel_rfl) h
def Vc15(v0:Value)(w:World)(R:Value→World→Prop):Prop:=
 zd .lss v0 (.int .i64 1) λv4=>
 HIf v4
 (R (.pointer none) w)
 (zd .gtr v0 (.int .i64 8) λv7=>
 HIf v7
 (R (.pointer none) w)
 (HMk [.slice none 0 0] 24 81 v0 v0 w λv10 w_1=>
 zt [.slice none 0 0] [(0,1,v10)] λv11=>
 ∃cs:List Value,v11= .agg cs.toArray∧zn cs 161 w_1 λv12 w_2=>
 R v12 w_2))
theorem vc15(v0:Value)(w:World)(R:Value→World→Prop)(h:Vc15 v0 w R):za Tryz.prog 15 [v0] w R:=
 VV Tryz.func15 (by kernel_rfl) (by kernel_rfl) (by kernel_rfl) h
def Vc36(v0 v1:Value)(w:World)(R:Value→World→Prop):Prop:=
 zd .lss v1 (.int .i64 0) λv6=>
 HIf v6
 (R (.slice none 0 0) w)
 (zg v0 λv10=>
 zc 0 v10 λv11=>
 HLd v11 w λv12=>
 zh v12 λv13=>
 zd .geq v1 v13 λv14=>
 HIf v14
 (R (.slice none 0 0) w)
 (zo (zrow [.int .i64 0,.int .i64 0,.bool false,.string ⟨#[]⟩] 0) [] 80 0 w λv16 w_1=>
 zg v0 λv18=>
 zc 0 v18 λv19=>
 HLd v19 w_1 λv20=>
 zk 1 v20 v1 λv22=>
 HLd v22 w_1 λv23=>
 zr 4 40 [.int .i64 0,.int .i64 0,.bool false,.string ⟨#[]⟩] 80 v16 v23 w_1 λv24 w_2=>
 R v24 w_2))
theorem vc36(v0 v1:Value)(w:World)(R:Value→World→Prop)(h:Vc36 v0 v1 w R):za Tryz.prog 36 [v0,v1] w R:=
 VV Tryz.func36 (by kernel_rfl) (by kernel_rfl) (by kernel_rfl) h
def Vc63(v0 v1:Value)(w:World)(R:Value→World→Prop):Prop:=
 ∃(I:List Value→World→Prop) (μ:List Value→World→Nat),I [(.int .i64 0),(.int .i64 0)] w ∧
 ∀(v5 v6:Value) w_1,I [v5,v6] w_1 →
 zh v1 λv15=>
 zd .lss v6 v15 λv16=>
 HIf v16
 (zk 5 v1 v6 λv21=>
 zj 5 v21 w_1 λv22=>
 zn [.int .i64 0,.int .i64 0,.int .i64 0,.bool false,.string ⟨#[]⟩] 96 w_1 λv7 w_2=>
 zp 5 v7 v22 w_2 λw_3=>
 zl w_3 λw_4=>
 zc 1 v7 λv23=>
 HLd v23 w_4 λv24=>
 zd .lss v24 (.int .i64 0) λv25=>
 HIf v25
 (zd .add v6 (.int .i64 1) λv18=>
 I [v5,v18] w_4∧μ [v5,v18] w_4<μ [v5,v6] w_1)
 (zc 1 v7 λv27=>
 HLd v27 w_4 λv28=>
 zg v0 λv30=>
 zc 0 v30 λv31=>
 HLd v31 w_4 λv32=>
 zh v32 λv33=>
 zd .geq v28 v33 λv34=>
 HIf v34
 (zd .add v6 (.int .i64 1) λv18_1=>
 I [v5,v18_1] w_4∧μ [v5,v18_1] w_4<μ [v5,v6] w_1)
 (zl w_4 λw_5=>
 zg v0 λv37=>
 zc 0 v37 λv38=>
 HLd v38 w_5 λv39=>
 zc 1 v7 λv40=>
 HLd v40 w_5 λv41=>
 zk 1 v39 v41 λv42=>
 HLd v42 w_5 λv43=>
 ∃I_1:List Value→World→Prop,(∃(I_2:List Value→World→Prop) (μ_1:List Value→World→Nat),I_2 [(.int .i64 0)] w_5 ∧
 ∀(v9:Value) w_6,I_2 [v9] w_6 →
 zl w_6 λw_7=>
 zh v43 λv46=>
 zd .lss v9 v46 λv47=>
 HIf v47
 (zk 4 v43 v9 λv51=>
 zc 0 v51 λv52=>
 HLd v52 w_7 λv53=>
 zc 2 v7 λv54=>
 HLd v54 w_7 λv55=>
 zd .lss v53 v55 λv56=>
 HIf v56
 (zd .add v9 (.int .i64 1) λv59=>
 I_2 [v59] w_7∧μ_1 [v59] w_7<μ_1 [v9] w_6)
 (I_1 [v9] w_7))
 (I_1 [v9] w_7)) ∧
 ∀(v9_1:Value) w_8,I_1 [v9_1] w_8 →
 ∃I_3:List Value→World→Prop,(zl w_8 λw_9=>
 zh v43 λv62=>
 zd .lss v9_1 v62 λv63=>
 HIf v63
 (zk 4 v43 v9_1 λv67=>
 zc 0 v67 λv68=>
 HLd v68 w_9 λv69=>
 zc 2 v7 λv70=>
 HLd v70 w_9 λv71=>
 zd .eql v69 v71 λv72=>
 I_3 [v72] w_9)
 (I_3 [(.bool false)] w_9)) ∧
 ∀(v10:Value) w_10,I_3 [v10] w_10 →
 ∃I_4:List Value→World→Prop,(zl w_10 λw_11=>
 HIf v10
 (zk 4 v43 v9_1 λv78=>
 zc 1 v78 λv79=>
 HLd v79 w_11 λv80=>
 zc 0 v7 λv81=>
 HLd v81 w_11 λv82=>
 zd .gtr v80 v82 λv83=>
 HIf v83
 (zd .add v6 (.int .i64 1) λv18_2=>
 I [v5,v18_2] w_11∧μ [v5,v18_2] w_11<μ [v5,v6] w_1)
 (I_4 [] w_11))
 (I_4 [] w_11)) ∧
 ∀w_12,I_4 [] w_12 →
 zc 2 v7 λv85=>
 HLd v85 w_12 λv86=>
 zc 0 v7 λv87=>
 HLd v87 w_12 λv88=>
 zc 3 v7 λv89=>
 HLd v89 w_12 λv90=>
 zc 4 v7 λv91=>
 HLd v91 w_12 λv92=>
 zt [.int .i64 0,.int .i64 0,.bool false,.string ⟨#[]⟩] [(0,1,v86),(1,1,v88),(2,1,v90),(3,1,v92)] λv93=>
 zn [.int .i64 0,.int .i64 0,.bool false,.string ⟨#[]⟩] 80 w_12 λv11 w_13=>
 zp 4 v11 v93 w_13 λw_14=>
 ∃I_5:List Value→World→Prop,(zc 3 v7 λv94=>
 HLd v94 w_14 λv95=>
 HIf v95
 (zc 3 v11 λv96=>
 HSt v96 (.string {data:=#[]}) w_14 λw_15=>
 I_5 [] w_15)
 (I_5 [] w_14)) ∧
 ∀w_16,I_5 [] w_16 →
 ∃I_6:List Value→World→Prop,(zl w_16 λw_17=>
 HSl 4 v43 none (some v9_1) none λv100=>
 zj 4 v11 w_17 λv102=>
 (zo (zrow [.int .i64 0,.int .i64 0,.bool false,.string ⟨#[]⟩] 0) [] 80 0 w_17 λv97 w_18=>
 zj 4 v11 w_18 λv102_1=>
 v102_1=v102 ∧
 (zr 4 40 [.int .i64 0,.int .i64 0,.bool false,.string ⟨#[]⟩] 80 v97 v100 w_18 λv101 w_19=>
 zj 4 v11 w_19 λv102_2=>
 v102_2=v102 ∧
 zo (zrow [.int .i64 0,.int .i64 0,.bool false,.string ⟨#[]⟩] 1) [(0,4,v102)] 80 1 w_19 λv103 w_20=>
 zr 4 40 [.int .i64 0,.int .i64 0,.bool false,.string ⟨#[]⟩] 80 v101 v103 w_20 λv104 w_21=>
 I_6 [v104] w_21) ∧
 (zo (zrow [.int .i64 0,.int .i64 0,.bool false,.string ⟨#[]⟩] 1) [(0,4,v102)] 80 1 w_18 λv103_1 w_22=>
 zr 4 40 [.int .i64 0,.int .i64 0,.bool false,.string ⟨#[]⟩] 80 v97 v100 w_22 λv101_1 w_23=>
 zr 4 40 [.int .i64 0,.int .i64 0,.bool false,.string ⟨#[]⟩] 80 v101_1 v103_1 w_23 λv104_1 w_24=>
 I_6 [v104_1] w_24)) ∧
 (zo (zrow [.int .i64 0,.int .i64 0,.bool false,.string ⟨#[]⟩] 1) [(0,4,v102)] 80 1 w_17 λv103_2 w_25=>
 zo (zrow [.int .i64 0,.int .i64 0,.bool false,.string ⟨#[]⟩] 0) [] 80 0 w_25 λv97_1 w_26=>
 zr 4 40 [.int .i64 0,.int .i64 0,.bool false,.string ⟨#[]⟩] 80 v97_1 v100 w_26 λv101_2 w_27=>
 zr 4 40 [.int .i64 0,.int .i64 0,.bool false,.string ⟨#[]⟩] 80 v101_2 v103_2 w_27 λv104_2 w_28=>
 I_6 [v104_2] w_28)) ∧
 ∀(v12:Value) w_29,I_6 [v12] w_29 →
 ∃I_7:List Value→World→Prop,(HIf v10
 (zd .add v9_1 (.int .i64 1) λv107=>
 I_7 [v107] w_29)
 (I_7 [v9_1] w_29)) ∧
 ∀(v9_2:Value) w_30,I_7 [v9_2] w_30 →
 zl w_30 λw_31=>
 zg v0 λv109=>
 zc 0 v109 λv110=>
 HLd v110 w_31 λv111=>
 zc 1 v7 λv112=>
 HLd v112 w_31 λv113=>
 HSl 4 v43 (some v9_2) none none λv117=>
 zr 4 40 [.int .i64 0,.int .i64 0,.bool false,.string ⟨#[]⟩] 80 v12 v117 w_31 λv118 w_32=>
 HLd v110 w_32 λv111_1=>
 v111_1=v111 ∧
 HLd v112 w_32 λv113_1=>
 v113_1=v113 ∧
 zk 1 v111 v113 λv119=>
 HSt v119 v118 w_32 λw_33=>
 zd .add v5 (.int .i64 1) λv121=>
 zd .add v6 (.int .i64 1) λv18_3=>
 I [v121,v18_3] w_33∧μ [v121,v18_3] w_33<μ [v5,v6] w_1)))
 (R v5 w_1)
theorem vc63(v0 v1:Value)(w:World)(R:Value→World→Prop)(h:Vc63 v0 v1 w R):za Tryz.prog 63 [v0,v1] w R:=
 VJ [(3,[5,6],[0,1]),(9,[9],[0,1,5,6,7,8])] [(11,[9],[0,1,5,6,7,8]),(12,[10],[0,1,5,6,7,8,9]),(13,[],[0,1,5,6,7,8,9,10]),(16,[],[0,1,5,6,7,8,9,10,11]),(17,[12],[0,1,5,6,7,8,9,10]),(19,[9],[0,1,5,6,7,8,12])] Tryz.func63 (by kernel_rfl) (by kernel_rfl) (by kernel_rfl) h
def Vc99(v0 v1:Value)(w:World)(R:Value→World→Prop):Prop:=
 za Tryz.prog 36 [v0,v1] w λv10 w_1=>
 ∃(I:List Value→World→Prop) (μ:List Value→World→Nat),I [(.slice none 0 0),(.int .i64 0)] w_1 ∧
 ∀(v5 v7:Value) w_2,I [v5,v7] w_2 →
 zh v10 λv13=>
 zd .lss v7 v13 λv14=>
 HIf v14
 (zk 4 v10 v7 λv19=>
 zc 2 v19 λv20=>
 HLd v20 w_2 λv21=>
 zw v21 λv22=>
 HIf v22
 (zl w_2 λw_3=>
 zk 4 v10 v7 λv26=>
 zc 0 v26 λv27=>
 HLd v27 w_3 λv28=>
 zk 4 v10 v7 λv31=>
 zc 3 v31 λv32=>
 HLd v32 w_3 λv33=>
 zt [.int .i64 0,.string ⟨#[]⟩] [(0,1,v28),(1,1,v33)] λv34=>
 zo (zrow [.int .i64 0,.string ⟨#[]⟩] 1) [(0,2,v34)] 147 1 w_3 λv35 w_4=>
 zr 2 24 [.int .i64 0,.string ⟨#[]⟩] 147 v5 v35 w_4 λv36 w_5=>
 zd .add v7 (.int .i64 1) λv16=>
 I [v36,v16] w_5∧μ [v36,v16] w_5<μ [v5,v7] w_2)
 (zd .add v7 (.int .i64 1) λv16_1=>
 I [v5,v16_1] w_2∧μ [v5,v16_1] w_2<μ [v5,v7] w_2))
 (R v5 w_2)
theorem vc99(v0 v1:Value)(w:World)(R:Value→World→Prop)(h:Vc99 v0 v1 w R):za Tryz.prog 99 [v0,v1] w R:=
 VJ [(4,[5,7],[6])] [] Tryz.func99 (by kernel_rfl) (by kernel_rfl) (by kernel_rfl) h
def Vc119(v0:Value)(w:World)(R:Value→World→Prop):Prop:=
 HEq (.slice 89) false v0 (.slice none 0 0) λv4=>
 HIf v4
 (R (.slice none 0 0) w)
 (zo (zrow [.int .i64 0,.int .i64 0,.int .i64 0,.int .i64 0,.int .i64 0,.int .i64 0,.bool false] 0) [] 89 0 w λv5 w_1=>
 zr 7 56 [.int .i64 0,.int .i64 0,.int .i64 0,.int .i64 0,.int .i64 0,.int .i64 0,.bool false] 89 v5 v0 w_1 λv7 w_2=>
 R v7 w_2)
theorem vc119(v0:Value)(w:World)(R:Value→World→Prop)(h:Vc119 v0 w R):za Tryz.prog 119 [v0] w R:=
 VV Tryz.func119 (by kernel_rfl) (by kernel_rfl) (by kernel_rfl) h
def Vc185(v0:Value)(w:World)(R:Value→World→Prop):Prop:=
 HEq (.slice 5) false v0 (.slice none 0 0) λv4=>
 HIf v4
 (R (.slice none 0 0) w)
 (zo (zrow [.int .u8 0] 0) [] 5 0 w λv5 w_1=>
 zr 1 1 [.int .u8 0] 5 v5 v0 w_1 λv7 w_2=>
 R v7 w_2)
theorem vc185(v0:Value)(w:World)(R:Value→World→Prop)(h:Vc185 v0 w R):za Tryz.prog 185 [v0] w R:=
 VV Tryz.func185 (by kernel_rfl) (by kernel_rfl) (by kernel_rfl) h
def Vc121(v0 v1:Value)(w:World)(R:Value→World→Prop):Prop:=
 ∃cs:List Value,v0= .agg cs.toArray∧zn cs 170 w λv2 w_1=>
 zc 0 v2 λv5=>
 HLd v5 w_1 λv6=>
 zd .geq v6 (.int .i64 0) λv7=>
 HIf v7
 (zc 0 v2 λv9=>
 HLd v9 w_1 λv10=>
 zd .lss v10 v1 λv12=>
 HIf v12
 (zc 1 v2 λv15=>
 HLd v15 w_1 λv16=>
 zd .geq v16 (.int .i64 1) λv17=>
 HIf v17
 (zc 1 v2 λv20=>
 HLd v20 w_1 λv21=>
 zd .leq v21 (.int .i64 1099511627776) λv22=>
 HIf v22
 (zc 3 v2 λv25=>
 HLd v25 w_1 λv26=>
 yM v26 λv27=>
 zd .leq v27 (.int .i64 32) λv28=>
 HIf v28
 (zc 2 v2 λv31=>
 HLd v31 w_1 λv32=>
 HIf v32
 (zc 3 v2 λv34=>
 HLd v34 w_1 λv35=>
 zd .neq v35 (.string {data:=#[]}) λv36=>
 zw v36 λv38=>
 R v38 w_1)
 (zw (.bool false) λv38_1=>
 R v38_1 w_1))
 (R (.bool false) w_1))
 (R (.bool false) w_1))
 (R (.bool false) w_1))
 (R (.bool false) w_1))
 (R (.bool false) w_1)
theorem vc121(v0 v1:Value)(w:World)(R:Value→World→Prop)(h:Vc121 v0 v1 w R):za Tryz.prog 121 [v0,v1] w R:=
 VV Tryz.func121 (by kernel_rfl) (by kernel_rfl) (by kernel_rfl) h
end Go.Proofs.YtnmhmnnadkclbaaGreat
