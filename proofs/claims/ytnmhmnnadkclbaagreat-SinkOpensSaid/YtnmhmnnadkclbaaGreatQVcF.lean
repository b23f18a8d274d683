/- Part of the proof (my own). -/
import Derived.Test.YtnmhmnnadkclbaaGreatQTab
namespace Go.Proofs.YtnmhmnnadkclbaaGreat
set_option linter.unusedVariables false
set_option maxRecDepth 100000
open Go.RowKit
def Vc224(v0 v1 v2 v3:Value)(w:World)(R:Value→World→Prop):Prop:=
 za Tryz.prog 250 [v0,v1] w λv16 w_1=>
 zm 0 v16 λv17=>
 zm 1 v16 λv18=>
 za Tryz.prog 251 [v0] w_1 λv20 w_2=>
 zw v20 λv21=>
 HIf v21
 (R (.tuple #[(.slice none 0 0),(.bool false)]) w_2)
 (zw v18 λv24=>
 HIf v24
 (R (.tuple #[(.slice none 0 0),(.bool false)]) w_2)
 (zk 7 v0 v17 λv30=>
 zc 4 v30 λv31=>
 HLd v31 w_2 λv32=>
 zd .lss v2 v32 λv33=>
 HIf v33
 (R (.tuple #[(.slice none 0 0),(.bool false)]) w_2)
 (zd .gtr v2 (.int .i64 1099511627776) λv37=>
 HIf v37
 (R (.tuple #[(.slice none 0 0),(.bool false)]) w_2)
 (zk 7 v0 v17 λv42=>
 zc 5 v42 λv43=>
 HLd v43 w_2 λv44=>
 zd .geq v44 (.int .i64 1099511627776) λv45=>
 HIf v45
 (R (.tuple #[(.slice none 0 0),(.bool false)]) w_2)
 (za Tryz.prog 119 [v0] w_2 λv48 w_3=>
 zk 7 v48 v17 λv55=>
 zc 4 v55 λv56=>
 HSt v56 v2 w_3 λw_4=>
 zk 7 v48 v17 λv57=>
 zc 6 v57 λv58=>
 HSt v58 v3 w_4 λw_5=>
 zk 7 v48 v17 λv61=>
 zc 5 v61 λv62=>
 HLd v62 w_5 λv63=>
 zd .add v63 (.int .i64 1) λv64=>
 zk 7 v48 v17 λv65=>
 zc 5 v65 λv66=>
 HSt v66 v64 w_5 λw_6=>
 R (.tuple #[v48,(.bool true)]) w_6)))))
theorem vc224(v0 v1 v2 v3:Value)(w:World)(R:Value→World→Prop)(h:Vc224 v0 v1 v2 v3 w R):za Tryz.prog 224 [v0,v1,v2,v3] w R:=
 VV Tryz.func224 (by kernel_rfl) (by kernel_rfl) (by kernel_rfl) h
def Vc225(v0 v1 v2 v3:Value)(w:World)(R:Value→World→Prop):Prop:=
 za Tryz.prog 119 [v0] w λv12 w_1=>
 zh v0 λv14=>
 zd .add v14 (.int .i64 1) λv15=>
 zt [.int .i64 0,.int .i64 0,.int .i64 0,.int .i64 0,.int .i64 0,.int .i64 0,.bool false] [(0,1,v15),(1,1,v1),(2,1,v2),(3,1,v3)] λv19=>
 zo (zrow [.int .i64 0,.int .i64 0,.int .i64 0,.int .i64 0,.int .i64 0,.int .i64 0,.bool false] 1) [(0,7,v19)] 89 1 w_1 λv20 w_2=>
 zr 7 56 [.int .i64 0,.int .i64 0,.int .i64 0,.int .i64 0,.int .i64 0,.int .i64 0,.bool false] 89 v12 v20 w_2 λv21 w_3=>
 za Tryz.prog 251 [v0] w_3 λv23 w_4=>
 zw v23 λv24=>
 HIf v24
 (R (.tuple #[(.slice none 0 0),(.bool false)]) w_4)
 (za Tryz.prog 251 [v21] w_4 λv27 w_5=>
 zw v27 λv28=>
 HIf v28
 (R (.tuple #[(.slice none 0 0),(.bool false)]) w_5)
 (R (.tuple #[v21,(.bool true)]) w_5))
theorem vc225(v0 v1 v2 v3:Value)(w:World)(R:Value→World→Prop)(h:Vc225 v0 v1 v2 v3 w R):za Tryz.prog 225 [v0,v1,v2,v3] w R:=
 VV Tryz.func225 (by kernel_rfl) (by kernel_rfl) (by kernel_rfl) h
def Vc250(v0 v1:Value)(w:World)(R:Value→World→Prop):Prop:=
 zl w λw_1=>
 zd .sub v1 (.int .i64 1) λv7=>
 zd .geq v1 (.int .i64 1) λv9=>
 HIf v9
 (zh v0 λv13=>
 zd .leq v1 v13 λv14=>
 HIf v14
 (zd .sub v1 (.int .i64 1) λv19=>
 zk 7 v0 v19 λv20=>
 zc 6 v20 λv21=>
 HLd v21 w_1 λv22=>
 zw v22 λv23=>
 HLd v21 w_1 λv22_1=>
 v22_1=v22 ∧
 R (.tuple #[v7,v23]) w_1)
 (R (.tuple #[v7,(.bool false)]) w_1))
 (R (.tuple #[v7,(.bool false)]) w_1)
theorem vc250(v0 v1:Value)(w:World)(R:Value→World→Prop)(h:Vc250 v0 v1 w R):za Tryz.prog 250 [v0,v1] w R:=
 VV Tryz.func250 (by kernel_rfl) (by kernel_rfl) (by kernel_rfl) h
def Vc251(v0:Value)(w:World)(R:Value→World→Prop):Prop:=
 za Tryz.prog 273 [v0] w λv4 w_1=>
 R v4 w_1
theorem vc251(v0:Value)(w:World)(R:Value→World→Prop)(h:Vc251 v0 w R):za Tryz.prog 251 [v0] w R:=
 VV Tryz.func251 (by kernel_rfl) (by kernel_rfl) (by kernel_rfl) h
def Vc273(v0:Value)(w:World)(R:Value→World→Prop):Prop:=
 zn [.bool false,.bool false,.bool false,.bool false,.bool false,.bool false,.bool false,.bool false] 379 w λv3 w_1=>
 zh v0 λv8=>
 ∃(I:List Value→World→Prop) (μ:List Value→World→Nat),I [(.int .i64 0),(.int .i64 0)] w_1 ∧
 ∀(v4 v9:Value) w_2,I [v4,v9] w_2 →
 zd .lss v9 v8 λv10=>
 HIf v10
 (zk 7 v0 v9 λv12=>
 zj 7 v12 w_2 λv13=>
 zn [.int .i64 0,.int .i64 0,.int .i64 0,.int .i64 0,.int .i64 0,.int .i64 0,.bool false] 89 w_2 λv6 w_3=>
 zp 7 v6 v13 w_3 λw_4=>
 zc 0 v6 λv14=>
 HLd v14 w_4 λv15=>
 zd .add v9 (.int .i64 1) λv17=>
 zd .neq v15 v17 λv18=>
 HIf v18
 (R (.bool false) w_4)
 (zj 7 v6 w_4 λv20=>
 za Tryz.prog 293 [v20,v4] w_4 λv22 w_5=>
 zw v22 λv23=>
 HIf v23
 (R (.bool false) w_5)
 (zc 1 v6 λv26=>
 HLd v26 w_5 λv27=>
 YA 1 8 v3 v27 λv28=>
 HLd v28 w_5 λv29=>
 HIf v29
 (R (.bool false) w_5)
 (zl w_5 λw_6=>
 zc 1 v6 λv31=>
 HLd v31 w_6 λv32=>
 zc 3 v6 λv33=>
 HLd v33 w_6 λv34=>
 zc 6 v6 λv35=>
 HLd v35 w_6 λv36=>
 zw v36 λv37=>
 HLd v31 w_6 λv32_1=>
 v32_1=v32 ∧
 HLd v35 w_6 λv36_1=>
 v36_1=v36 ∧
 YA 1 8 v3 v32 λv38=>
 HSt v38 v37 w_6 λw_7=>
 zd .add v9 (.int .i64 1) λv39=>
 I [v34,v39] w_7∧μ [v34,v39] w_7<μ [v4,v9] w_2))))
 (zh v0 λv41=>
 zd .leq v41 (.int .i64 64) λv42=>
 R v42 w_2)
theorem vc273(v0:Value)(w:World)(R:Value→World→Prop)(h:Vc273 v0 w R):za Tryz.prog 273 [v0] w R:=
 VJ [(4,[4,9],[0,3,7,8])] [] Tryz.func273 (by kernel_rfl) (by kernel_rfl) (by kernel_rfl) h
def Vc293(v0 v1:Value)(w:World)(R:Value→World→Prop):Prop:=
 ∃cs:List Value,v0= .agg cs.toArray∧zn cs 89 w λv2 w_1=>
 zc 1 v2 λv5=>
 HLd v5 w_1 λv6=>
 zd .geq v6 (.int .i64 0) λv7=>
 HIf v7
 (zc 1 v2 λv9=>
 HLd v9 w_1 λv10=>
 zd .lss v10 (.int .i64 8) λv11=>
 HIf v11
 (zc 2 v2 λv14=>
 HLd v14 w_1 λv15=>
 zd .geq v15 (.int .i64 1) λv16=>
 HIf v16
 (zc 2 v2 λv19=>
 HLd v19 w_1 λv20=>
 zd .leq v20 (.int .i64 8) λv21=>
 HIf v21
 (zc 3 v2 λv24=>
 HLd v24 w_1 λv25=>
 qq v1 (.int .i64 1) λv27=>
 zd .geq v25 v27 λv28=>
 HIf v28
 (zc 3 v2 λv31=>
 HLd v31 w_1 λv32=>
 zd .leq v32 (.int .i64 1099511627776) λv33=>
 HIf v33
 (zc 4 v2 λv36=>
 HLd v36 w_1 λv37=>
 zd .geq v37 (.int .i64 0) λv38=>
 HIf v38
 (zc 4 v2 λv41=>
 HLd v41 w_1 λv42=>
 zd .leq v42 (.int .i64 1099511627776) λv43=>
 HIf v43
 (zc 5 v2 λv46=>
 HLd v46 w_1 λv47=>
 zd .geq v47 (.int .i64 0) λv48=>
 HIf v48
 (zc 5 v2 λv51=>
 HLd v51 w_1 λv52=>
 zd .leq v52 (.int .i64 1099511627776) λv53=>
 R v53 w_1)
 (R (.bool false) w_1))
 (R (.bool false) w_1))
 (R (.bool false) w_1))
 (R (.bool false) w_1))
 (R (.bool false) w_1))
 (R (.bool false) w_1))
 (R (.bool false) w_1))
 (R (.bool false) w_1))
 (R (.bool false) w_1)
theorem vc293(v0 v1:Value)(w:World)(R:Value→World→Prop)(h:Vc293 v0 v1 w R):za Tryz.prog 293 [v0,v1] w R:=
 VV Tryz.func293 (by kernel_rfl) (by kernel_rfl) (by kernel_rfl) h
def Vc160(v0:Value)(w:World)(R:Value→World→Prop):Prop:=
 ∃(I:List Value→World→Prop) (μ:List Value→World→Nat),I [(.slice none 0 0),(.int .i64 0)] w ∧
 ∀(v3 v4:Value) w_1,I [v3,v4] w_1 →
 zh v0 λv7=>
 zd .lss v4 v7 λv8=>
 HIf v8
 (zk 7 v0 v4 λv13=>
 zc 6 v13 λv14=>
 HLd v14 w_1 λv15=>
 zw v15 λv16=>
 HIf v16
 (zk 7 v0 v4 λv20=>
 zj 7 v20 w_1 λv21=>
 zo (zrow [.int .i64 0,.int .i64 0,.int .i64 0,.int .i64 0,.int .i64 0,.int .i64 0,.bool false] 1) [(0,7,v21)] 89 1 w_1 λv22 w_2=>
 zr 7 56 [.int .i64 0,.int .i64 0,.int .i64 0,.int .i64 0,.int .i64 0,.int .i64 0,.bool false] 89 v3 v22 w_2 λv23 w_3=>
 zd .add v4 (.int .i64 1) λv10=>
 I [v23,v10] w_3∧μ [v23,v10] w_3<μ [v3,v4] w_1)
 (zd .add v4 (.int .i64 1) λv10_1=>
 I [v3,v10_1] w_1∧μ [v3,v10_1] w_1<μ [v3,v4] w_1))
 (R v3 w_1)
theorem vc160(v0:Value)(w:World)(R:Value→World→Prop)(h:Vc160 v0 w R):za Tryz.prog 160 [v0] w R:=
 VJ [(3,[3,4],[0])] [] Tryz.func160 (by kernel_rfl) (by kernel_rfl) (by kernel_rfl) h
def Vc161(v0 v1 v2 v3:Value)(w:World)(R:Value→World→Prop):Prop:=
 zo (zrow [.int .i64 0,.int .i64 0,.int .i64 0,.int .i64 0,.int .i64 0,.int .i64 0,.bool false] 0) [] 89 0 w λv11 w_1=>
 zr 7 56 [.int .i64 0,.int .i64 0,.int .i64 0,.int .i64 0,.int .i64 0,.int .i64 0,.bool false] 89 v11 v0 w_1 λv13 w_2=>
 zh v0 λv16=>
 zd .add v16 (.int .i64 1) λv17=>
 zt [.int .i64 0,.int .i64 0,.int .i64 0,.int .i64 0,.int .i64 0,.int .i64 0,.bool false] [(0,1,v17),(1,1,v1),(2,1,v2),(3,1,v3)] λv21=>
 zo (zrow [.int .i64 0,.int .i64 0,.int .i64 0,.int .i64 0,.int .i64 0,.int .i64 0,.bool false] 1) [(0,7,v21)] 89 1 w_2 λv22 w_3=>
 zr 7 56 [.int .i64 0,.int .i64 0,.int .i64 0,.int .i64 0,.int .i64 0,.int .i64 0,.bool false] 89 v13 v22 w_3 λv23 w_4=>
 za Tryz.prog 208 [v0] w_4 λv25 w_5=>
 zw v25 λv26=>
 HIf v26
 (R (.tuple #[(.slice none 0 0),(.bool false)]) w_5)
 (za Tryz.prog 208 [v23] w_5 λv29 w_6=>
 zw v29 λv30=>
 HIf v30
 (R (.tuple #[(.slice none 0 0),(.bool false)]) w_6)
 (R (.tuple #[v23,(.bool true)]) w_6))
theorem vc161(v0 v1 v2 v3:Value)(w:World)(R:Value→World→Prop)(h:Vc161 v0 v1 v2 v3 w R):za Tryz.prog 161 [v0,v1,v2,v3] w R:=
 VV Tryz.func161 (by kernel_rfl) (by kernel_rfl) (by kernel_rfl) h
def Vc162(v0 v1 v2 v3:Value)(w:World)(R:Value→World→Prop):Prop:=
 za Tryz.prog 208 [v0] w λv13 w_1=>
 zw v13 λv14=>
 HIf v14
 (R (.tuple #[(.slice none 0 0),(.bool false)]) w_1)
 (zd .lss v1 (.int .i64 1) λv17=>
 HIf v17
 (R (.tuple #[(.slice none 0 0),(.bool false)]) w_1)
 (zh v0 λv22=>
 zd .gtr v1 v22 λv23=>
 HIf v23
 (R (.tuple #[(.slice none 0 0),(.bool false)]) w_1)
 (zd .sub v1 (.int .i64 1) λv27=>
 zk 7 v0 v27 λv28=>
 zj 7 v28 w_1 λv29=>
 zn [.int .i64 0,.int .i64 0,.int .i64 0,.int .i64 0,.int .i64 0,.int .i64 0,.bool false] 89 w_1 λv10 w_2=>
 zp 7 v10 v29 w_2 λw_3=>
 zc 6 v10 λv30=>
 HLd v30 w_3 λv31=>
 HIf v31
 (R (.tuple #[(.slice none 0 0),(.bool false)]) w_3)
 (zc 4 v10 λv34=>
 HLd v34 w_3 λv35=>
 zd .lss v2 v35 λv36=>
 HIf v36
 (R (.tuple #[(.slice none 0 0),(.bool false)]) w_3)
 (zd .gtr v2 (.int .i64 1099511627776) λv40=>
 HIf v40
 (R (.tuple #[(.slice none 0 0),(.bool false)]) w_3)
 (zc 5 v10 λv43=>
 HLd v43 w_3 λv44=>
 zd .eql v44 (.int .i64 1099511627776) λv45=>
 HIf v45
 (R (.tuple #[(.slice none 0 0),(.bool false)]) w_3)
 (zo (zrow [.int .i64 0,.int .i64 0,.int .i64 0,.int .i64 0,.int .i64 0,.int .i64 0,.bool false] 0) [] 89 0 w_3 λv47 w_4=>
 zr 7 56 [.int .i64 0,.int .i64 0,.int .i64 0,.int .i64 0,.int .i64 0,.int .i64 0,.bool false] 89 v47 v0 w_4 λv49 w_5=>
 zc 4 v10 λv51=>
 HSt v51 v2 w_5 λw_6=>
 zc 5 v10 λv52=>
 HLd v52 w_6 λv53=>
 zd .add v53 (.int .i64 1) λv54=>
 zc 5 v10 λv55=>
 HSt v55 v54 w_6 λw_7=>
 zc 6 v10 λv57=>
 HSt v57 v3 w_7 λw_8=>
 zd .sub v1 (.int .i64 1) λv60=>
 zj 7 v10 w_8 λv61=>
 zk 7 v49 v60 λv62=>
 zp 7 v62 v61 w_8 λw_9=>
 R (.tuple #[v49,(.bool true)]) w_9)))))))
theorem vc162(v0 v1 v2 v3:Value)(w:World)(R:Value→World→Prop)(h:Vc162 v0 v1 v2 v3 w R):za Tryz.prog 162 [v0,v1,v2,v3] w R:=
 VV Tryz.func162 (by kernel_rfl) (by kernel_rfl) (by kernel_rfl) h
def Vc208(v0:Value)(w:World)(R:Value→World→Prop):Prop:=
 zh v0 λv7=>
 zd .gtr v7 (.int .i64 64) λv8=>
 HIf v8
 (R (.bool false) w)
 (∃(I:List Value→World→Prop) (μ:List Value→World→Nat),I [(.int .i64 0)] w ∧
 ∀(v3:Value) w_1,I [v3] w_1 →
 zh v0 λv11=>
 zd .lss v3 v11 λv12=>
 HIf v12
 (zk 7 v0 v3 λv17=>
 zj 7 v17 w_1 λv18=>
 zn [.int .i64 0,.int .i64 0,.int .i64 0,.int .i64 0,.int .i64 0,.int .i64 0,.bool false] 89 w_1 λv4 w_2=>
 zp 7 v4 v18 w_2 λw_3=>
 ∃I_1:List Value→World→Prop,(zl w_3 λw_4=>
 zc 0 v4 λv19=>
 HLd v19 w_4 λv20=>
 zd .add v3 (.int .i64 1) λv22=>
 zd .neq v20 v22 λv23=>
 HIf v23
 (R (.bool false) w_4)
 (zc 1 v4 λv25=>
 HLd v25 w_4 λv26=>
 zd .lss v26 (.int .i64 0) λv27=>
 HIf v27
 (R (.bool false) w_4)
 (zc 1 v4 λv30=>
 HLd v30 w_4 λv31=>
 zd .geq v31 (.int .i64 8) λv32=>
 HIf v32
 (R (.bool false) w_4)
 (zc 2 v4 λv35=>
 HLd v35 w_4 λv36=>
 zd .lss v36 (.int .i64 1) λv37=>
 HIf v37
 (R (.bool false) w_4)
 (zc 2 v4 λv40=>
 HLd v40 w_4 λv41=>
 zd .gtr v41 (.int .i64 8) λv42=>
 HIf v42
 (R (.bool false) w_4)
 (zc 3 v4 λv45=>
 HLd v45 w_4 λv46=>
 zd .lss v46 (.int .i64 1) λv47=>
 HIf v47
 (R (.bool false) w_4)
 (zc 3 v4 λv50=>
 HLd v50 w_4 λv51=>
 zd .gtr v51 (.int .i64 1099511627776) λv52=>
 HIf v52
 (R (.bool false) w_4)
 (zd .gtr v3 (.int .i64 0) λv56=>
 HIf v56
 (zc 3 v4 λv58=>
 HLd v58 w_4 λv59=>
 zd .sub v3 (.int .i64 1) λv62=>
 zk 7 v0 v62 λv63=>
 zc 3 v63 λv64=>
 HLd v64 w_4 λv65=>
 zd .lss v59 v65 λv66=>
 HIf v66
 (R (.bool false) w_4)
 (I_1 [] w_4))
 (I_1 [] w_4))))))))) ∧
 ∀w_5,I_1 [] w_5 →
 zc 4 v4 λv69=>
 HLd v69 w_5 λv70=>
 zd .lss v70 (.int .i64 0) λv71=>
 HIf v71
 (R (.bool false) w_5)
 (zc 4 v4 λv73=>
 HLd v73 w_5 λv74=>
 zd .gtr v74 (.int .i64 1099511627776) λv75=>
 HIf v75
 (R (.bool false) w_5)
 (zc 5 v4 λv78=>
 HLd v78 w_5 λv79=>
 zd .lss v79 (.int .i64 0) λv80=>
 HIf v80
 (R (.bool false) w_5)
 (zc 5 v4 λv83=>
 HLd v83 w_5 λv84=>
 zd .gtr v84 (.int .i64 1099511627776) λv85=>
 HIf v85
 (R (.bool false) w_5)
 (∃(I_2:List Value→World→Prop) (μ_1:List Value→World→Nat),I_2 [(.int .i64 0)] w_5 ∧
 ∀(v5:Value) w_6,I_2 [v5] w_6 →
 zd .lss v5 v3 λv89=>
 HIf v89
 (zl w_6 λw_7=>
 zk 7 v0 v5 λv94=>
 zc 1 v94 λv95=>
 HLd v95 w_7 λv96=>
 zc 1 v4 λv97=>
 HLd v97 w_7 λv98=>
 zd .eql v96 v98 λv99=>
 HIf v99
 (zk 7 v0 v5 λv103=>
 zc 6 v103 λv104=>
 HLd v104 w_7 λv105=>
 zw v105 λv106=>
 HIf v106
 (R (.bool false) w_7)
 (zd .add v5 (.int .i64 1) λv91=>
 I_2 [v91] w_7∧μ_1 [v91] w_7<μ_1 [v5] w_6))
 (zd .add v5 (.int .i64 1) λv91_1=>
 I_2 [v91_1] w_7∧μ_1 [v91_1] w_7<μ_1 [v5] w_6))
 (zd .add v3 (.int .i64 1) λv14=>
 I [v14] w_6∧μ [v14] w_6<μ [v3] w_1))))))
 (R (.bool true) w_1))
theorem vc208(v0:Value)(w:World)(R:Value→World→Prop)(h:Vc208 v0 w R):za Tryz.prog 208 [v0] w R:=
 VJ [(4,[3],[0]),(12,[5],[0,3,4])] [(9,[],[0,3,4])] Tryz.func208 (by kernel_rfl) (by kernel_rfl) (by kernel_rfl) h
end Go.Proofs.YtnmhmnnadkclbaaGreat
