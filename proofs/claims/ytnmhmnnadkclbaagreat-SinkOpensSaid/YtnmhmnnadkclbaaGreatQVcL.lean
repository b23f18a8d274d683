/- Part of the proof (my own). -/
import Derived.Test.YtnmhmnnadkclbaaGreatQTab
namespace Go.Proofs.YtnmhmnnadkclbaaGreat
set_option linter.unusedVariables false
set_option maxRecDepth 100000
open Go.RowKit
def Vc91(v0 v1 v2:Value)(w:World)(R:Value→World→Prop):Prop:=
 zd .lss v1 (.int .i64 0) λv18=>
 HIf v18
 (R (.tuple #[(.pointer none),(.int .i64 1)]) w)
 (zd .gtr v1 (.int .i64 12288) λv21=>
 HIf v21
 (R (.tuple #[(.pointer none),(.int .i64 1)]) w)
 (zd .lss v2 (.int .i64 64) λv25=>
 HIf v25
 (R (.tuple #[(.pointer none),(.int .i64 1)]) w)
 (zd .gtr v2 (.int .i64 65536) λv29=>
 HIf v29
 (R (.tuple #[(.pointer none),(.int .i64 1)]) w)
 (za Tryz.prog 102 [v0] w λv33 w_1=>
 HIf v33
 (R (.tuple #[(.pointer none),(.int .i64 8)]) w_1)
 (zt [.slice none 0 0,.pointer none,.int .i64 0,.int .i64 0,.pointer none] [(1,1,v0),(2,1,v1),(3,1,v2)] λv37=>
 ∃cs:List Value,v37= .agg cs.toArray∧zn cs 201 w_1 λv38 w_2=>
 za Tryz.prog 168 [v38] w_2 λv40 w_3=>
 zh v40 λv42=>
 ∃(I:List Value→World→Prop) (μ:List Value→World→Nat),I [(.bool true),(.int .i64 0)] w_3 ∧
 ∀(v10 v43:Value) w_4,I [v10,v43] w_4 →
 zd .lss v43 v42 λv44=>
 HIf v44
 (zk 1 v40 v43 λv46=>
 HLd v46 w_4 λv47=>
 zh v40 λv53=>
 zd .sub v53 (.int .i64 1) λv54=>
 zd .eql v43 v54 λv55=>
 za Tryz.prog 169 [v38,v47,v55] w_4 λv56 w_5=>
 zm 0 v56 λv57=>
 zm 1 v56 λv58=>
 zw v58 λv60=>
 HIf v60
 (R (.tuple #[(.pointer none),(.int .i64 3)]) w_5)
 (zd .gtr v43 (.int .i64 0) λv63=>
 HIf v63
 (zd .sub v43 (.int .i64 1) λv68=>
 zk 1 v40 v68 λv69=>
 HLd v69 w_5 λv70=>
 zd .add v70 (.int .i64 1) λv71=>
 zd .neq v47 v71 λv72=>
 HIf v72
 (R (.tuple #[(.pointer none),(.int .i64 3)]) w_5)
 (zd .add v43 (.int .i64 1) λv76=>
 I [v57,v76] w_5∧μ [v57,v76] w_5<μ [v10,v43] w_4))
 (zd .add v43 (.int .i64 1) λv76_1=>
 I [v57,v76_1] w_5∧μ [v57,v76_1] w_5<μ [v10,v43] w_4)))
 (za Tryz.prog 170 [v38,v40,v10] w_4 λv80 w_6=>
 zd .neq v80 (.int .i64 0) λv82=>
 HIf v82
 (R (.tuple #[(.pointer none),v80]) w_6)
 (R (.tuple #[v38,(.int .i64 0)]) w_6)))))))
theorem vc91(v0 v1 v2:Value)(w:World)(R:Value→World→Prop)(h:Vc91 v0 v1 v2 w R):za Tryz.prog 91 [v0,v1,v2] w R:=
 VJ [(9,[10,43],[8,9,41,42])] [] Tryz.func91 (by kernel_rfl) (by kernel_rfl) (by kernel_rfl) h
def Vc105(v0 v1 v2:Value)(w:World)(R:Value→World→Prop):Prop:=
 zd .lss v2 (.int .i64 0) λv10=>
 HIf v10
 (R (.int .i64 1) w)
 (za Tryz.prog 184 [v0,v1] w λv14 w_1=>
 zm 0 v14 λv15=>
 zm 1 v14 λv16=>
 zn [.int .i64 0,.bool false,.slice none 0 0] 284 w_1 λv7 w_2=>
 zp 3 v7 v15 w_2 λw_3=>
 ∃I:List Value→World→Prop,(zd .eql v16 (.int .i64 0) λv18=>
 HIf v18
 (zl w_3 λw_4=>
 zg v0 λv20=>
 zc 1 v20 λv21=>
 HLd v21 w_4 λv22=>
 zc 0 v7 λv23=>
 HLd v23 w_4 λv24=>
 zc 2 v7 λv25=>
 HLd v25 w_4 λv26=>
 zc 2 v7 λv28=>
 HLd v28 w_4 λv29=>
 zh v29 λv30=>
 zd .rem v2 v30 λv31=>
 HSl 1 v26 none (some v31) none λv32=>
 za Tryz.prog 21 [v22,v24,v32] w_4 λv33 w_5=>
 I [v33] w_5)
 (I [v16] w_3)) ∧
 ∀(v8:Value) w_6,I [v8] w_6 →
 zd .neq v8 (.int .i64 0) λv35=>
 HIf v35
 (R v8 w_6)
 (zc 0 v7 λv38=>
 HLd v38 w_6 λv39=>
 zc 1 v7 λv40=>
 HLd v40 w_6 λv41=>
 zt [.int .i64 0,.int .i64 0,.bool false] [(0,1,v39),(2,1,v41)] λv42=>
 ∃cs:List Value,v42= .agg cs.toArray∧zn cs 288 w_6 λv43 w_7=>
 zg v0 λv44=>
 zc 4 v44 λv45=>
 HSt v45 v43 w_7 λw_8=>
 zc 1 v7 λv46=>
 HLd v46 w_8 λv47=>
 zw v47 λv48=>
 HIf v48
 (zl w_8 λw_9=>
 zg v0 λv50=>
 zc 4 v50 λv51=>
 HLd v51 w_9 λv52=>
 zg v0 λv54=>
 zc 0 v54 λv55=>
 zc 0 v55 λv56=>
 HLd v56 w_9 λv57=>
 zg v0 λv59=>
 zc 0 v59 λv60=>
 zc 0 v60 λv61=>
 HLd v61 w_9 λv62=>
 zh v62 λv63=>
 zd .sub v63 (.int .i64 1) λv64=>
 zk 4 v57 v64 λv65=>
 zc 2 v65 λv66=>
 HLd v66 w_9 λv67=>
 zg v52 λv68=>
 zc 1 v68 λv69=>
 HSt v69 v67 w_9 λw_10=>
 R (.int .i64 0) w_10)
 (R (.int .i64 0) w_8)))
theorem vc105(v0 v1 v2:Value)(w:World)(R:Value→World→Prop)(h:Vc105 v0 v1 v2 w R):za Tryz.prog 105 [v0,v1,v2] w R:=
 VJ [] [(6,[8],[0,7])] Tryz.func105 (by kernel_rfl) (by kernel_rfl) (by kernel_rfl) h
def Vc106(v0 v1:Value)(w:World)(R:Value→World→Prop):Prop:=
 za Tryz.prog 184 [v0,v1] w λv12 w_1=>
 zm 0 v12 λv13=>
 zm 1 v12 λv14=>
 zn [.int .i64 0,.bool false,.slice none 0 0] 284 w_1 λv6 w_2=>
 zp 3 v6 v13 w_2 λw_3=>
 ∃I:List Value→World→Prop,(zd .eql v14 (.int .i64 0) λv16=>
 HIf v16
 (zl w_3 λw_4=>
 zg v0 λv18=>
 zc 1 v18 λv19=>
 HLd v19 w_4 λv20=>
 zc 0 v6 λv21=>
 HLd v21 w_4 λv22=>
 zc 2 v6 λv23=>
 HLd v23 w_4 λv24=>
 za Tryz.prog 21 [v20,v22,v24] w_4 λv25 w_5=>
 I [v25] w_5)
 (I [v14] w_3)) ∧
 ∀(v7:Value) w_6,I [v7] w_6 →
 ∃I_1:List Value→World→Prop,(zd .eql v7 (.int .i64 0) λv27=>
 HIf v27
 (zl w_6 λw_7=>
 zg v0 λv29=>
 zc 1 v29 λv30=>
 HLd v30 w_7 λv31=>
 zc 0 v6 λv32=>
 HLd v32 w_7 λv33=>
 za Tryz.prog 22 [v31,v33] w_7 λv34 w_8=>
 I_1 [v34] w_8)
 (I_1 [v7] w_6)) ∧
 ∀(v7_1:Value) w_9,I_1 [v7_1] w_9 →
 zd .neq v7_1 (.int .i64 0) λv36=>
 HIf v36
 (R (.tuple #[(.int .i64 0),v7_1]) w_9)
 (∃I_2:List Value→World→Prop,(zc 1 v6 λv38=>
 HLd v38 w_9 λv39=>
 HIf v39
 (zl w_9 λw_10=>
 zg v0 λv42=>
 zc 0 v42 λv43=>
 zc 0 v43 λv44=>
 HLd v44 w_10 λv45=>
 zc 0 v6 λv46=>
 HLd v46 w_10 λv47=>
 zg v0 λv49=>
 zc 0 v49 λv50=>
 za Tryz.prog 110 [v50] w_10 λv51 w_11=>
 HLd v44 w_11 λv45_1=>
 v45_1=v45 ∧
 HLd v46 w_11 λv47_1=>
 v47_1=v47 ∧
 zd .add v51 (.int .i64 1) λv52=>
 zt [.int .i64 0,.int .i64 0,.int .i64 0,.slice none 0 0] [(0,1,v47),(1,1,v52)] λv53=>
 zo (zrow [.int .i64 0,.int .i64 0,.int .i64 0,.slice none 0 0] 1) [(0,4,v53)] 290 1 w_11 λv54 w_12=>
 HLd v44 w_12 λv45_2=>
 v45_2=v45 ∧
 zr 4 48 [.int .i64 0,.int .i64 0,.int .i64 0,.slice none 0 0] 290 v45 v54 w_12 λv55 w_13=>
 zg v0 λv56=>
 zc 0 v56 λv57=>
 zc 0 v57 λv58=>
 HSt v58 v55 w_13 λw_14=>
 I_2 [] w_14)
 (I_2 [] w_9)) ∧
 ∀w_15,I_2 [] w_15 →
 zl w_15 λw_16=>
 zg v0 λv60=>
 zc 0 v60 λv61=>
 zc 0 v61 λv62=>
 HLd v62 w_16 λv63=>
 zg v0 λv65=>
 zc 0 v65 λv66=>
 zc 0 v66 λv67=>
 HLd v67 w_16 λv68=>
 zh v68 λv69=>
 zd .sub v69 (.int .i64 1) λv70=>
 zk 4 v63 v70 λv71=>
 zl w_16 λw_17=>
 zg v71 λv73=>
 zc 2 v73 λv74=>
 HLd v74 w_17 λv75=>
 zc 2 v6 λv76=>
 HLd v76 w_17 λv77=>
 zh v77 λv78=>
 zd .add v75 v78 λv79=>
 zg v71 λv80=>
 zc 2 v80 λv81=>
 HSt v81 v79 w_17 λw_18=>
 zl w_18 λw_19=>
 zg v71 λv84=>
 zc 3 v84 λv85=>
 HLd v85 w_19 λv86=>
 za Tryz.prog 185 [v1] w_19 λv88 w_20=>
 HLd v85 w_20 λv86_1=>
 v86_1=v86 ∧
 zo (zrow [.slice none 0 0] 1) [(0,1,v88)] 54 1 w_20 λv89 w_21=>
 HLd v85 w_21 λv86_2=>
 v86_2=v86 ∧
 zr 1 24 [.slice none 0 0] 54 v86 v89 w_21 λv90 w_22=>
 zg v71 λv91=>
 zc 3 v91 λv92=>
 HSt v92 v90 w_22 λw_23=>
 zg v0 λv94=>
 zc 0 v94 λv95=>
 za Tryz.prog 110 [v95] w_23 λv96 w_24=>
 R (.tuple #[v96,(.int .i64 0)]) w_24)
theorem vc106(v0 v1:Value)(w:World)(R:Value→World→Prop)(h:Vc106 v0 v1 w R):za Tryz.prog 106 [v0,v1] w R:=
 VJ [] [(4,[7],[0,1,6]),(6,[7],[0,1,6]),(10,[],[0,1,6])] Tryz.func106 (by kernel_rfl) (by kernel_rfl) (by kernel_rfl) h
def Vc110(v0:Value)(w:World)(R:Value→World→Prop):Prop:=
 zg v0 λv4=>
 zc 0 v4 λv5=>
 HLd v5 w λv6=>
 zh v6 λv7=>
 zd .eql v7 (.int .i64 0) λv8=>
 HIf v8
 (R (.int .i64 0) w)
 (zl w λw_1=>
 zg v0 λv10=>
 zc 0 v10 λv11=>
 HLd v11 w_1 λv12=>
 zg v0 λv14=>
 zc 0 v14 λv15=>
 HLd v15 w_1 λv16=>
 zh v16 λv17=>
 zd .sub v17 (.int .i64 1) λv18=>
 zk 4 v12 v18 λv19=>
 zj 4 v19 w_1 λv20=>
 za Tryz.prog 189 [v20] w_1 λv21 w_2=>
 zd .sub v21 (.int .i64 1) λv22=>
 R v22 w_2)
theorem vc110(v0:Value)(w:World)(R:Value→World→Prop)(h:Vc110 v0 w R):za Tryz.prog 110 [v0] w R:=
 VV Tryz.func110 (by kernel_rfl) (by kernel_rfl) (by kernel_rfl) h
def Vc111(v0:Value)(w:World)(R:Value→World→Prop):Prop:=
 zg v0 λv4=>
 zc 0 v4 λv5=>
 HLd v5 w λv6=>
 zh v6 λv7=>
 zd .eql v7 (.int .i64 0) λv8=>
 HIf v8
 (R (.int .i64 1) w)
 (zg v0 λv10=>
 zc 0 v10 λv11=>
 HLd v11 w λv12=>
 zk 4 v12 (.int .i64 0) λv13=>
 zc 1 v13 λv14=>
 HLd v14 w λv15=>
 R v15 w)
theorem vc111(v0:Value)(w:World)(R:Value→World→Prop)(h:Vc111 v0 w R):za Tryz.prog 111 [v0] w R:=
 VV Tryz.func111 (by kernel_rfl) (by kernel_rfl) (by kernel_rfl) h
def Vc168(v0:Value)(w:World)(R:Value→World→Prop):Prop:=
 zg v0 λv7=>
 zc 1 v7 λv8=>
 HLd v8 w λv9=>
 za Tryz.prog 108 [v9] w λv10 w_1=>
 zh v10 λv11=>
 ∃(I:List Value→World→Prop) (μ:List Value→World→Nat),I [(.slice none 0 0),(.int .i64 0)] w_1 ∧
 ∀(v3 v12:Value) w_2,I [v3,v12] w_2 →
 zd .lss v12 v11 λv13=>
 HIf v13
 (zk 1 v10 v12 λv14=>
 HLd v14 w_2 λv15=>
 zg v0 λv18=>
 zc 2 v18 λv19=>
 HLd v19 w_2 λv20=>
 zd .geq v15 v20 λv21=>
 HIf v21
 (zg v0 λv25=>
 zc 2 v25 λv26=>
 HLd v26 w_2 λv27=>
 zd .add v27 (.int .i64 4096) λv28=>
 zd .lss v15 v28 λv29=>
 HIf v29
 (zo (zrow [.int .i64 0] 1) [(0,1,v15)] 3 1 w_2 λv33 w_3=>
 zr 1 8 [.int .i64 0] 3 v3 v33 w_3 λv34 w_4=>
 zd .add v12 (.int .i64 1) λv35=>
 I [v34,v35] w_4∧μ [v34,v35] w_4<μ [v3,v12] w_2)
 (zd .add v12 (.int .i64 1) λv35_1=>
 I [v3,v35_1] w_2∧μ [v3,v35_1] w_2<μ [v3,v12] w_2))
 (zd .add v12 (.int .i64 1) λv35_2=>
 I [v3,v35_2] w_2∧μ [v3,v35_2] w_2<μ [v3,v12] w_2))
 (R v3 w_2)
theorem vc168(v0:Value)(w:World)(R:Value→World→Prop)(h:Vc168 v0 w R):za Tryz.prog 168 [v0] w R:=
 VJ [(3,[3,12],[0,10,11])] [] Tryz.func168 (by kernel_rfl) (by kernel_rfl) (by kernel_rfl) h
def Vc169(v0 v1 v2:Value)(w:World)(R:Value→World→Prop):Prop:=
 zg v0 λv17=>
 zc 1 v17 λv18=>
 HLd v18 w λv19=>
 za Tryz.prog 126 [v19,v1] w λv21 w_1=>
 zm 0 v21 λv22=>
 zm 1 v21 λv23=>
 za Tryz.prog 211 [v22] w_1 λv26 w_2=>
 zm 0 v26 λv27=>
 zm 1 v26 λv28=>
 zm 2 v26 λv29=>
 zm 3 v26 λv30=>
 zd .neq v30 (.int .i64 0) λv32=>
 HIf v32
 (R (.tuple #[(.bool false),v2]) w_2)
 (zt [.int .i64 0,.int .i64 0,.int .i64 0,.slice none 0 0] [(0,1,v1),(1,1,v27),(2,1,v29),(3,1,v28)] λv38=>
 zn [.int .i64 0,.int .i64 0,.int .i64 0,.slice none 0 0] 290 w_2 λv14 w_3=>
 zp 4 v14 v38 w_3 λw_4=>
 ∃I:List Value→World→Prop,(zw v2 λv40=>
 HIf v40
 (zh v22 λv44=>
 zd .neq v29 v44 λv45=>
 HIf v45
 (I [(.bool true)] w_4)
 (zh v28 λv48=>
 zd .eql v48 (.int .i64 0) λv49=>
 HIf v49
 (I [(.bool true)] w_4)
 (zg v0 λv54=>
 zc 0 v54 λv55=>
 zc 0 v55 λv56=>
 HLd v56 w_4 λv57=>
 zh v57 λv58=>
 zd .gtr v58 (.int .i64 0) λv59=>
 HIf v59
 (zg v0 λv63=>
 zc 0 v63 λv64=>
 za Tryz.prog 110 [v64] w_4 λv65 w_5=>
 zd .add v65 (.int .i64 1) λv66=>
 zd .neq v27 v66 λv67=>
 HIf v67
 (I [(.bool true)] w_5)
 (zj 4 v14 w_5 λv71=>
 za Tryz.prog 189 [v71] w_5 λv72 w_6=>
 zd .sub v72 (.int .i64 1) λv73=>
 zd .gtr v73 (.int .i64 1099511627776) λv74=>
 I [v74] w_6))
 (zj 4 v14 w_4 λv71_1=>
 za Tryz.prog 189 [v71_1] w_4 λv72_1 w_7=>
 zd .sub v72_1 (.int .i64 1) λv73_1=>
 zd .gtr v73_1 (.int .i64 1099511627776) λv74_1=>
 I [v74_1] w_7))))
 (zg v0 λv54_1=>
 zc 0 v54_1 λv55_1=>
 zc 0 v55_1 λv56_1=>
 HLd v56_1 w_4 λv57_1=>
 zh v57_1 λv58_1=>
 zd .gtr v58_1 (.int .i64 0) λv59_1=>
 HIf v59_1
 (zg v0 λv63_1=>
 zc 0 v63_1 λv64_1=>
 za Tryz.prog 110 [v64_1] w_4 λv65_1 w_8=>
 zd .add v65_1 (.int .i64 1) λv66_1=>
 zd .neq v27 v66_1 λv67_1=>
 HIf v67_1
 (I [(.bool true)] w_8)
 (zj 4 v14 w_8 λv71_2=>
 za Tryz.prog 189 [v71_2] w_8 λv72_2 w_9=>
 zd .sub v72_2 (.int .i64 1) λv73_2=>
 zd .gtr v73_2 (.int .i64 1099511627776) λv74_2=>
 I [v74_2] w_9))
 (zj 4 v14 w_4 λv71_3=>
 za Tryz.prog 189 [v71_3] w_4 λv72_3 w_10=>
 zd .sub v72_3 (.int .i64 1) λv73_3=>
 zd .gtr v73_3 (.int .i64 1099511627776) λv74_3=>
 I [v74_3] w_10))) ∧
 ∀(v75:Value) w_11,I [v75] w_11 →
 HIf v75
 (R (.tuple #[(.bool true),(.bool false)]) w_11)
 (zl w_11 λw_12=>
 zg v0 λv78=>
 zc 0 v78 λv79=>
 zc 0 v79 λv80=>
 HLd v80 w_12 λv81=>
 zj 4 v14 w_12 λv82=>
 zo (zrow [.int .i64 0,.int .i64 0,.int .i64 0,.slice none 0 0] 1) [(0,4,v82)] 290 1 w_12 λv83 w_13=>
 HLd v80 w_13 λv81_1=>
 v81_1=v81 ∧
 zr 4 48 [.int .i64 0,.int .i64 0,.int .i64 0,.slice none 0 0] 290 v81 v83 w_13 λv84 w_14=>
 zg v0 λv85=>
 zc 0 v85 λv86=>
 zc 0 v86 λv87=>
 HSt v87 v84 w_14 λw_15=>
 R (.tuple #[(.bool true),(.bool true)]) w_15))
theorem vc169(v0 v1 v2:Value)(w:World)(R:Value→World→Prop)(h:Vc169 v0 v1 v2 w R):za Tryz.prog 169 [v0,v1,v2] w R:=
 VJ [] [(7,[75],[0,14])] Tryz.func169 (by kernel_rfl) (by kernel_rfl) (by kernel_rfl) h
def Vc170(v0 v1 v2:Value)(w:World)(R:Value→World→Prop):Prop:=
 zh v1 λv10=>
 zd .eql v10 (.int .i64 0) λv11=>
 HIf v11
 (R (.int .i64 0) w)
 (zh v1 λv14=>
 zd .sub v14 (.int .i64 1) λv15=>
 zk 1 v1 v15 λv16=>
 HLd v16 w λv17=>
 zw v2 λv19=>
 HIf v19
 (zg v0 λv21=>
 zc 1 v21 λv22=>
 HLd v22 w λv23=>
 za Tryz.prog 212 [v23,v17] w λv25 w_1=>
 R v25 w_1)
 (zl w λw_2=>
 zg v0 λv27=>
 zc 0 v27 λv28=>
 zc 0 v28 λv29=>
 HLd v29 w_2 λv30=>
 zg v0 λv32=>
 zc 0 v32 λv33=>
 zc 0 v33 λv34=>
 HLd v34 w_2 λv35=>
 zh v35 λv36=>
 zd .sub v36 (.int .i64 1) λv37=>
 zk 4 v30 v37 λv38=>
 zc 2 v38 λv39=>
 HLd v39 w_2 λv40=>
 zg v0 λv42=>
 zc 1 v42 λv43=>
 HLd v43 w_2 λv44=>
 za Tryz.prog 213 [v44,v17] w_2 λv46 w_3=>
 zd .gtr v46 v40 λv48=>
 HIf v48
 (zg v0 λv50=>
 zc 1 v50 λv51=>
 HLd v51 w_3 λv52=>
 za Tryz.prog 214 [v52,v17,v40] w_3 λv55 w_4=>
 R v55 w_4)
 (R (.int .i64 0) w_3)))
theorem vc170(v0 v1 v2:Value)(w:World)(R:Value→World→Prop)(h:Vc170 v0 v1 v2 w R):za Tryz.prog 170 [v0,v1,v2] w R:=
 VV Tryz.func170 (by kernel_rfl) (by kernel_rfl) (by kernel_rfl) h
def Vc171(v0 v1:Value)(w:World)(R:Value→World→Prop):Prop:=
 zg v0 λv9=>
 zc 0 v9 λv10=>
 HLd v10 w λv11=>
 zh v11 λv12=>
 ∃(I:List Value→World→Prop) (μ:List Value→World→Nat),I [(.int .i64 0)] w ∧
 ∀(v13:Value) w_1,I [v13] w_1 →
 zd .lss v13 v12 λv14=>
 HIf v14
 (zk 4 v11 v13 λv15=>
 zj 4 v15 w_1 λv16=>
 zn [.int .i64 0,.int .i64 0,.int .i64 0,.slice none 0 0] 290 w_1 λv7 w_2=>
 zp 4 v7 v16 w_2 λw_3=>
 zc 1 v7 λv18=>
 HLd v18 w_3 λv19=>
 zd .geq v1 v19 λv20=>
 HIf v20
 (zj 4 v7 w_3 λv23=>
 za Tryz.prog 189 [v23] w_3 λv24 w_4=>
 zd .lss v1 v24 λv25=>
 HIf v25
 (zc 3 v7 λv27=>
 HLd v27 w_4 λv28=>
 zc 1 v7 λv30=>
 HLd v30 w_4 λv31=>
 zd .sub v1 v31 λv32=>
 zk 1 v28 v32 λv33=>
 HLd v33 w_4 λv34=>
 za Tryz.prog 185 [v34] w_4 λv35 w_5=>
 R (.tuple #[v35,(.int .i64 0)]) w_5)
 (zd .add v13 (.int .i64 1) λv36=>
 I [v36] w_4∧μ [v36] w_4<μ [v13] w_1))
 (zd .add v13 (.int .i64 1) λv36_1=>
 I [v36_1] w_3∧μ [v36_1] w_3<μ [v13] w_1))
 (R (.tuple #[(.slice none 0 0),(.int .i64 5)]) w_1)
theorem vc171(v0 v1:Value)(w:World)(R:Value→World→Prop)(h:Vc171 v0 v1 w R):za Tryz.prog 171 [v0,v1] w R:=
 VJ [(2,[13],[1,11,12])] [] Tryz.func171 (by kernel_rfl) (by kernel_rfl) (by kernel_rfl) h
def Vc184(v0 v1:Value)(w:World)(R:Value→World→Prop):Prop:=
 zn [.int .i64 0,.bool false,.slice none 0 0] 284 w λv4 w_1=>
 za Tryz.prog 228 [v0,v1] w_1 λv11 w_2=>
 zm 0 v11 λv12=>
 zm 1 v11 λv13=>
 zn [.int .i64 0,.bool false,.slice none 0 0] 284 w_2 λv6 w_3=>
 zp 3 v6 v12 w_3 λw_4=>
 zd .eql v13 (.int .i64 0) λv15=>
 HIf v15
 (za Tryz.prog 229 [v0] w_4 λv17 w_5=>
 zj 3 v6 w_5 λv18=>
 zp 3 v4 v18 w_5 λw_6=>
 zj 3 v4 w_6 λr=>
 R (.tuple #[r,v17]) w_6)
 (zj 3 v6 w_4 λv18_1=>
 zp 3 v4 v18_1 w_4 λw_7=>
 zj 3 v4 w_7 λr_1=>
 R (.tuple #[r_1,v13]) w_7)
theorem vc184(v0 v1:Value)(w:World)(R:Value→World→Prop)(h:Vc184 v0 v1 w R):za Tryz.prog 184 [v0,v1] w R:=
 VV Tryz.func184 (by kernel_rfl) (by kernel_rfl) (by kernel_rfl) h
def Vc189(v0:Value)(w:World)(R:Value→World→Prop):Prop:=
 ∃cs:List Value,v0= .agg cs.toArray∧zn cs 290 w λv1 w_1=>
 zc 1 v1 λv3=>
 HLd v3 w_1 λv4=>
 zc 3 v1 λv5=>
 HLd v5 w_1 λv6=>
 zh v6 λv7=>
 zd .add v4 v7 λv8=>
 R v8 w_1
theorem vc189(v0:Value)(w:World)(R:Value→World→Prop)(h:Vc189 v0 w R):za Tryz.prog 189 [v0] w R:=
 VV Tryz.func189 (by kernel_rfl) (by kernel_rfl) (by kernel_rfl) h
def Vc228(v0 v1:Value)(w:World)(R:Value→World→Prop):Prop:=
 zn [.int .i64 0,.bool false,.slice none 0 0] 284 w λv4 w_1=>
 za Tryz.prog 252 [v1] w_1 λv14 w_2=>
 zm 0 v14 λv15=>
 zm 1 v14 λv16=>
 zd .neq v16 (.int .i64 0) λv19=>
 HIf v19
 (zt [.int .i64 0,.bool false,.slice none 0 0] [] λv20=>
 zp 3 v4 v20 w_2 λw_3=>
 zj 3 v4 w_3 λr=>
 R (.tuple #[r,v16]) w_3)
 (zg v0 λv24=>
 zc 1 v24 λv25=>
 HLd v25 w_2 λv26=>
 za Tryz.prog 102 [v26] w_2 λv27 w_4=>
 HIf v27
 (zt [.int .i64 0,.bool false,.slice none 0 0] [] λv28=>
 zp 3 v4 v28 w_4 λw_5=>
 zj 3 v4 w_5 λr_1=>
 R (.tuple #[r_1,(.int .i64 8)]) w_5)
 (zg v0 λv31=>
 zc 0 v31 λv32=>
 za Tryz.prog 110 [v32] w_4 λv33 w_6=>
 zd .geq v33 (.int .i64 1099511627776) λv34=>
 HIf v34
 (zt [.int .i64 0,.bool false,.slice none 0 0] [] λv35=>
 zp 3 v4 v35 w_6 λw_7=>
 zj 3 v4 w_7 λr_2=>
 R (.tuple #[r_2,(.int .i64 7)]) w_7)
 (zg v0 λv37=>
 zc 2 v37 λv38=>
 HLd v38 w_6 λv39=>
 ∃I:List Value→World→Prop,(zg v0 λv41=>
 zc 0 v41 λv42=>
 zc 0 v42 λv43=>
 HLd v43 w_6 λv44=>
 zh v44 λv45=>
 zd .gtr v45 (.int .i64 0) λv47=>
 HIf v47
 (zg v0 λv49=>
 zc 0 v49 λv50=>
 zc 0 v50 λv51=>
 HLd v51 w_6 λv52=>
 zd .sub v45 (.int .i64 1) λv54=>
 zk 4 v52 v54 λv55=>
 zj 4 v55 w_6 λv56=>
 zn [.int .i64 0,.int .i64 0,.int .i64 0,.slice none 0 0] 290 w_6 λv10 w_8=>
 zp 4 v10 v56 w_8 λw_9=>
 zl w_9 λw_10=>
 zc 3 v10 λv57=>
 HLd v57 w_10 λv58=>
 zh v58 λv59=>
 zd .eql v59 (.int .i64 0) λv60=>
 HIf v60
 (zc 0 v10 λv73=>
 HLd v73 w_10 λv74=>
 zt [.int .i64 0,.bool false,.slice none 0 0] [(0,1,v74),(1,1,(.bool false)),(2,1,v15)] λv76=>
 zp 3 v4 v76 w_10 λw_11=>
 zj 3 v4 w_11 λr_3=>
 R (.tuple #[r_3,(.int .i64 0)]) w_11)
 (zc 2 v10 λv62=>
 HLd v62 w_10 λv63=>
 zh v15 λv65=>
 zd .add v63 v65 λv66=>
 zg v0 λv68=>
 zc 3 v68 λv69=>
 HLd v69 w_10 λv70=>
 zd .leq v66 v70 λv71=>
 HIf v71
 (zc 0 v10 λv73_1=>
 HLd v73_1 w_10 λv74_1=>
 zt [.int .i64 0,.bool false,.slice none 0 0] [(0,1,v74_1),(1,1,(.bool false)),(2,1,v15)] λv76_1=>
 zp 3 v4 v76_1 w_10 λw_12=>
 zj 3 v4 w_12 λr_4=>
 R (.tuple #[r_4,(.int .i64 0)]) w_12)
 (zc 0 v10 λv77=>
 HLd v77 w_10 λv78=>
 zd .add v78 (.int .i64 1) λv79=>
 I [v79] w_10)))
 (I [v39] w_6)) ∧
 ∀(v8:Value) w_13,I [v8] w_13 →
 zg v0 λv82=>
 zc 2 v82 λv83=>
 HLd v83 w_13 λv84=>
 zd .add v84 (.int .i64 4096) λv85=>
 zd .geq v8 v85 λv86=>
 HIf v86
 (zt [.int .i64 0,.bool false,.slice none 0 0] [] λv87=>
 zp 3 v4 v87 w_13 λw_14=>
 zj 3 v4 w_14 λr_5=>
 R (.tuple #[r_5,(.int .i64 7)]) w_14)
 (zg v0 λv90=>
 zc 0 v90 λv91=>
 za Tryz.prog 110 [v91] w_13 λv92 w_15=>
 zd .add v92 (.int .i64 1) λv93=>
 za Tryz.prog 253 [v93] w_15 λv94 w_16=>
 zm 0 v94 λv95=>
 zm 1 v94 λv96=>
 zo (zrow [.slice none 0 0] 2) [(0,1,v95),(1,1,v15)] 54 2 w_16 λv100 w_17=>
 za Tryz.prog 254 [v100] w_17 λv101 w_18=>
 zt [.int .i64 0,.bool false,.slice none 0 0] [(0,1,v8),(1,1,(.bool true)),(2,1,v101)] λv102=>
 zp 3 v4 v102 w_18 λw_19=>
 zj 3 v4 w_19 λr_6=>
 R (.tuple #[r_6,v96]) w_19))))
theorem vc228(v0 v1:Value)(w:World)(R:Value→World→Prop)(h:Vc228 v0 v1 w R):za Tryz.prog 228 [v0,v1] w R:=
 VJ [] [(15,[8],[0,4,6])] Tryz.func228 (by kernel_rfl) (by kernel_rfl) (by kernel_rfl) h
def Vc229(v0:Value)(w:World)(R:Value→World→Prop):Prop:=
 zg v0 λv6=>
 zc 4 v6 λv7=>
 HLd v7 w λv8=>
 HEq (.pointer 288) false v8 (.pointer none) λv10=>
 HIf v10
 (R (.int .i64 0) w)
 (zg v8 λv12=>
 zc 2 v12 λv13=>
 HLd v13 w λv14=>
 HIf v14
 (zl w λw_1=>
 zg v0 λv16=>
 zc 1 v16 λv17=>
 HLd v17 w_1 λv18=>
 zg v8 λv20=>
 zc 0 v20 λv21=>
 HLd v21 w_1 λv22=>
 za Tryz.prog 212 [v18,v22] w_1 λv23 w_2=>
 zd .eql v23 (.int .i64 0) λv38=>
 HIf v38
 (zg v0 λv40=>
 zc 4 v40 λv41=>
 HSt v41 (.pointer none) w_2 λw_3=>
 R v23 w_3)
 (R v23 w_2))
 (zl w λw_4=>
 zg v0 λv25=>
 zc 1 v25 λv26=>
 HLd v26 w_4 λv27=>
 zg v8 λv29=>
 zc 0 v29 λv30=>
 HLd v30 w_4 λv31=>
 zg v8 λv33=>
 zc 1 v33 λv34=>
 HLd v34 w_4 λv35=>
 za Tryz.prog 214 [v27,v31,v35] w_4 λv36 w_5=>
 zd .eql v36 (.int .i64 0) λv38_1=>
 HIf v38_1
 (zg v0 λv40_1=>
 zc 4 v40_1 λv41_1=>
 HSt v41_1 (.pointer none) w_5 λw_6=>
 R v36 w_6)
 (R v36 w_5)))
theorem vc229(v0:Value)(w:World)(R:Value→World→Prop)(h:Vc229 v0 w R):za Tryz.prog 229 [v0] w R:=
 VV Tryz.func229 (by kernel_rfl) (by kernel_rfl) (by kernel_rfl) h
end Go.Proofs.YtnmhmnnadkclbaaGreat
