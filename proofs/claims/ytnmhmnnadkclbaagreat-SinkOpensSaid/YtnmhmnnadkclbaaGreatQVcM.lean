/- Part of the proof (my own). -/
import Derived.Test.YtnmhmnnadkclbaaGreatQTab
namespace Go.Proofs.YtnmhmnnadkclbaaGreat
set_option linter.unusedVariables false
set_option maxRecDepth 100000
open Go.RowKit
def Vc78(v0:Value)(w:World)(R:Value→World→Prop):Prop:=
 zn [.int .i64 0,.int .i64 0,.string ⟨#[]⟩] 165 w λv2 w_1=>
 zt [.int .i64 0,.int .i64 0,.string ⟨#[]⟩] [(0,1,(.int .i64 1)),(1,1,v0)] λv4=>
 zp 3 v2 v4 w_1 λw_2=>
 zj 3 v2 w_2 λr=>
 R r w_2
theorem vc78(v0:Value)(w:World)(R:Value→World→Prop)(h:Vc78 v0 w R):za Tryz.prog 78 [v0] w R:=
 VV Tryz.func78 (by kernel_rfl) (by kernel_rfl) (by kernel_rfl) h
def Vc80(v0:Value)(w:World)(R:Value→World→Prop):Prop:=
 zn [.int .i64 0,.int .i64 0,.string ⟨#[]⟩] 165 w λv2 w_1=>
 HIf v0
 (za Tryz.prog 78 [(.int .i64 1)] w_1 λv4 w_2=>
 zp 3 v2 v4 w_2 λw_3=>
 zj 3 v2 w_3 λr=>
 R r w_3)
 (za Tryz.prog 78 [(.int .i64 0)] w_1 λv5 w_4=>
 zp 3 v2 v5 w_4 λw_5=>
 zj 3 v2 w_5 λr_1=>
 R r_1 w_5)
theorem vc80(v0:Value)(w:World)(R:Value→World→Prop)(h:Vc80 v0 w R):za Tryz.prog 80 [v0] w R:=
 VV Tryz.func80 (by kernel_rfl) (by kernel_rfl) (by kernel_rfl) h
def Vc81(v0:Value)(w:World)(R:Value→World→Prop):Prop:=
 zh v0 λv7=>
 zd .gtr v7 (.int .i64 32767) λv8=>
 HIf v8
 (R (.tuple #[(.slice none 0 0),(.int .i64 1)]) w)
 (zh v0 λv10=>
 zO .u64 v10 λv11=>
 za Tryz.prog 164 [v11,(.int .i64 2)] w λv12 w_1=>
 ∃(I:List Value→World→Prop) (μ:List Value→World→Nat),I [v12,(.int .i64 0)] w_1 ∧
 ∀(v4 v5:Value) w_2,I [v4,v5] w_2 →
 zh v0 λv15=>
 zd .lss v5 v15 λv16=>
 HIf v16
 (zk 3 v0 v5 λv21=>
 zj 3 v21 w_2 λv22=>
 za Tryz.prog 165 [v22] w_2 λv23 w_3=>
 zw v23 λv24=>
 HIf v24
 (R (.tuple #[(.slice none 0 0),(.int .i64 1)]) w_3)
 (zk 3 v0 v5 λv28=>
 zc 0 v28 λv29=>
 HLd v29 w_3 λv30=>
 zO .u8 v30 λv31=>
 zo (zrow [.int .u8 0] 1) [(0,1,v31)] 5 1 w_3 λv32 w_4=>
 zr 1 1 [.int .u8 0] 5 v4 v32 w_4 λv33 w_5=>
 zk 3 v0 v5 λv36=>
 zc 0 v36 λv37=>
 HLd v37 w_5 λv38=>
 zd .eql v38 (.int .i64 1) λv39=>
 HIf v39
 (zk 3 v0 v5 λv43=>
 zc 1 v43 λv44=>
 HLd v44 w_5 λv45=>
 zO .u64 v45 λv46=>
 za Tryz.prog 164 [v46,(.int .i64 8)] w_5 λv47 w_6=>
 zr 1 1 [.int .u8 0] 5 v33 v47 w_6 λv48 w_7=>
 zd .add v5 (.int .i64 1) λv18=>
 I [v48,v18] w_7∧μ [v48,v18] w_7<μ [v4,v5] w_2)
 (zk 3 v0 v5 λv52=>
 zc 2 v52 λv53=>
 HLd v53 w_5 λv54=>
 yM v54 λv55=>
 zO .u64 v55 λv56=>
 za Tryz.prog 164 [v56,(.int .i64 2)] w_5 λv57 w_8=>
 zr 1 1 [.int .u8 0] 5 v33 v57 w_8 λv58 w_9=>
 zk 3 v0 v5 λv62=>
 zc 2 v62 λv63=>
 HLd v63 w_9 λv64=>
 zr 1 1 [.int .u8 0] 5 v58 v64 w_9 λv65 w_10=>
 zd .add v5 (.int .i64 1) λv18_1=>
 I [v65,v18_1] w_10∧μ [v65,v18_1] w_10<μ [v4,v5] w_2)))
 (R (.tuple #[v4,(.int .i64 0)]) w_2))
theorem vc81(v0:Value)(w:World)(R:Value→World→Prop)(h:Vc81 v0 w R):za Tryz.prog 81 [v0] w R:=
 VJ [(5,[4,5],[0])] [] Tryz.func81 (by kernel_rfl) (by kernel_rfl) (by kernel_rfl) h
def Vc154(v0:Value)(w:World)(R:Value→World→Prop):Prop:=
 ∃(I:List Value→World→Prop) (μ:List Value→World→Nat),I [(.slice none 0 0),(.int .i64 0)] w ∧
 ∀(v4 v5:Value) w_1,I [v4,v5] w_1 →
 zh v0 λv11=>
 zd .lss v5 v11 λv12=>
 HIf v12
 (HSl 1 v0 (some v5) none none λv16=>
 za Tryz.prog 206 [v16] w_1 λv17 w_2=>
 zm 0 v17 λv18=>
 zm 1 v17 λv19=>
 zm 2 v17 λv20=>
 zd .neq v20 (.int .i64 0) λv22=>
 HIf v22
 (R (.tuple #[v4,v5]) w_2)
 (zo (zrow [.slice none 0 0] 1) [(0,1,v18)] 54 1 w_2 λv27 w_3=>
 zr 1 24 [.slice none 0 0] 54 v4 v27 w_3 λv28 w_4=>
 zd .add v5 v19 λv31=>
 I [v28,v31] w_4∧μ [v28,v31] w_4<μ [v4,v5] w_1))
 (R (.tuple #[v4,v5]) w_1)
theorem vc154(v0:Value)(w:World)(R:Value→World→Prop)(h:Vc154 v0 w R):za Tryz.prog 154 [v0] w R:=
 VJ [(3,[4,5],[0])] [] Tryz.func154 (by kernel_rfl) (by kernel_rfl) (by kernel_rfl) h
def Vc155(v0:Value)(w:World)(R:Value→World→Prop):Prop:=
 zh v0 λv11=>
 zd .lss v11 (.int .i64 2) λv12=>
 HIf v12
 (R (.tuple #[(.slice none 0 0),(.int .i64 2)]) w)
 (HSl 1 v0 none (some (.int .i64 2)) none λv14=>
 za Tryz.prog 207 [v14] w λv15 w_1=>
 zO .i64 v15 λv16=>
 zd .gtr v16 (.int .i64 32767) λv18=>
 HIf v18
 (R (.tuple #[(.slice none 0 0),(.int .i64 3)]) w_1)
 (∃(I:List Value→World→Prop) (μ:List Value→World→Nat),I [(.int .i64 2),(.slice none 0 0),(.int .i64 0)] w_1 ∧
 ∀(v5 v6 v7:Value) w_2,I [v5,v6,v7] w_2 →
 zd .lss v7 v16 λv21=>
 HIf v21
 (zh v0 λv26=>
 zd .geq v5 v26 λv27=>
 HIf v27
 (R (.tuple #[(.slice none 0 0),(.int .i64 2)]) w_2)
 (zk 1 v0 v5 λv30=>
 HLd v30 w_2 λv31=>
 zO .i64 v31 λv32=>
 zd .add v5 (.int .i64 1) λv34=>
 zd .eql v32 (.int .i64 1) λv37=>
 HIf v37
 (zh v0 λv39=>
 zd .sub v39 v34 λv41=>
 zd .lss v41 (.int .i64 8) λv42=>
 HIf v42
 (R (.tuple #[(.slice none 0 0),(.int .i64 2)]) w_2)
 (zd .add v34 (.int .i64 8) λv47=>
 HSl 1 v0 (some v34) (some v47) none λv48=>
 za Tryz.prog 207 [v48] w_2 λv49 w_3=>
 zO .i64 v49 λv50=>
 za Tryz.prog 78 [v50] w_3 λv51 w_4=>
 zo (zrow [.int .i64 0,.int .i64 0,.string ⟨#[]⟩] 1) [(0,3,v51)] 165 1 w_4 λv52 w_5=>
 zr 3 32 [.int .i64 0,.int .i64 0,.string ⟨#[]⟩] 165 v6 v52 w_5 λv53 w_6=>
 zd .add v34 (.int .i64 8) λv55=>
 zd .add v7 (.int .i64 1) λv23=>
 I [v55,v53,v23] w_6∧μ [v55,v53,v23] w_6<μ [v5,v6,v7] w_2))
 (zd .eql v32 (.int .i64 2) λv57=>
 HIf v57
 (zh v0 λv59=>
 zd .sub v59 v34 λv61=>
 zd .lss v61 (.int .i64 2) λv62=>
 HIf v62
 (R (.tuple #[(.slice none 0 0),(.int .i64 2)]) w_2)
 (zd .add v34 (.int .i64 2) λv66=>
 HSl 1 v0 (some v34) (some v66) none λv67=>
 za Tryz.prog 207 [v67] w_2 λv68 w_7=>
 zO .i64 v68 λv69=>
 zd .add v34 (.int .i64 2) λv71=>
 zd .gtr v69 (.int .i64 4096) λv73=>
 HIf v73
 (R (.tuple #[(.slice none 0 0),(.int .i64 3)]) w_7)
 (zh v0 λv75=>
 zd .sub v75 v71 λv77=>
 zd .lss v77 v69 λv79=>
 HIf v79
 (R (.tuple #[(.slice none 0 0),(.int .i64 2)]) w_7)
 (zd .add v71 v69 λv85=>
 HSl 1 v0 (some v71) (some v85) none λv86=>
 HRq Tryz.prog (convert 54 9 v86) w_7 λv87=>
 za Tryz.prog 163 [v87] w_7 λv88 w_8=>
 zo (zrow [.int .i64 0,.int .i64 0,.string ⟨#[]⟩] 1) [(0,3,v88)] 165 1 w_8 λv89 w_9=>
 zr 3 32 [.int .i64 0,.int .i64 0,.string ⟨#[]⟩] 165 v6 v89 w_9 λv90 w_10=>
 zd .add v71 v69 λv93=>
 zd .add v7 (.int .i64 1) λv23_1=>
 I [v93,v90,v23_1] w_10∧μ [v93,v90,v23_1] w_10<μ [v5,v6,v7] w_2))))
 (R (.tuple #[(.slice none 0 0),(.int .i64 3)]) w_2))))
 (zh v0 λv96=>
 zd .lss v5 v96 λv97=>
 HIf v97
 (R (.tuple #[(.slice none 0 0),(.int .i64 3)]) w_2)
 (R (.tuple #[v6,(.int .i64 0)]) w_2))))
theorem vc155(v0:Value)(w:World)(R:Value→World→Prop)(h:Vc155 v0 w R):za Tryz.prog 155 [v0] w R:=
 VJ [(9,[5,6,7],[0,4])] [] Tryz.func155 (by kernel_rfl) (by kernel_rfl) (by kernel_rfl) h
def Vc163(v0:Value)(w:World)(R:Value→World→Prop):Prop:=
 zn [.int .i64 0,.int .i64 0,.string ⟨#[]⟩] 165 w λv2 w_1=>
 zt [.int .i64 0,.int .i64 0,.string ⟨#[]⟩] [(0,1,(.int .i64 2)),(2,1,v0)] λv4=>
 zp 3 v2 v4 w_1 λw_2=>
 zj 3 v2 w_2 λr=>
 R r w_2
theorem vc163(v0:Value)(w:World)(R:Value→World→Prop)(h:Vc163 v0 w R):za Tryz.prog 163 [v0] w R:=
 VV Tryz.func163 (by kernel_rfl) (by kernel_rfl) (by kernel_rfl) h
def Vc164(v0 v1:Value)(w:World)(R:Value→World→Prop):Prop:=
 zd .sub v1 (.int .i64 1) λv8=>
 ∃(I:List Value→World→Prop) (μ:List Value→World→Nat),I [(.slice none 0 0),v8] w ∧
 ∀(v5 v6:Value) w_1,I [v5,v6] w_1 →
 zd .geq v6 (.int .i64 0) λv10=>
 HIf v10
 (zd .mul (.int .i64 8) v6 λv16=>
 zO .u64 v16 λv17=>
 zd .shr v0 v17 λv18=>
 zO .u8 v18 λv19=>
 zo (zrow [.int .u8 0] 1) [(0,1,v19)] 5 1 w_1 λv20 w_2=>
 zr 1 1 [.int .u8 0] 5 v5 v20 w_2 λv21 w_3=>
 zd .sub v6 (.int .i64 1) λv12=>
 I [v21,v12] w_3∧μ [v21,v12] w_3<μ [v5,v6] w_1)
 (R v5 w_1)
theorem vc164(v0 v1:Value)(w:World)(R:Value→World→Prop)(h:Vc164 v0 v1 w R):za Tryz.prog 164 [v0,v1] w R:=
 VJ [(3,[5,6],[0])] [] Tryz.func164 (by kernel_rfl) (by kernel_rfl) (by kernel_rfl) h
def Vc165(v0:Value)(w:World)(R:Value→World→Prop):Prop:=
 ∃cs:List Value,v0= .agg cs.toArray∧zn cs 165 w λv1 w_1=>
 zc 0 v1 λv3=>
 HLd v3 w_1 λv4=>
 zd .eql v4 (.int .i64 1) λv5=>
 HIf v5
 (zc 2 v1 λv7=>
 HLd v7 w_1 λv8=>
 zd .eql v8 (.string {data:=#[]}) λv9=>
 HIf v9
 (R (.bool true) w_1)
 (zc 0 v1 λv12=>
 HLd v12 w_1 λv13=>
 zd .eql v13 (.int .i64 2) λv14=>
 HIf v14
 (zc 1 v1 λv16=>
 HLd v16 w_1 λv17=>
 zd .eql v17 (.int .i64 0) λv18=>
 HIf v18
 (zc 2 v1 λv21=>
 HLd v21 w_1 λv22=>
 yM v22 λv23=>
 zd .leq v23 (.int .i64 4096) λv24=>
 R v24 w_1)
 (R (.bool false) w_1))
 (R (.bool false) w_1)))
 (zc 0 v1 λv12_1=>
 HLd v12_1 w_1 λv13_1=>
 zd .eql v13_1 (.int .i64 2) λv14_1=>
 HIf v14_1
 (zc 1 v1 λv16_1=>
 HLd v16_1 w_1 λv17_1=>
 zd .eql v17_1 (.int .i64 0) λv18_1=>
 HIf v18_1
 (zc 2 v1 λv21_1=>
 HLd v21_1 w_1 λv22_1=>
 yM v22_1 λv23_1=>
 zd .leq v23_1 (.int .i64 4096) λv24_1=>
 R v24_1 w_1)
 (R (.bool false) w_1))
 (R (.bool false) w_1))
theorem vc165(v0:Value)(w:World)(R:Value→World→Prop)(h:Vc165 v0 w R):za Tryz.prog 165 [v0] w R:=
 VV Tryz.func165 (by kernel_rfl) (by kernel_rfl) (by kernel_rfl) h
def Vc166(v0:Value)(w:World)(R:Value→World→Prop):Prop:=
 zh v0 λv7=>
 zd .gtr v7 (.int .i64 1048576) λv8=>
 HIf v8
 (R (.tuple #[(.slice none 0 0),(.int .i64 1)]) w)
 (zh v0 λv10=>
 zO .u64 v10 λv11=>
 za Tryz.prog 164 [v11,(.int .i64 4)] w λv12 w_1=>
 za Tryz.prog 210 [v12] w_1 λv14 w_2=>
 za Tryz.prog 209 [v14,v0] w_2 λv16 w_3=>
 zO .u64 v16 λv19=>
 za Tryz.prog 164 [v19,(.int .i64 4)] w_3 λv20 w_4=>
 zr 1 1 [.int .u8 0] 5 v12 v20 w_4 λv21 w_5=>
 zr 1 1 [.int .u8 0] 5 v21 v0 w_5 λv24 w_6=>
 R (.tuple #[v24,(.int .i64 0)]) w_6)
theorem vc166(v0:Value)(w:World)(R:Value→World→Prop)(h:Vc166 v0 w R):za Tryz.prog 166 [v0] w R:=
 VV Tryz.func166 (by kernel_rfl) (by kernel_rfl) (by kernel_rfl) h
def Vc206(v0:Value)(w:World)(R:Value→World→Prop):Prop:=
 zh v0 λv8=>
 zd .lss v8 (.int .i64 8) λv9=>
 HIf v9
 (R (.tuple #[(.slice none 0 0),(.int .i64 0),(.int .i64 2)]) w)
 (HSl 1 v0 none (some (.int .i64 4)) none λv11=>
 za Tryz.prog 207 [v11] w λv12 w_1=>
 zO .i64 v12 λv13=>
 zd .gtr v13 (.int .i64 1048576) λv15=>
 HIf v15
 (R (.tuple #[(.slice none 0 0),(.int .i64 0),(.int .i64 3)]) w_1)
 (zh v0 λv17=>
 zd .sub v17 (.int .i64 8) λv18=>
 zd .lss v18 v13 λv20=>
 HIf v20
 (R (.tuple #[(.slice none 0 0),(.int .i64 0),(.int .i64 2)]) w_1)
 (zd .add (.int .i64 8) v13 λv23=>
 HSl 1 v0 (some (.int .i64 8)) (some v23) none λv24=>
 zl w_1 λw_2=>
 HSl 1 v0 none (some (.int .i64 4)) none λv26=>
 HSl 1 v0 (some (.int .i64 4)) (some (.int .i64 8)) none λv32=>
 za Tryz.prog 210 [v26] w_2 λv27 w_3=>
 za Tryz.prog 209 [v27,v24] w_3 λv29 w_4=>
 zO .u64 v29 λv30=>
 za Tryz.prog 207 [v32] w_4 λv33 w_5=>
 zd .neq v30 v33 λv34=>
 HIf v34
 (R (.tuple #[(.slice none 0 0),(.int .i64 0),(.int .i64 4)]) w_5)
 (zo (zrow [.int .u8 0] 0) [] 5 0 w_5 λv35 w_6=>
 zr 1 1 [.int .u8 0] 5 v35 v24 w_6 λv37 w_7=>
 zd .add (.int .i64 8) v13 λv39=>
 R (.tuple #[v37,v39,(.int .i64 0)]) w_7))))
theorem vc206(v0:Value)(w:World)(R:Value→World→Prop)(h:Vc206 v0 w R):za Tryz.prog 206 [v0] w R:=
 VV Tryz.func206 (by kernel_rfl) (by kernel_rfl) (by kernel_rfl) h
def Vc207(v0:Value)(w:World)(R:Value→World→Prop):Prop:=
 ∃(I:List Value→World→Prop) (μ:List Value→World→Nat),I [(.int .u64 0),(.int .i64 0)] w ∧
 ∀(v3 v4:Value) w_1,I [v3,v4] w_1 →
 zh v0 λv7=>
 zd .lss v4 v7 λv8=>
 HIf v8
 (zd .shl v3 (.int .u64 8) λv12=>
 zk 1 v0 v4 λv15=>
 HLd v15 w_1 λv16=>
 zO .u64 v16 λv17=>
 zd .or v12 v17 λv18=>
 zd .add v4 (.int .i64 1) λv10=>
 I [v18,v10] w_1∧μ [v18,v10] w_1<μ [v3,v4] w_1)
 (R v3 w_1)
theorem vc207(v0:Value)(w:World)(R:Value→World→Prop)(h:Vc207 v0 w R):za Tryz.prog 207 [v0] w R:=
 VJ [(3,[3,4],[0])] [] Tryz.func207 (by kernel_rfl) (by kernel_rfl) (by kernel_rfl) h
def Vc209(v0 v1:Value)(w:World)(R:Value→World→Prop):Prop:=
 Y1 v0 λv10=>
 ∃(I:List Value→World→Prop) (μ:List Value→World→Nat),I [v10,(.int .i64 0)] w ∧
 ∀(v5 v6:Value) w_1,I [v5,v6] w_1 →
 zh v1 λv13=>
 zd .lss v6 v13 λv14=>
 HIf v14
 (zk 1 v1 v6 λv20=>
 HLd v20 w_1 λv21=>
 zO .u32 v21 λv22=>
 zd .xor v5 v22 λv23=>
 ∃(I_1:List Value→World→Prop) (μ_1:List Value→World→Nat),I_1 [v23,(.int .i64 0)] w_1 ∧
 ∀(v5_1:Value) (v7:Value) w_2,I_1 [v5_1,v7] w_2 →
 zd .lss v7 (.int .i64 8) λv25=>
 HIf v25
 (zd .and v5_1 (.int .u32 1) λv29=>
 zd .eql v29 (.int .u32 1) λv30=>
 zd .shr v5_1 (.int .u64 1) λv32=>
 HIf v30
 (zd .xor v32 (.int .u32 3988292384) λv35=>
 zd .add v7 (.int .i64 1) λv27=>
 I_1 [v35,v27] w_2∧μ_1 [v35,v27] w_2<μ_1 [v5_1,v7] w_2)
 (zd .add v7 (.int .i64 1) λv27_1=>
 I_1 [v32,v27_1] w_2∧μ_1 [v32,v27_1] w_2<μ_1 [v5_1,v7] w_2))
 (zd .add v6 (.int .i64 1) λv16=>
 I [v5_1,v16] w_2∧μ [v5_1,v16] w_2<μ [v5,v6] w_1))
 (Y1 v5 λv37=>
 R v37 w_1)
theorem vc209(v0 v1:Value)(w:World)(R:Value→World→Prop)(h:Vc209 v0 v1 w R):za Tryz.prog 209 [v0,v1] w R:=
 VJ [(3,[5,6],[1]),(7,[5,7],[1,6])] [] Tryz.func209 (by kernel_rfl) (by kernel_rfl) (by kernel_rfl) h
def Vc210(v0:Value)(w:World)(R:Value→World→Prop):Prop:=
 za Tryz.prog 209 [(.int .u32 0),v0] w λv4 w_1=>
 R v4 w_1
theorem vc210(v0:Value)(w:World)(R:Value→World→Prop)(h:Vc210 v0 w R):za Tryz.prog 210 [v0] w R:=
 VV Tryz.func210 (by kernel_rfl) (by kernel_rfl) (by kernel_rfl) h
def Vc14(v0 v1 v2:Value)(w:World)(R:Value→World→Prop):Prop:=
 zd .lss v1 (.int .i64 0) λv22=>
 HIf v22
 (R (.tuple #[(.pointer none),(.int .i64 1)]) w)
 (zd .gtr v1 (.int .i64 12288) λv25=>
 HIf v25
 (R (.tuple #[(.pointer none),(.int .i64 1)]) w)
 (zd .lss v2 (.int .i64 64) λv29=>
 HIf v29
 (R (.tuple #[(.pointer none),(.int .i64 1)]) w)
 (zd .gtr v2 (.int .i64 65536) λv33=>
 HIf v33
 (R (.tuple #[(.pointer none),(.int .i64 1)]) w)
 (zg v0 λv36=>
 zc 2 v36 λv37=>
 HLd v37 w λv38=>
 HIf v38
 (R (.tuple #[(.pointer none),(.int .i64 8)]) w)
 (zt [.pointer none,.int .i64 0,.int .i64 0,.slice none 0 0,.int .i64 0] [(0,1,v0),(1,1,v1),(2,1,v2),(4,1,(.int .i64 (-1)))] λv42=>
 ∃cs:List Value,v42= .agg cs.toArray∧zn cs 152 w λv43 w_1=>
 za Tryz.prog 70 [v0,v1] w_1 λv46 w_2=>
 ∃(I:List Value→World→Prop) (μ:List Value→World→Nat),I [(.int .i64 0),(.int .i64 0)] w_2 ∧
 ∀(v10 v11:Value) w_3,I [v10,v11] w_3 →
 zh v46 λv49=>
 zd .lss v11 v49 λv50=>
 HIf v50
 (zk 3 v46 v11 λv55=>
 zj 3 v55 w_3 λv56=>
 zn [.int .i64 0,.int .i64 0,.slice none 0 0] 61 w_3 λv12 w_4=>
 zp 3 v12 v56 w_4 λw_5=>
 ∃I_1:List Value→World→Prop,(zl w_5 λw_6=>
 zd .gtr v11 (.int .i64 0) λv58=>
 HIf v58
 (zc 0 v12 λv60=>
 HLd v60 w_6 λv61=>
 zd .sub v11 (.int .i64 1) λv64=>
 zk 3 v46 v64 λv65=>
 zc 0 v65 λv66=>
 HLd v66 w_6 λv67=>
 zd .add v67 (.int .i64 1) λv68=>
 zd .neq v61 v68 λv69=>
 HIf v69
 (R (.tuple #[(.pointer none),(.int .i64 3)]) w_6)
 (I_1 [] w_6))
 (I_1 [] w_6)) ∧
 ∀w_7,I_1 [] w_7 →
 zc 2 v12 λv72=>
 HLd v72 w_7 λv73=>
 za Tryz.prog 71 [v73] w_7 λv74 w_8=>
 zm 0 v74 λv75=>
 zm 1 v74 λv76=>
 zm 2 v74 λv77=>
 zm 3 v74 λv78=>
 ∃I_2:List Value→World→Prop,(zd .eql v78 (.int .i64 0) λv80=>
 HIf v80
 (zc 2 v12 λv83=>
 HLd v83 w_8 λv84=>
 zh v84 λv85=>
 zd .eql v77 v85 λv86=>
 HIf v86
 (zh v76 λv90=>
 zd .gtr v90 (.int .i64 0) λv91=>
 I_2 [v91] w_8)
 (I_2 [(.bool false)] w_8))
 (I_2 [(.bool false)] w_8)) ∧
 ∀(v17:Value) w_9,I_2 [v17] w_9 →
 ∃I_3:List Value→World→Prop,(zh v46 λv95=>
 zd .sub v95 (.int .i64 1) λv96=>
 zd .lss v11 v96 λv97=>
 HIf v97
 (zw v17 λv100=>
 HIf v100
 (I_3 [(.bool true)] w_9)
 (zd .eql v78 (.int .i64 0) λv104=>
 HIf v104
 (zd .gtr v11 (.int .i64 0) λv107=>
 HIf v107
 (zd .neq v75 v10 λv112=>
 I_3 [v112] w_9)
 (I_3 [(.bool false)] w_9))
 (I_3 [(.bool false)] w_9)))
 (zd .eql v78 (.int .i64 0) λv104_1=>
 HIf v104_1
 (zd .gtr v11 (.int .i64 0) λv107_1=>
 HIf v107_1
 (zd .neq v75 v10 λv112_1=>
 I_3 [v112_1] w_9)
 (I_3 [(.bool false)] w_9))
 (I_3 [(.bool false)] w_9))) ∧
 ∀(v114:Value) w_10,I_3 [v114] w_10 →
 HIf v114
 (R (.tuple #[(.pointer none),(.int .i64 3)]) w_10)
 (zd .neq v78 (.int .i64 0) λv116=>
 HIf v116
 (zd .add v11 (.int .i64 1) λv52=>
 I [v10,v52] w_10∧μ [v10,v52] w_10<μ [v10,v11] w_3)
 (zd .sub v75 (.int .i64 1) λv118=>
 zh v76 λv120=>
 zd .add v118 v120 λv121=>
 zd .gtr v121 (.int .i64 1099511627776) λv122=>
 HIf v122
 (R (.tuple #[(.pointer none),(.int .i64 3)]) w_10)
 (zh v76 λv125=>
 zd .add v75 v125 λv126=>
 zl w_10 λw_11=>
 zg v43 λv129=>
 zc 3 v129 λv130=>
 HLd v130 w_11 λv131=>
 zc 0 v12 λv132=>
 HLd v132 w_11 λv133=>
 zt [.int .i64 0,.int .i64 0,.int .i64 0,.slice none 0 0] [(0,1,v133),(1,1,v75),(2,1,v77),(3,1,v76)] λv137=>
 zo (zrow [.int .i64 0,.int .i64 0,.int .i64 0,.slice none 0 0] 1) [(0,4,v137)] 157 1 w_11 λv138 w_12=>
 HLd v130 w_12 λv131_1=>
 v131_1=v131 ∧
 zr 4 48 [.int .i64 0,.int .i64 0,.int .i64 0,.slice none 0 0] 157 v131 v138 w_12 λv139 w_13=>
 zg v43 λv140=>
 zc 3 v140 λv141=>
 HSt v141 v139 w_13 λw_14=>
 zd .add v11 (.int .i64 1) λv52_1=>
 I [v126,v52_1] w_14∧μ [v126,v52_1] w_14<μ [v10,v11] w_3))))
 (zh v46 λv143=>
 zd .eql v143 (.int .i64 0) λv144=>
 HIf v144
 (R (.tuple #[v43,(.int .i64 0)]) w_3)
 (zh v46 λv148=>
 zd .sub v148 (.int .i64 1) λv149=>
 zk 3 v46 v149 λv150=>
 zj 3 v150 w_3 λv151=>
 zn [.int .i64 0,.int .i64 0,.slice none 0 0] 61 w_3 λv18 w_15=>
 zp 3 v18 v151 w_15 λw_16=>
 zg v43 λv153=>
 zc 3 v153 λv154=>
 HLd v154 w_16 λv155=>
 zh v155 λv156=>
 zh v46 λv158=>
 zd .lss v156 v158 λv159=>
 HIf v159
 (zc 0 v18 λv161=>
 HLd v161 w_16 λv162=>
 za Tryz.prog 72 [v0,v162] w_16 λv163 w_17=>
 zd .neq v163 (.int .i64 0) λv165=>
 HIf v165
 (R (.tuple #[(.pointer none),v163]) w_17)
 (R (.tuple #[v43,(.int .i64 0)]) w_17))
 (zl w_16 λw_18=>
 zg v43 λv168=>
 zc 3 v168 λv169=>
 HLd v169 w_18 λv170=>
 zc 2 v18 λv176=>
 HLd v176 w_18 λv177=>
 zh v177 λv178=>
 za Tryz.prog 73 [v43] w_18 λv172 w_19=>
 HLd v169 w_19 λv170_1=>
 v170_1=v170 ∧
 HLd v176 w_19 λv177_1=>
 v177_1=v177 ∧
 zk 4 v170 v172 λv173=>
 zc 2 v173 λv174=>
 HLd v174 w_19 λv175=>
 zd .lss v175 v178 λv179=>
 HIf v179
 (zl w_19 λw_20=>
 zc 0 v18 λv181=>
 HLd v181 w_20 λv182=>
 zg v43 λv184=>
 zc 3 v184 λv185=>
 HLd v185 w_20 λv186=>
 za Tryz.prog 73 [v43] w_20 λv188 w_21=>
 HLd v181 w_21 λv182_1=>
 v182_1=v182 ∧
 HLd v185 w_21 λv186_1=>
 v186_1=v186 ∧
 zk 4 v186 v188 λv189=>
 zc 2 v189 λv190=>
 HLd v190 w_21 λv191=>
 za Tryz.prog 74 [v0,v182,v191] w_21 λv192 w_22=>
 zd .neq v192 (.int .i64 0) λv194=>
 HIf v194
 (R (.tuple #[(.pointer none),v192]) w_22)
 (R (.tuple #[v43,(.int .i64 0)]) w_22))
 (R (.tuple #[v43,(.int .i64 0)]) w_19)))))))))
theorem vc14(v0 v1 v2:Value)(w:World)(R:Value→World→Prop)(h:Vc14 v0 v1 v2 w R):za Tryz.prog 14 [v0,v1,v2] w R:=
 VJ [(9,[10,11],[0,8,9])] [(14,[],[0,8,9,10,11,12]),(16,[17],[0,8,9,10,11,12,13,14,15,16]),(17,[114],[0,8,9,10,11,12,13,14,15,16])] Tryz.func14 (by kernel_rfl) (by kernel_rfl) (by kernel_rfl) h
def Vc20(v0 v1:Value)(w:World)(R:Value→World→Prop):Prop:=
 zh v1 λv12=>
 zd .gtr v12 (.int .i64 1048576) λv13=>
 HIf v13
 (R (.tuple #[(.int .i64 0),(.int .i64 1)]) w)
 (za Tryz.prog 82 [v0,v1] w λv17 w_1=>
 zm 0 v17 λv18=>
 zm 1 v17 λv19=>
 zm 2 v17 λv20=>
 zm 3 v17 λv21=>
 ∃I:List Value→World→Prop,(zd .eql v21 (.int .i64 0) λv23=>
 HIf v23
 (za Tryz.prog 83 [v0] w_1 λv25 w_2=>
 I [v25] w_2)
 (I [v21] w_1)) ∧
 ∀(v9:Value) w_3,I [v9] w_3 →
 ∃I_1:List Value→World→Prop,(zd .eql v9 (.int .i64 0) λv27=>
 HIf v27
 (zg v0 λv29=>
 zc 0 v29 λv30=>
 HLd v30 w_3 λv31=>
 za Tryz.prog 84 [v31,v19,v18] w_3 λv34 w_4=>
 I_1 [v34] w_4)
 (I_1 [v9] w_3)) ∧
 ∀(v9_1:Value) w_5,I_1 [v9_1] w_5 →
 ∃I_2:List Value→World→Prop,(zd .eql v9_1 (.int .i64 0) λv36=>
 HIf v36
 (zg v0 λv38=>
 zc 0 v38 λv39=>
 HLd v39 w_5 λv40=>
 za Tryz.prog 85 [v40,v19] w_5 λv42 w_6=>
 I_2 [v42] w_6)
 (I_2 [v9_1] w_5)) ∧
 ∀(v9_2:Value) w_7,I_2 [v9_2] w_7 →
 zd .neq v9_2 (.int .i64 0) λv44=>
 HIf v44
 (R (.tuple #[(.int .i64 0),v9_2]) w_7)
 (∃I_3:List Value→World→Prop,(HIf v20
 (zl w_7 λw_8=>
 zg v0 λv49=>
 zc 3 v49 λv50=>
 HLd v50 w_8 λv51=>
 za Tryz.prog 86 [v0] w_8 λv54 w_9=>
 HLd v50 w_9 λv51_1=>
 v51_1=v51 ∧
 zd .add v54 (.int .i64 1) λv55=>
 zt [.int .i64 0,.int .i64 0,.int .i64 0,.slice none 0 0] [(0,1,v19),(1,1,v55)] λv56=>
 zo (zrow [.int .i64 0,.int .i64 0,.int .i64 0,.slice none 0 0] 1) [(0,4,v56)] 157 1 w_9 λv57 w_10=>
 HLd v50 w_10 λv51_2=>
 v51_2=v51 ∧
 zr 4 48 [.int .i64 0,.int .i64 0,.int .i64 0,.slice none 0 0] 157 v51 v57 w_10 λv58 w_11=>
 zg v0 λv59=>
 zc 3 v59 λv60=>
 HSt v60 v58 w_11 λw_12=>
 I_3 [] w_12)
 (I_3 [] w_7)) ∧
 ∀w_13,I_3 [] w_13 →
 za Tryz.prog 73 [v0] w_13 λv62 w_14=>
 zl w_14 λw_15=>
 zg v0 λv64=>
 zc 3 v64 λv65=>
 HLd v65 w_15 λv66=>
 zg v0 λv69=>
 zc 3 v69 λv70=>
 HLd v70 w_15 λv71=>
 zk 4 v71 v62 λv73=>
 zc 2 v73 λv74=>
 HLd v74 w_15 λv75=>
 zh v18 λv77=>
 zd .add v75 v77 λv78=>
 zk 4 v66 v62 λv79=>
 zc 2 v79 λv80=>
 HSt v80 v78 w_15 λw_16=>
 zl w_16 λw_17=>
 zg v0 λv82=>
 zc 3 v82 λv83=>
 HLd v83 w_17 λv84=>
 zg v0 λv87=>
 zc 3 v87 λv88=>
 HLd v88 w_17 λv89=>
 zk 4 v89 v62 λv91=>
 zc 3 v91 λv92=>
 HLd v92 w_17 λv93=>
 zo (zrow [.int .u8 0] 0) [] 5 0 w_17 λv94 w_18=>
 HLd v83 w_18 λv84_1=>
 v84_1=v84 ∧
 HLd v88 w_18 λv89_1=>
 v89_1=v89 ∧
 HLd v92 w_18 λv93_1=>
 v93_1=v93 ∧
 zr 1 1 [.int .u8 0] 5 v94 v1 w_18 λv96 w_19=>
 HLd v83 w_19 λv84_2=>
 v84_2=v84 ∧
 HLd v88 w_19 λv89_2=>
 v89_2=v89 ∧
 HLd v92 w_19 λv93_2=>
 v93_2=v93 ∧
 zo (zrow [.slice none 0 0] 1) [(0,1,v96)] 54 1 w_19 λv97 w_20=>
 HLd v83 w_20 λv84_3=>
 v84_3=v84 ∧
 HLd v88 w_20 λv89_3=>
 v89_3=v89 ∧
 HLd v92 w_20 λv93_3=>
 v93_3=v93 ∧
 zr 1 24 [.slice none 0 0] 54 v93 v97 w_20 λv98 w_21=>
 HLd v83 w_21 λv84_4=>
 v84_4=v84 ∧
 zk 4 v84 v62 λv99=>
 zc 3 v99 λv100=>
 HSt v100 v98 w_21 λw_22=>
 za Tryz.prog 86 [v0] w_22 λv102 w_23=>
 R (.tuple #[v102,(.int .i64 0)]) w_23))
theorem vc20(v0 v1:Value)(w:World)(R:Value→World→Prop)(h:Vc20 v0 v1 w R):za Tryz.prog 20 [v0,v1] w R:=
 VJ [] [(6,[9],[0,1,6,7,8]),(8,[9],[0,1,6,7,8]),(10,[9],[0,1,6,7,8]),(14,[],[0,1,6])] Tryz.func20 (by kernel_rfl) (by kernel_rfl) (by kernel_rfl) h
def Vc70(v0 v1:Value)(w:World)(R:Value→World→Prop):Prop:=
 ∃(I:List Value→World→Prop) (μ:List Value→World→Nat),I [(.slice none 0 0),(.int .i64 0)] w ∧
 ∀(v5 v6:Value) w_1,I [v5,v6] w_1 →
 zg v0 λv9=>
 zc 0 v9 λv10=>
 HLd v10 w_1 λv11=>
 zh v11 λv12=>
 zd .lss v6 v12 λv13=>
 HIf v13
 (zg v0 λv17=>
 zc 0 v17 λv18=>
 HLd v18 w_1 λv19=>
 zk 3 v19 v6 λv21=>
 zc 0 v21 λv22=>
 HLd v22 w_1 λv23=>
 zd .geq v23 v1 λv25=>
 HIf v25
 (zg v0 λv28=>
 zc 0 v28 λv29=>
 HLd v29 w_1 λv30=>
 zk 3 v30 v6 λv32=>
 zc 0 v32 λv33=>
 HLd v33 w_1 λv34=>
 zd .add v1 (.int .i64 4096) λv36=>
 zd .lss v34 v36 λv37=>
 HIf v37
 (zg v0 λv41=>
 zc 0 v41 λv42=>
 HLd v42 w_1 λv43=>
 zk 3 v43 v6 λv45=>
 zj 3 v45 w_1 λv46=>
 zo (zrow [.int .i64 0,.int .i64 0,.slice none 0 0] 1) [(0,3,v46)] 61 1 w_1 λv47 w_2=>
 zr 3 40 [.int .i64 0,.int .i64 0,.slice none 0 0] 61 v5 v47 w_2 λv48 w_3=>
 zd .add v6 (.int .i64 1) λv15=>
 I [v48,v15] w_3∧μ [v48,v15] w_3<μ [v5,v6] w_1)
 (zd .add v6 (.int .i64 1) λv15_1=>
 I [v5,v15_1] w_1∧μ [v5,v15_1] w_1<μ [v5,v6] w_1))
 (zd .add v6 (.int .i64 1) λv15_2=>
 I [v5,v15_2] w_1∧μ [v5,v15_2] w_1<μ [v5,v6] w_1))
 (R v5 w_1)
theorem vc70(v0 v1:Value)(w:World)(R:Value→World→Prop)(h:Vc70 v0 v1 w R):za Tryz.prog 70 [v0,v1] w R:=
 VJ [(3,[5,6],[0,1])] [] Tryz.func70 (by kernel_rfl) (by kernel_rfl) (by kernel_rfl) h
def Vc71(v0:Value)(w:World)(R:Value→World→Prop):Prop:=
 za Tryz.prog 154 [v0] w λv12 w_1=>
 zm 0 v12 λv13=>
 zm 1 v12 λv14=>
 zh v13 λv16=>
 zd .eql v16 (.int .i64 0) λv17=>
 HIf v17
 (R (.tuple #[(.int .i64 0),(.slice none 0 0),(.int .i64 0),(.int .i64 3)]) w_1)
 (zk 1 v13 (.int .i64 0) λv20=>
 HLd v20 w_1 λv21=>
 za Tryz.prog 155 [v21] w_1 λv22 w_2=>
 zm 0 v22 λv23=>
 zm 1 v22 λv24=>
 zd .neq v24 (.int .i64 0) λv26=>
 HIf v26
 (R (.tuple #[(.int .i64 0),(.slice none 0 0),(.int .i64 0),(.int .i64 3)]) w_2)
 (zh v23 λv29=>
 zd .neq v29 (.int .i64 1) λv30=>
 HIf v30
 (R (.tuple #[(.int .i64 0),(.slice none 0 0),(.int .i64 0),(.int .i64 3)]) w_2)
 (zk 3 v23 (.int .i64 0) λv34=>
 zc 0 v34 λv35=>
 HLd v35 w_2 λv36=>
 zd .neq v36 (.int .i64 1) λv37=>
 HIf v37
 (R (.tuple #[(.int .i64 0),(.slice none 0 0),(.int .i64 0),(.int .i64 3)]) w_2)
 (zk 3 v23 (.int .i64 0) λv41=>
 zc 1 v41 λv42=>
 HLd v42 w_2 λv43=>
 zd .lss v43 (.int .i64 1) λv44=>
 HIf v44
 (R (.tuple #[(.int .i64 0),(.slice none 0 0),(.int .i64 0),(.int .i64 3)]) w_2)
 (zk 3 v23 (.int .i64 0) λv48=>
 zc 1 v48 λv49=>
 HLd v49 w_2 λv50=>
 zd .gtr v50 (.int .i64 1099511627776) λv51=>
 HIf v51
 (R (.tuple #[(.int .i64 0),(.slice none 0 0),(.int .i64 0),(.int .i64 3)]) w_2)
 (zl w_2 λw_3=>
 zk 3 v23 (.int .i64 0) λv54=>
 zc 1 v54 λv55=>
 HLd v55 w_3 λv56=>
 HSl 1 v13 (some (.int .i64 1)) none none λv58=>
 R (.tuple #[v56,v58,v14,(.int .i64 0)]) w_3))))))
theorem vc71(v0:Value)(w:World)(R:Value→World→Prop)(h:Vc71 v0 w R):za Tryz.prog 71 [v0] w R:=
 VV Tryz.func71 (by kernel_rfl) (by kernel_rfl) (by kernel_rfl) h
def Vc73(v0:Value)(w:World)(R:Value→World→Prop):Prop:=
 zg v0 λv4=>
 zc 3 v4 λv5=>
 HLd v5 w λv6=>
 zh v6 λv7=>
 zd .sub v7 (.int .i64 1) λv8=>
 R v8 w
theorem vc73(v0:Value)(w:World)(R:Value→World→Prop)(h:Vc73 v0 w R):za Tryz.prog 73 [v0] w R:=
 VV Tryz.func73 (by kernel_rfl) (by kernel_rfl) (by kernel_rfl) h
def Vc77(v0 v1 v2:Value)(w:World)(R:Value→World→Prop):Prop:=
 zh v1 λv12=>
 zd .gtr v12 (.int .i64 1048576) λv13=>
 HIf v13
 (R (.int .i64 1) w)
 (zd .lss v2 (.int .i64 0) λv16=>
 HIf v16
 (R (.int .i64 1) w)
 (za Tryz.prog 82 [v0,v1] w λv21 w_1=>
 zm 0 v21 λv22=>
 zm 1 v21 λv23=>
 zm 2 v21 λv24=>
 zm 3 v21 λv25=>
 ∃I:List Value→World→Prop,(zd .eql v25 (.int .i64 0) λv27=>
 HIf v27
 (za Tryz.prog 83 [v0] w_1 λv29 w_2=>
 I [v29] w_2)
 (I [v25] w_1)) ∧
 ∀(v10:Value) w_3,I [v10] w_3 →
 zd .eql v10 (.int .i64 0) λv31=>
 HIf v31
 (zl w_3 λw_4=>
 zg v0 λv33=>
 zc 0 v33 λv34=>
 HLd v34 w_4 λv35=>
 zh v22 λv40=>
 zd .rem v2 v40 λv41=>
 HSl 1 v22 none (some v41) none λv42=>
 za Tryz.prog 84 [v35,v23,v42] w_4 λv43 w_5=>
 zd .eql v43 (.int .i64 0) λv45=>
 HIf v45
 (zg v0 λv48=>
 zc 4 v48 λv49=>
 HSt v49 v23 w_5 λw_6=>
 R v43 w_6)
 (R v43 w_5))
 (zd .eql v10 (.int .i64 0) λv45_1=>
 HIf v45_1
 (zg v0 λv48_1=>
 zc 4 v48_1 λv49_1=>
 HSt v49_1 v23 w_3 λw_7=>
 R v10 w_7)
 (R v10 w_3))))
theorem vc77(v0 v1 v2:Value)(w:World)(R:Value→World→Prop)(h:Vc77 v0 v1 v2 w R):za Tryz.prog 77 [v0,v1,v2] w R:=
 VJ [] [(6,[10],[0,2,7,8])] Tryz.func77 (by kernel_rfl) (by kernel_rfl) (by kernel_rfl) h
def Vc82(v0 v1:Value)(w:World)(R:Value→World→Prop):Prop:=
 zg v0 λv15=>
 zc 0 v15 λv16=>
 HLd v16 w λv17=>
 zg v17 λv18=>
 zc 2 v18 λv19=>
 HLd v19 w λv20=>
 HIf v20
 (R (.tuple #[(.slice none 0 0),(.int .i64 0),(.bool false),(.int .i64 8)]) w)
 (za Tryz.prog 166 [v1] w λv23 w_1=>
 zm 0 v23 λv24=>
 zm 1 v23 λv25=>
 za Tryz.prog 73 [v0] w_1 λv27 w_2=>
 za Tryz.prog 86 [v0] w_2 λv29 w_3=>
 zd .eql v29 (.int .i64 1099511627776) λv30=>
 HIf v30
 (R (.tuple #[(.slice none 0 0),(.int .i64 0),(.bool false),(.int .i64 7)]) w_3)
 (∃I:List Value→World→Prop,(zl w_3 λw_4=>
 zd .geq v27 (.int .i64 0) λv32=>
 HIf v32
 (zg v0 λv35=>
 zc 3 v35 λv36=>
 HLd v36 w_4 λv37=>
 zk 4 v37 v27 λv39=>
 zc 3 v39 λv40=>
 HLd v40 w_4 λv41=>
 zh v41 λv42=>
 zd .eql v42 (.int .i64 0) λv43=>
 HIf v43
 (I [(.bool true)] w_4)
 (zg v0 λv46=>
 zc 3 v46 λv47=>
 HLd v47 w_4 λv48=>
 zk 4 v48 v27 λv50=>
 zc 2 v50 λv51=>
 HLd v51 w_4 λv52=>
 zh v24 λv54=>
 zd .add v52 v54 λv55=>
 zg v0 λv57=>
 zc 2 v57 λv58=>
 HLd v58 w_4 λv59=>
 zd .leq v55 v59 λv60=>
 I [v60] w_4))
 (I [(.bool false)] w_4)) ∧
 ∀(v62:Value) w_5,I [v62] w_5 →
 HIf v62
 (zl w_5 λw_6=>
 zg v0 λv65=>
 zc 3 v65 λv66=>
 HLd v66 w_6 λv67=>
 zk 4 v67 v27 λv69=>
 zc 0 v69 λv70=>
 HLd v70 w_6 λv71=>
 HLd v66 w_6 λv67_1=>
 v67_1=v67 ∧
 HLd v70 w_6 λv71_1=>
 v71_1=v71 ∧
 R (.tuple #[v24,v71,(.bool false),(.int .i64 0)]) w_6)
 (zg v0 λv73=>
 zc 1 v73 λv74=>
 HLd v74 w_5 λv75=>
 ∃I_1:List Value→World→Prop,(zd .geq v27 (.int .i64 0) λv77=>
 HIf v77
 (zg v0 λv79=>
 zc 3 v79 λv80=>
 HLd v80 w_5 λv81=>
 zk 4 v81 v27 λv83=>
 zc 0 v83 λv84=>
 HLd v84 w_5 λv85=>
 zd .add v85 (.int .i64 1) λv86=>
 I_1 [v86] w_5)
 (I_1 [v75] w_5)) ∧
 ∀(v11:Value) w_7,I_1 [v11] w_7 →
 zg v0 λv89=>
 zc 1 v89 λv90=>
 HLd v90 w_7 λv91=>
 zd .add v91 (.int .i64 4096) λv92=>
 zd .geq v11 v92 λv93=>
 HIf v93
 (R (.tuple #[(.slice none 0 0),(.int .i64 0),(.bool false),(.int .i64 7)]) w_7)
 (za Tryz.prog 86 [v0] w_7 λv96 w_8=>
 zd .add v96 (.int .i64 1) λv97=>
 za Tryz.prog 167 [v97] w_8 λv98 w_9=>
 zm 0 v98 λv99=>
 zm 1 v98 λv100=>
 zr 1 1 [.int .u8 0] 5 v99 v24 w_9 λv103 w_10=>
 R (.tuple #[v103,v11,(.bool true),(.int .i64 0)]) w_10))))
theorem vc82(v0 v1:Value)(w:World)(R:Value→World→Prop)(h:Vc82 v0 v1 w R):za Tryz.prog 82 [v0,v1] w R:=
 VJ [] [(8,[62],[0,8,10]),(12,[11],[0,8])] Tryz.func82 (by kernel_rfl) (by kernel_rfl) (by kernel_rfl) h
def Vc83(v0:Value)(w:World)(R:Value→World→Prop):Prop:=
 zg v0 λv6=>
 zc 4 v6 λv7=>
 HLd v7 w λv8=>
 zd .lss v8 (.int .i64 0) λv9=>
 HIf v9
 (R (.int .i64 0) w)
 (za Tryz.prog 73 [v0] w λv11 w_1=>
 ∃I:List Value→World→Prop,(zl w_1 λw_2=>
 zd .geq v11 (.int .i64 0) λv13=>
 HIf v13
 (zg v0 λv16=>
 zc 3 v16 λv17=>
 HLd v17 w_2 λv18=>
 zk 4 v18 v11 λv20=>
 zc 0 v20 λv21=>
 HLd v21 w_2 λv22=>
 zg v0 λv24=>
 zc 4 v24 λv25=>
 HLd v25 w_2 λv26=>
 zd .eql v22 v26 λv27=>
 HIf v27
 (zl w_2 λw_3=>
 zg v0 λv30=>
 zc 0 v30 λv31=>
 HLd v31 w_3 λv32=>
 zg v0 λv34=>
 zc 4 v34 λv35=>
 HLd v35 w_3 λv36=>
 zg v0 λv38=>
 zc 3 v38 λv39=>
 HLd v39 w_3 λv40=>
 zk 4 v40 v11 λv42=>
 zc 2 v42 λv43=>
 HLd v43 w_3 λv44=>
 za Tryz.prog 74 [v32,v36,v44] w_3 λv45 w_4=>
 I [v45] w_4)
 (zl w_2 λw_5=>
 zg v0 λv47=>
 zc 0 v47 λv48=>
 HLd v48 w_5 λv49=>
 zg v0 λv51=>
 zc 4 v51 λv52=>
 HLd v52 w_5 λv53=>
 za Tryz.prog 72 [v49,v53] w_5 λv54 w_6=>
 I [v54] w_6))
 (zl w_2 λw_7=>
 zg v0 λv47_1=>
 zc 0 v47_1 λv48_1=>
 HLd v48_1 w_7 λv49_1=>
 zg v0 λv51_1=>
 zc 4 v51_1 λv52_1=>
 HLd v52_1 w_7 λv53_1=>
 za Tryz.prog 72 [v49_1,v53_1] w_7 λv54_1 w_8=>
 I [v54_1] w_8)) ∧
 ∀(v3:Value) w_9,I [v3] w_9 →
 zd .eql v3 (.int .i64 0) λv56=>
 HIf v56
 (zg v0 λv58=>
 zc 4 v58 λv59=>
 HSt v59 (.int .i64 (-1)) w_9 λw_10=>
 R v3 w_10)
 (R v3 w_9))
theorem vc83(v0:Value)(w:World)(R:Value→World→Prop)(h:Vc83 v0 w R):za Tryz.prog 83 [v0] w R:=
 VJ [] [(8,[3],[0])] Tryz.func83 (by kernel_rfl) (by kernel_rfl) (by kernel_rfl) h
def Vc86(v0:Value)(w:World)(R:Value→World→Prop):Prop:=
 zg v0 λv5=>
 zc 3 v5 λv6=>
 HLd v6 w λv7=>
 zh v7 λv8=>
 zd .eql v8 (.int .i64 0) λv9=>
 HIf v9
 (R (.int .i64 0) w)
 (zl w λw_1=>
 zg v0 λv11=>
 zc 3 v11 λv12=>
 HLd v12 w_1 λv13=>
 (za Tryz.prog 73 [v0] w_1 λv15 w_2=>
 HLd v12 w_2 λv13_1=>
 v13_1=v13 ∧
 zk 4 v13 v15 λv16=>
 zj 4 v16 w_2 λv17=>
 zn [.int .i64 0,.int .i64 0,.int .i64 0,.slice none 0 0] 157 w_2 λv3 w_3=>
 HLd v12 w_3 λv13_2=>
 v13_2=v13 ∧
 zj 4 v16 w_3 λv17_1=>
 v17_1=v17 ∧
 zp 4 v3 v17 w_3 λw_4=>
 zc 1 v3 λv18=>
 HLd v18 w_4 λv19=>
 zd .sub v19 (.int .i64 1) λv20=>
 zc 3 v3 λv21=>
 HLd v21 w_4 λv22=>
 zh v22 λv23=>
 zd .add v20 v23 λv24=>
 R v24 w_4) ∧
 (zn [.int .i64 0,.int .i64 0,.int .i64 0,.slice none 0 0] 157 w_1 λv3_1 w_5=>
 HLd v12 w_5 λv13_3=>
 v13_3=v13 ∧
 za Tryz.prog 73 [v0] w_5 λv15_1 w_6=>
 HLd v12 w_6 λv13_4=>
 v13_4=v13 ∧
 zk 4 v13 v15_1 λv16_1=>
 zj 4 v16_1 w_6 λv17_2=>
 zp 4 v3_1 v17_2 w_6 λw_7=>
 zc 1 v3_1 λv18_1=>
 HLd v18_1 w_7 λv19_1=>
 zd .sub v19_1 (.int .i64 1) λv20_1=>
 zc 3 v3_1 λv21_1=>
 HLd v21_1 w_7 λv22_1=>
 zh v22_1 λv23_1=>
 zd .add v20_1 v23_1 λv24_1=>
 R v24_1 w_7))
theorem vc86(v0:Value)(w:World)(R:Value→World→Prop)(h:Vc86 v0 w R):za Tryz.prog 86 [v0] w R:=
 VV Tryz.func86 (by kernel_rfl) (by kernel_rfl) (by kernel_rfl) h
def Vc94(v0:Value)(w:World)(R:Value→World→Prop):Prop:=
 zg v0 λv4=>
 zc 3 v4 λv5=>
 HLd v5 w λv6=>
 zh v6 λv7=>
 zd .eql v7 (.int .i64 0) λv8=>
 HIf v8
 (R (.int .i64 1) w)
 (zg v0 λv10=>
 zc 3 v10 λv11=>
 HLd v11 w λv12=>
 zk 4 v12 (.int .i64 0) λv13=>
 zc 1 v13 λv14=>
 HLd v14 w λv15=>
 R v15 w)
theorem vc94(v0:Value)(w:World)(R:Value→World→Prop)(h:Vc94 v0 w R):za Tryz.prog 94 [v0] w R:=
 VV Tryz.func94 (by kernel_rfl) (by kernel_rfl) (by kernel_rfl) h
def Vc95(v0 v1:Value)(w:World)(R:Value→World→Prop):Prop:=
 za Tryz.prog 94 [v0] w λv10 w_1=>
 zd .lss v1 v10 λv11=>
 HIf v11
 (R (.tuple #[(.slice none 0 0),(.int .i64 5)]) w_1)
 (za Tryz.prog 86 [v0] w_1 λv15 w_2=>
 zd .gtr v1 v15 λv16=>
 HIf v16
 (R (.tuple #[(.slice none 0 0),(.int .i64 5)]) w_2)
 (∃(I:List Value→World→Prop) (μ:List Value→World→Nat),I [(.int .i64 0)] w_2 ∧
 ∀(v6:Value) w_3,I [v6] w_3 →
 zg v0 λv20=>
 zc 3 v20 λv21=>
 HLd v21 w_3 λv22=>
 zh v22 λv23=>
 zd .lss v6 v23 λv24=>
 HIf v24
 (zg v0 λv29=>
 zc 3 v29 λv30=>
 HLd v30 w_3 λv31=>
 zk 4 v31 v6 λv33=>
 zc 1 v33 λv34=>
 HLd v34 w_3 λv35=>
 zd .sub v1 v35 λv36=>
 zg v0 λv39=>
 zc 3 v39 λv40=>
 HLd v40 w_3 λv41=>
 zk 4 v41 v6 λv43=>
 zc 3 v43 λv44=>
 HLd v44 w_3 λv45=>
 zh v45 λv46=>
 zd .lss v36 v46 λv47=>
 HIf v47
 (zo (zrow [.int .u8 0] 0) [] 5 0 w_3 λv48 w_4=>
 zg v0 λv50=>
 zc 3 v50 λv51=>
 HLd v51 w_4 λv52=>
 zk 4 v52 v6 λv54=>
 zc 3 v54 λv55=>
 HLd v55 w_4 λv56=>
 zk 1 v56 v36 λv58=>
 HLd v58 w_4 λv59=>
 zr 1 1 [.int .u8 0] 5 v48 v59 w_4 λv60 w_5=>
 R (.tuple #[v60,(.int .i64 0)]) w_5)
 (zd .add v6 (.int .i64 1) λv26=>
 I [v26] w_3∧μ [v26] w_3<μ [v6] w_3))
 (R (.tuple #[(.slice none 0 0),(.int .i64 5)]) w_3)))
theorem vc95(v0 v1:Value)(w:World)(R:Value→World→Prop)(h:Vc95 v0 v1 w R):za Tryz.prog 95 [v0,v1] w R:=
 VJ [(4,[6],[0,1])] [] Tryz.func95 (by kernel_rfl) (by kernel_rfl) (by kernel_rfl) h
def Vc167(v0:Value)(w:World)(R:Value→World→Prop):Prop:=
 zd .lss v0 (.int .i64 1) λv7=>
 HIf v7
 (R (.tuple #[(.slice none 0 0),(.int .i64 1)]) w)
 (zd .gtr v0 (.int .i64 1099511627776) λv10=>
 HIf v10
 (R (.tuple #[(.slice none 0 0),(.int .i64 1)]) w)
 (za Tryz.prog 78 [v0] w λv14 w_1=>
 zo (zrow [.int .i64 0,.int .i64 0,.string ⟨#[]⟩] 1) [(0,3,v14)] 165 1 w_1 λv15 w_2=>
 za Tryz.prog 81 [v15] w_2 λv16 w_3=>
 zm 0 v16 λv17=>
 zm 1 v16 λv18=>
 za Tryz.prog 166 [v17] w_3 λv20 w_4=>
 zm 0 v20 λv21=>
 zm 1 v20 λv22=>
 R (.tuple #[v21,v22]) w_4))
theorem vc167(v0:Value)(w:World)(R:Value→World→Prop)(h:Vc167 v0 w R):za Tryz.prog 167 [v0] w R:=
 VV Tryz.func167 (by kernel_rfl) (by kernel_rfl) (by kernel_rfl) h
end Go.Proofs.YtnmhmnnadkclbaaGreat
