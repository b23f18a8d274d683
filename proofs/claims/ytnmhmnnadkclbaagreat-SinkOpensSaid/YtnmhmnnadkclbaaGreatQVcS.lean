/- Part of the proof (my own). -/
import Derived.Test.YtnmhmnnadkclbaaGreatQTab
namespace Go.Proofs.YtnmhmnnadkclbaaGreat
set_option linter.unusedVariables false
set_option maxRecDepth 100000
open Go.RowKit
def Vc40(v0 v1:Value)(w:World)(R:Value→World→Prop):Prop:=
 zh v1 λv9=>
 ∃(I:List Value→World→Prop) (μ:List Value→World→Nat),I [(.int .i64 0),(.int .i64 0)] w ∧
 ∀(v5 v10:Value) w_1,I [v5,v10] w_1 →
 zd .lss v10 v9 λv11=>
 HIf v11
 (zk 2 v1 v10 λv12=>
 zj 2 v12 w_1 λv13=>
 zn [.int .i64 0,.int .i64 0] 48 w_1 λv7 w_2=>
 zp 2 v7 v13 w_2 λw_3=>
 zj 2 v7 w_3 λv14=>
 za Tryz.prog 120 [v14] w_3 λv15 w_4=>
 HIf v15
 (zg v0 λv18=>
 zc 0 v18 λv19=>
 HLd v19 w_4 λv20=>
 zh v20 λv21=>
 zd .lss v21 (.int .i64 1024) λv22=>
 HIf v22
 (zl w_4 λw_5=>
 zg v0 λv26=>
 zc 0 v26 λv27=>
 HLd v27 w_5 λv28=>
 zj 2 v7 w_5 λv29=>
 zo (zrow [.int .i64 0,.int .i64 0] 1) [(0,2,v29)] 48 1 w_5 λv30 w_6=>
 HLd v27 w_6 λv28_1=>
 v28_1=v28 ∧
 zr 2 16 [.int .i64 0,.int .i64 0] 48 v28 v30 w_6 λv31 w_7=>
 zg v0 λv32=>
 zc 0 v32 λv33=>
 HSt v33 v31 w_7 λw_8=>
 zd .add v5 (.int .i64 1) λv35=>
 zd .add v10 (.int .i64 1) λv36=>
 I [v35,v36] w_8∧μ [v35,v36] w_8<μ [v5,v10] w_1)
 (zd .add v10 (.int .i64 1) λv36_1=>
 I [v5,v36_1] w_4∧μ [v5,v36_1] w_4<μ [v5,v10] w_1))
 (zd .add v10 (.int .i64 1) λv36_2=>
 I [v5,v36_2] w_4∧μ [v5,v36_2] w_4<μ [v5,v10] w_1))
 (R v5 w_1)
theorem vc40(v0 v1:Value)(w:World)(R:Value→World→Prop)(h:Vc40 v0 v1 w R):za Tryz.prog 40 [v0,v1] w R:=
 VJ [(3,[5,10],[0,8,9])] [] Tryz.func40 (by kernel_rfl) (by kernel_rfl) (by kernel_rfl) h
def Vc41(v0:Value)(w:World)(R:Value→World→Prop):Prop:=
 zg v0 λv4=>
 zc 0 v4 λv5=>
 HLd v5 w λv6=>
 zh v6 λv7=>
 R v7 w
theorem vc41(v0:Value)(w:World)(R:Value→World→Prop)(h:Vc41 v0 w R):za Tryz.prog 41 [v0] w R:=
 VV Tryz.func41 (by kernel_rfl) (by kernel_rfl) (by kernel_rfl) h
def Vc92(w:World)(R:Value→World→Prop):Prop:=
 zt [.slice none 0 0] [] λv1=>
 ∃cs:List Value,v1= .agg cs.toArray∧zn cs 219 w λv2 w_1=>
 R v2 w_1
theorem vc92(w:World)(R:Value→World→Prop)(h:Vc92 w R):za Tryz.prog 92 [] w R:=
 VV Tryz.func92 (by kernel_rfl) (by kernel_rfl) (by kernel_rfl) h
def Vc103(v0:Value)(w:World)(R:Value→World→Prop):Prop:=
 zn [.int .i64 0,.int .i64 0] 48 w λv2 w_1=>
 zg v0 λv6=>
 zc 0 v6 λv7=>
 HLd v7 w_1 λv8=>
 zh v8 λv9=>
 zd .eql v9 (.int .i64 0) λv10=>
 HIf v10
 (zt [.int .i64 0,.int .i64 0] [] λv11=>
 zp 2 v2 v11 w_1 λw_2=>
 zj 2 v2 w_2 λr=>
 R (.tuple #[r,(.bool false)]) w_2)
 (zg v0 λv13=>
 zc 0 v13 λv14=>
 HLd v14 w_1 λv15=>
 zk 2 v15 (.int .i64 0) λv16=>
 zj 2 v16 w_1 λv17=>
 zn [.int .i64 0,.int .i64 0] 48 w_1 λv4 w_3=>
 zp 2 v4 v17 w_3 λw_4=>
 zg v0 λv20=>
 zc 0 v20 λv21=>
 HLd v21 w_4 λv22=>
 HSl 2 v22 (some (.int .i64 1)) none none λv23=>
 zg v0 λv24=>
 zc 0 v24 λv25=>
 HSt v25 v23 w_4 λw_5=>
 zj 2 v4 w_5 λv26=>
 zp 2 v2 v26 w_5 λw_6=>
 zj 2 v2 w_6 λr_1=>
 R (.tuple #[r_1,(.bool true)]) w_6)
theorem vc103(v0:Value)(w:World)(R:Value→World→Prop)(h:Vc103 v0 w R):za Tryz.prog 103 [v0] w R:=
 VV Tryz.func103 (by kernel_rfl) (by kernel_rfl) (by kernel_rfl) h
def Vc120(v0:Value)(w:World)(R:Value→World→Prop):Prop:=
 ∃cs:List Value,v0= .agg cs.toArray∧zn cs 48 w λv1 w_1=>
 zc 0 v1 λv3=>
 HLd v3 w_1 λv4=>
 zd .eql v4 (.int .i64 1) λv6=>
 HIf v6
 (zc 1 v1 λv8=>
 HLd v8 w_1 λv9=>
 zd .eql v9 (.int .i64 0) λv10=>
 R v10 w_1)
 (zd .eql v4 (.int .i64 3) λv7=>
 HIf v7
 (zc 1 v1 λv8_1=>
 HLd v8_1 w_1 λv9_1=>
 zd .eql v9_1 (.int .i64 0) λv10_1=>
 R v10_1 w_1)
 (zd .eql v4 (.int .i64 2) λv12=>
 HIf v12
 (zc 1 v1 λv13=>
 HLd v13 w_1 λv14=>
 zd .geq v14 (.int .i64 0) λv15=>
 R v15 w_1)
 (R (.bool false) w_1)))
theorem vc120(v0:Value)(w:World)(R:Value→World→Prop)(h:Vc120 v0 w R):za Tryz.prog 120 [v0] w R:=
 VV Tryz.func120 (by kernel_rfl) (by kernel_rfl) (by kernel_rfl) h
def Vc180(v0:Value)(w:World)(R:Value→World→Prop):Prop:=
 zh v0 λv7=>
 ∃(I:List Value→World→Prop) (μ:List Value→World→Nat),I [(.slice none 0 0),(.int .i64 0)] w ∧
 ∀(v3 v8:Value) w_1,I [v3,v8] w_1 →
 zd .lss v8 v7 λv9=>
 HIf v9
 (zk 1 v0 v8 λv10=>
 HLd v10 w_1 λv11=>
 zt [.int .i64 0,.int .i64 0,.string ⟨#[]⟩] [(0,1,(.int .i64 1)),(1,1,v11)] λv14=>
 zo (zrow [.int .i64 0,.int .i64 0,.string ⟨#[]⟩] 1) [(0,3,v14)] 165 1 w_1 λv15 w_2=>
 zr 3 32 [.int .i64 0,.int .i64 0,.string ⟨#[]⟩] 165 v3 v15 w_2 λv16 w_3=>
 zd .add v8 (.int .i64 1) λv17=>
 I [v16,v17] w_3∧μ [v16,v17] w_3<μ [v3,v8] w_1)
 (R v3 w_1)
theorem vc180(v0:Value)(w:World)(R:Value→World→Prop)(h:Vc180 v0 w R):za Tryz.prog 180 [v0] w R:=
 VJ [(3,[3,8],[6,7])] [] Tryz.func180 (by kernel_rfl) (by kernel_rfl) (by kernel_rfl) h
def Vc181(v0:Value)(w:World)(R:Value→World→Prop):Prop:=
 HIf v0
 (R (.int .i64 1) w)
 (R (.int .i64 0) w)
theorem vc181(v0:Value)(w:World)(R:Value→World→Prop)(h:Vc181 v0 w R):za Tryz.prog 181 [v0] w R:=
 VV Tryz.func181 (by kernel_rfl) (by kernel_rfl) (by kernel_rfl) h
def Vc182(v0:Value)(w:World)(R:Value→World→Prop):Prop:=
 zn [.int .i64 0,.int .i64 0,.string ⟨#[]⟩] 165 w λv2 w_1=>
 zt [.int .i64 0,.int .i64 0,.string ⟨#[]⟩] [(0,1,(.int .i64 2)),(2,1,v0)] λv4=>
 zp 3 v2 v4 w_1 λw_2=>
 zj 3 v2 w_2 λr=>
 R r w_2
theorem vc182(v0:Value)(w:World)(R:Value→World→Prop)(h:Vc182 v0 w R):za Tryz.prog 182 [v0] w R:=
 VV Tryz.func182 (by kernel_rfl) (by kernel_rfl) (by kernel_rfl) h
def Vc216(v0:Value)(w:World)(R:Value→World→Prop):Prop:=
 zt [.slice none 0 0,.bool false] [(0,1,v0)] λv4=>
 ∃cs:List Value,v4= .agg cs.toArray∧zn cs 341 w λv5 w_1=>
 R v5 w_1
theorem vc216(v0:Value)(w:World)(R:Value→World→Prop)(h:Vc216 v0 w R):za Tryz.prog 216 [v0] w R:=
 VV Tryz.func216 (by kernel_rfl) (by kernel_rfl) (by kernel_rfl) h
def Vc217(v0:Value)(w:World)(R:Value→World→Prop):Prop:=
 za Tryz.prog 247 [v0,(.int .i64 1)] w λv4 w_1=>
 HRq Tryz.prog (Instr.field 165 v4 1) w_1 λv5=>
 R v5 w_1
theorem vc217(v0:Value)(w:World)(R:Value→World→Prop)(h:Vc217 v0 w R):za Tryz.prog 217 [v0] w R:=
 VV Tryz.func217 (by kernel_rfl) (by kernel_rfl) (by kernel_rfl) h
def Vc218(v0 v1:Value)(w:World)(R:Value→World→Prop):Prop:=
 za Tryz.prog 217 [v0] w λv7 w_1=>
 zd .lss v7 (.int .i64 0) λv9=>
 HIf v9
 (zg v0 λv16=>
 zc 1 v16 λv17=>
 HSt v17 (.bool true) w_1 λw_2=>
 R (.int .i64 0) w_2)
 (zd .gtr v7 v1 λv13=>
 HIf v13
 (zg v0 λv16_1=>
 zc 1 v16_1 λv17_1=>
 HSt v17_1 (.bool true) w_1 λw_3=>
 R (.int .i64 0) w_3)
 (R v7 w_1))
theorem vc218(v0 v1:Value)(w:World)(R:Value→World→Prop)(h:Vc218 v0 v1 w R):za Tryz.prog 218 [v0,v1] w R:=
 VV Tryz.func218 (by kernel_rfl) (by kernel_rfl) (by kernel_rfl) h
def Vc219(v0:Value)(w:World)(R:Value→World→Prop):Prop:=
 zg v0 λv4=>
 zc 1 v4 λv5=>
 HLd v5 w λv6=>
 zw v6 λv7=>
 R v7 w
theorem vc219(v0:Value)(w:World)(R:Value→World→Prop)(h:Vc219 v0 w R):za Tryz.prog 219 [v0] w R:=
 VV Tryz.func219 (by kernel_rfl) (by kernel_rfl) (by kernel_rfl) h
def Vc222(v0:Value)(w:World)(R:Value→World→Prop):Prop:=
 zg v0 λv4=>
 zc 1 v4 λv5=>
 HLd v5 w λv6=>
 zw v6 λv7=>
 HIf v7
 (zg v0 λv10=>
 zc 0 v10 λv11=>
 HLd v11 w λv12=>
 zh v12 λv13=>
 zd .eql v13 (.int .i64 0) λv14=>
 R v14 w)
 (R (.bool false) w)
theorem vc222(v0:Value)(w:World)(R:Value→World→Prop)(h:Vc222 v0 w R):za Tryz.prog 222 [v0] w R:=
 VV Tryz.func222 (by kernel_rfl) (by kernel_rfl) (by kernel_rfl) h
def Vc247(v0 v1:Value)(w:World)(R:Value→World→Prop):Prop:=
 zn [.int .i64 0,.int .i64 0,.string ⟨#[]⟩] 165 w λv4 w_1=>
 zg v0 λv7=>
 zc 1 v7 λv8=>
 HLd v8 w_1 λv9=>
 HIf v9
 (zg v0 λv30=>
 zc 1 v30 λv31=>
 HSt v31 (.bool true) w_1 λw_2=>
 zt [.int .i64 0,.int .i64 0,.string ⟨#[]⟩] [] λv32=>
 zp 3 v4 v32 w_2 λw_3=>
 zj 3 v4 w_3 λr=>
 R r w_3)
 (zg v0 λv12=>
 zc 0 v12 λv13=>
 HLd v13 w_1 λv14=>
 zh v14 λv15=>
 zd .eql v15 (.int .i64 0) λv16=>
 HIf v16
 (zg v0 λv30_1=>
 zc 1 v30_1 λv31_1=>
 HSt v31_1 (.bool true) w_1 λw_4=>
 zt [.int .i64 0,.int .i64 0,.string ⟨#[]⟩] [] λv32_1=>
 zp 3 v4 v32_1 w_4 λw_5=>
 zj 3 v4 w_5 λr_1=>
 R r_1 w_5)
 (zg v0 λv20=>
 zc 0 v20 λv21=>
 HLd v21 w_1 λv22=>
 zk 3 v22 (.int .i64 0) λv23=>
 zc 0 v23 λv24=>
 HLd v24 w_1 λv25=>
 zd .neq v25 v1 λv27=>
 HIf v27
 (zg v0 λv30_2=>
 zc 1 v30_2 λv31_2=>
 HSt v31_2 (.bool true) w_1 λw_6=>
 zt [.int .i64 0,.int .i64 0,.string ⟨#[]⟩] [] λv32_2=>
 zp 3 v4 v32_2 w_6 λw_7=>
 zj 3 v4 w_7 λr_2=>
 R r_2 w_7)
 (zg v0 λv34=>
 zc 0 v34 λv35=>
 HLd v35 w_1 λv36=>
 zk 3 v36 (.int .i64 0) λv37=>
 zj 3 v37 w_1 λv38=>
 zn [.int .i64 0,.int .i64 0,.string ⟨#[]⟩] 165 w_1 λv5 w_8=>
 zp 3 v5 v38 w_8 λw_9=>
 zg v0 λv41=>
 zc 0 v41 λv42=>
 HLd v42 w_9 λv43=>
 HSl 3 v43 (some (.int .i64 1)) none none λv44=>
 zg v0 λv45=>
 zc 0 v45 λv46=>
 HSt v46 v44 w_9 λw_10=>
 zj 3 v5 w_10 λv47=>
 zp 3 v4 v47 w_10 λw_11=>
 zj 3 v4 w_11 λr_3=>
 R r_3 w_11)))
theorem vc247(v0 v1:Value)(w:World)(R:Value→World→Prop)(h:Vc247 v0 v1 w R):za Tryz.prog 247 [v0,v1] w R:=
 VV Tryz.func247 (by kernel_rfl) (by kernel_rfl) (by kernel_rfl) h
def Vc248(v0:Value)(w:World)(R:Value→World→Prop):Prop:=
 za Tryz.prog 218 [v0,(.int .i64 1)] w λv4 w_1=>
 zd .eql v4 (.int .i64 1) λv5=>
 R v5 w_1
theorem vc248(v0:Value)(w:World)(R:Value→World→Prop)(h:Vc248 v0 w R):za Tryz.prog 248 [v0] w R:=
 VV Tryz.func248 (by kernel_rfl) (by kernel_rfl) (by kernel_rfl) h
def Vc249(v0:Value)(w:World)(R:Value→World→Prop):Prop:=
 za Tryz.prog 247 [v0,(.int .i64 2)] w λv4 w_1=>
 HRq Tryz.prog (Instr.field 165 v4 2) w_1 λv5=>
 R v5 w_1
theorem vc249(v0:Value)(w:World)(R:Value→World→Prop)(h:Vc249 v0 w R):za Tryz.prog 249 [v0] w R:=
 VV Tryz.func249 (by kernel_rfl) (by kernel_rfl) (by kernel_rfl) h
def Vc101(v0:Value)(w:World)(R:Value→World→Prop):Prop:=
 ∃cs:List Value,v0= .agg cs.toArray∧zn cs 46 w λv1 w_1=>
 zc 0 v1 λv7=>
 HLd v7 w_1 λv8=>
 zd .lss v8 (.int .i64 1) λv9=>
 HIf v9
 (R (.bool false) w_1)
 (zc 0 v1 λv11=>
 HLd v11 w_1 λv12=>
 zd .gtr v12 (.int .i64 1099511627776) λv13=>
 HIf v13
 (R (.bool false) w_1)
 (zc 1 v1 λv16=>
 HLd v16 w_1 λv17=>
 zh v17 λv18=>
 zd .gtr v18 (.int .i64 4096) λv19=>
 HIf v19
 (R (.bool false) w_1)
 (zc 2 v1 λv22=>
 HLd v22 w_1 λv23=>
 zh v23 λv24=>
 zd .gtr v24 (.int .i64 256) λv25=>
 HIf v25
 (R (.bool false) w_1)
 (zc 1 v1 λv27=>
 HLd v27 w_1 λv28=>
 zh v28 λv29=>
 ∃(I:List Value→World→Prop) (μ:List Value→World→Nat),I [(.int .i64 0)] w_1 ∧
 ∀(v30:Value) w_2,I [v30] w_2 →
 zd .lss v30 v29 λv31=>
 HIf v31
 (zk 5 v28 v30 λv32=>
 zj 5 v32 w_2 λv33=>
 zn [.int .i64 0,.int .i64 0,.int .i64 0,.bool false,.string ⟨#[]⟩] 96 w_2 λv4 w_3=>
 zp 5 v4 v33 w_3 λw_4=>
 zj 5 v4 w_4 λv34=>
 zc 0 v1 λv35=>
 HLd v35 w_4 λv36=>
 za Tryz.prog 178 [v34,v36] w_4 λv37 w_5=>
 zw v37 λv38=>
 HIf v38
 (R (.bool false) w_5)
 (zd .add v30 (.int .i64 1) λv39=>
 I [v39] w_5∧μ [v39] w_5<μ [v30] w_2))
 (zc 2 v1 λv40=>
 HLd v40 w_2 λv41=>
 zh v41 λv42=>
 ∃(I_1:List Value→World→Prop) (μ_1:List Value→World→Nat),I_1 [(.int .i64 0)] w_2 ∧
 ∀(v43:Value) w_6,I_1 [v43] w_6 →
 zd .lss v43 v42 λv44=>
 HIf v44
 (zk 7 v41 v43 λv45=>
 zj 7 v45 w_6 λv46=>
 zn [.int .i64 0,.int .i64 0,.int .i64 0,.int .i64 0,.int .i64 0,.int .i64 0,.bool false] 98 w_6 λv6 w_7=>
 zp 7 v6 v46 w_7 λw_8=>
 zj 7 v6 w_8 λv47=>
 zc 0 v1 λv48=>
 HLd v48 w_8 λv49=>
 za Tryz.prog 179 [v47,v49] w_8 λv50 w_9=>
 zw v50 λv51=>
 HIf v51
 (R (.bool false) w_9)
 (zd .add v43 (.int .i64 1) λv52=>
 I_1 [v52] w_9∧μ_1 [v52] w_9<μ_1 [v43] w_6))
 (R (.bool true) w_6))))))
theorem vc101(v0:Value)(w:World)(R:Value→World→Prop)(h:Vc101 v0 w R):za Tryz.prog 101 [v0] w R:=
 VJ [(4,[30],[1,28,29]),(10,[43],[1,41,42])] [] Tryz.func101 (by kernel_rfl) (by kernel_rfl) (by kernel_rfl) h
def Vc104(v0:Value)(w:World)(R:Value→World→Prop):Prop:=
 ∃cs:List Value,v0= .agg cs.toArray∧zn cs 46 w λv1 w_1=>
 zj 3 v1 w_1 λv9=>
 za Tryz.prog 101 [v9] w_1 λv10 w_2=>
 zw v10 λv11=>
 HIf v11
 (R (.tuple #[(.slice none 0 0),(.int .i64 1)]) w_2)
 (zc 0 v1 λv12=>
 HLd v12 w_2 λv13=>
 zc 1 v1 λv14=>
 HLd v14 w_2 λv15=>
 zh v15 λv16=>
 zo (zrow [.int .i64 0] 2) [(0,1,v13),(1,1,v16)] 2 2 w_2 λv17 w_3=>
 za Tryz.prog 180 [v17] w_3 λv18 w_4=>
 zc 1 v1 λv19=>
 HLd v19 w_4 λv20=>
 zh v20 λv21=>
 ∃(I:List Value→World→Prop) (μ:List Value→World→Nat),I [v18,(.int .i64 0)] w_4 ∧
 ∀(v4 v22:Value) w_5,I [v4,v22] w_5 →
 zd .lss v22 v21 λv23=>
 HIf v23
 (zk 5 v20 v22 λv24=>
 zj 5 v24 w_5 λv25=>
 zn [.int .i64 0,.int .i64 0,.int .i64 0,.bool false,.string ⟨#[]⟩] 96 w_5 λv6 w_6=>
 zp 5 v6 v25 w_6 λw_7=>
 zl w_7 λw_8=>
 zc 0 v6 λv27=>
 HLd v27 w_8 λv28=>
 zc 1 v6 λv29=>
 HLd v29 w_8 λv30=>
 zc 2 v6 λv31=>
 HLd v31 w_8 λv32=>
 zc 3 v6 λv33=>
 HLd v33 w_8 λv34=>
 za Tryz.prog 181 [v34] w_8 λv35 w_9=>
 HLd v27 w_9 λv28_1=>
 v28_1=v28 ∧
 HLd v29 w_9 λv30_1=>
 v30_1=v30 ∧
 HLd v31 w_9 λv32_1=>
 v32_1=v32 ∧
 zo (zrow [.int .i64 0] 4) [(0,1,v28),(1,1,v30),(2,1,v32),(3,1,v35)] 2 4 w_9 λv36 w_10=>
 za Tryz.prog 180 [v36] w_10 λv37 w_11=>
 zr 3 32 [.int .i64 0,.int .i64 0,.string ⟨#[]⟩] 165 v4 v37 w_11 λv38 w_12=>
 zc 4 v6 λv40=>
 HLd v40 w_12 λv41=>
 za Tryz.prog 182 [v41] w_12 λv42 w_13=>
 zo (zrow [.int .i64 0,.int .i64 0,.string ⟨#[]⟩] 1) [(0,3,v42)] 165 1 w_13 λv43 w_14=>
 zr 3 32 [.int .i64 0,.int .i64 0,.string ⟨#[]⟩] 165 v38 v43 w_14 λv44 w_15=>
 zd .add v22 (.int .i64 1) λv45=>
 I [v44,v45] w_15∧μ [v44,v45] w_15<μ [v4,v22] w_5)
 (zc 2 v1 λv47=>
 HLd v47 w_5 λv48=>
 zh v48 λv49=>
 zo (zrow [.int .i64 0] 1) [(0,1,v49)] 2 1 w_5 λv50 w_16=>
 za Tryz.prog 180 [v50] w_16 λv51 w_17=>
 zr 3 32 [.int .i64 0,.int .i64 0,.string ⟨#[]⟩] 165 v4 v51 w_17 λv52 w_18=>
 zc 2 v1 λv53=>
 HLd v53 w_18 λv54=>
 zh v54 λv55=>
 ∃(I_1:List Value→World→Prop) (μ_1:List Value→World→Nat),I_1 [v52,(.int .i64 0)] w_18 ∧
 ∀(v4_1:Value) (v56:Value) w_19,I_1 [v4_1,v56] w_19 →
 zd .lss v56 v55 λv57=>
 HIf v57
 (zk 7 v54 v56 λv58=>
 zj 7 v58 w_19 λv59=>
 zn [.int .i64 0,.int .i64 0,.int .i64 0,.int .i64 0,.int .i64 0,.int .i64 0,.bool false] 98 w_19 λv8 w_20=>
 zp 7 v8 v59 w_20 λw_21=>
 zl w_21 λw_22=>
 zc 0 v8 λv61=>
 HLd v61 w_22 λv62=>
 zc 1 v8 λv63=>
 HLd v63 w_22 λv64=>
 zc 2 v8 λv65=>
 HLd v65 w_22 λv66=>
 zc 3 v8 λv67=>
 HLd v67 w_22 λv68=>
 zc 4 v8 λv69=>
 HLd v69 w_22 λv70=>
 zc 5 v8 λv71=>
 HLd v71 w_22 λv72=>
 zc 6 v8 λv73=>
 HLd v73 w_22 λv74=>
 za Tryz.prog 181 [v74] w_22 λv75 w_23=>
 HLd v61 w_23 λv62_1=>
 v62_1=v62 ∧
 HLd v63 w_23 λv64_1=>
 v64_1=v64 ∧
 HLd v65 w_23 λv66_1=>
 v66_1=v66 ∧
 HLd v67 w_23 λv68_1=>
 v68_1=v68 ∧
 HLd v69 w_23 λv70_1=>
 v70_1=v70 ∧
 HLd v71 w_23 λv72_1=>
 v72_1=v72 ∧
 zo (zrow [.int .i64 0] 7) [(0,1,v62),(1,1,v64),(2,1,v66),(3,1,v68),(4,1,v70),(5,1,v72),(6,1,v75)] 2 7 w_23 λv76 w_24=>
 za Tryz.prog 180 [v76] w_24 λv77 w_25=>
 zr 3 32 [.int .i64 0,.int .i64 0,.string ⟨#[]⟩] 165 v4_1 v77 w_25 λv78 w_26=>
 zd .add v56 (.int .i64 1) λv79=>
 I_1 [v78,v79] w_26∧μ_1 [v78,v79] w_26<μ_1 [v4_1,v56] w_19)
 (za Tryz.prog 183 [v4_1] w_19 λv81 w_27=>
 zm 0 v81 λv82=>
 zm 1 v81 λv83=>
 R (.tuple #[v82,v83]) w_27)))
theorem vc104(v0:Value)(w:World)(R:Value→World→Prop)(h:Vc104 v0 w R):za Tryz.prog 104 [v0] w R:=
 VJ [(5,[4,22],[1,20,21]),(12,[4,56],[54,55])] [] Tryz.func104 (by kernel_rfl) (by kernel_rfl) (by kernel_rfl) h
def Vc172(v0:Value)(w:World)(R:Value→World→Prop):Prop:=
 zn [.int .i64 0,.slice none 0 0,.slice none 0 0] 46 w λv2 w_1=>
 za Tryz.prog 215 [v0] w_1 λv12 w_2=>
 zm 0 v12 λv13=>
 zm 1 v12 λv14=>
 zd .neq v14 (.int .i64 0) λv16=>
 HIf v16
 (zt [.int .i64 0,.slice none 0 0,.slice none 0 0] [] λv17=>
 zp 3 v2 v17 w_2 λw_3=>
 zj 3 v2 w_3 λr=>
 R (.tuple #[r,v14]) w_3)
 (za Tryz.prog 216 [v13] w_2 λv20 w_4=>
 za Tryz.prog 217 [v20] w_4 λv22 w_5=>
 zt [.int .i64 0,.slice none 0 0,.slice none 0 0] [(0,1,v22)] λv23=>
 zn [.int .i64 0,.slice none 0 0,.slice none 0 0] 46 w_5 λv7 w_6=>
 zp 3 v7 v23 w_6 λw_7=>
 ∃I:List Value→World→Prop,(za Tryz.prog 218 [v20,(.int .i64 4096)] w_7 λv25 w_8=>
 ∃(I_1:List Value→World→Prop) (μ:List Value→World→Nat),I_1 [v25] w_8 ∧
 ∀(v8:Value) w_9,I_1 [v8] w_9 →
 zd .gtr v8 (.int .i64 0) λv27=>
 HIf v27
 (za Tryz.prog 219 [v20] w_9 λv30 w_10=>
 HIf v30
 (zl w_10 λw_11=>
 zc 1 v7 λv34=>
 HLd v34 w_11 λv35=>
 za Tryz.prog 220 [v20] w_11 λv37 w_12=>
 HLd v34 w_12 λv35_1=>
 v35_1=v35 ∧
 zo (zrow [.int .i64 0,.int .i64 0,.int .i64 0,.bool false,.string ⟨#[]⟩] 1) [(0,5,v37)] 96 1 w_12 λv38 w_13=>
 HLd v34 w_13 λv35_2=>
 v35_2=v35 ∧
 zr 5 48 [.int .i64 0,.int .i64 0,.int .i64 0,.bool false,.string ⟨#[]⟩] 96 v35 v38 w_13 λv39 w_14=>
 zc 1 v7 λv40=>
 HSt v40 v39 w_14 λw_15=>
 zd .sub v8 (.int .i64 1) λv33=>
 I_1 [v33] w_15∧μ [v33] w_15<μ [v8] w_9)
 (I [] w_10))
 (I [] w_9)) ∧
 ∀w_16,I [] w_16 →
 ∃I_2:List Value→World→Prop,(za Tryz.prog 218 [v20,(.int .i64 256)] w_16 λv42 w_17=>
 ∃(I_3:List Value→World→Prop) (μ_1:List Value→World→Nat),I_3 [v42] w_17 ∧
 ∀(v9:Value) w_18,I_3 [v9] w_18 →
 zd .gtr v9 (.int .i64 0) λv44=>
 HIf v44
 (za Tryz.prog 219 [v20] w_18 λv47 w_19=>
 HIf v47
 (zl w_19 λw_20=>
 zc 2 v7 λv51=>
 HLd v51 w_20 λv52=>
 za Tryz.prog 221 [v20] w_20 λv54 w_21=>
 HLd v51 w_21 λv52_1=>
 v52_1=v52 ∧
 zo (zrow [.int .i64 0,.int .i64 0,.int .i64 0,.int .i64 0,.int .i64 0,.int .i64 0,.bool false] 1) [(0,7,v54)] 98 1 w_21 λv55 w_22=>
 HLd v51 w_22 λv52_2=>
 v52_2=v52 ∧
 zr 7 56 [.int .i64 0,.int .i64 0,.int .i64 0,.int .i64 0,.int .i64 0,.int .i64 0,.bool false] 98 v52 v55 w_22 λv56 w_23=>
 zc 2 v7 λv57=>
 HSt v57 v56 w_23 λw_24=>
 zd .sub v9 (.int .i64 1) λv50=>
 I_3 [v50] w_24∧μ_1 [v50] w_24<μ_1 [v9] w_18)
 (I_2 [] w_19))
 (I_2 [] w_18)) ∧
 ∀w_25,I_2 [] w_25 →
 za Tryz.prog 222 [v20] w_25 λv59 w_26=>
 zw v59 λv60=>
 HIf v60
 (zt [.int .i64 0,.slice none 0 0,.slice none 0 0] [] λv66=>
 zp 3 v2 v66 w_26 λw_27=>
 zj 3 v2 w_27 λr_1=>
 R (.tuple #[r_1,(.int .i64 3)]) w_27)
 (zj 3 v7 w_26 λv62=>
 za Tryz.prog 101 [v62] w_26 λv63 w_28=>
 zw v63 λv64=>
 HIf v64
 (zt [.int .i64 0,.slice none 0 0,.slice none 0 0] [] λv66_1=>
 zp 3 v2 v66_1 w_28 λw_29=>
 zj 3 v2 w_29 λr_2=>
 R (.tuple #[r_2,(.int .i64 3)]) w_29)
 (zj 3 v7 w_28 λv67=>
 zp 3 v2 v67 w_28 λw_30=>
 zj 3 v2 w_30 λr_3=>
 R (.tuple #[r_3,(.int .i64 0)]) w_30)))
theorem vc172(v0:Value)(w:World)(R:Value→World→Prop)(h:Vc172 v0 w R):za Tryz.prog 172 [v0] w R:=
 VJ [(7,[8],[2,6,7]),(11,[9],[2,6,7])] [(10,[],[2,6,7]),(14,[],[2,6,7])] Tryz.func172 (by kernel_rfl) (by kernel_rfl) (by kernel_rfl) h
def Vc178(v0 v1:Value)(w:World)(R:Value→World→Prop):Prop:=
 ∃cs:List Value,v0= .agg cs.toArray∧zn cs 96 w λv2 w_1=>
 zc 0 v2 λv5=>
 HLd v5 w_1 λv6=>
 zd .geq v6 (.int .i64 1) λv7=>
 HIf v7
 (zc 0 v2 λv9=>
 HLd v9 w_1 λv10=>
 zd .leq v10 v1 λv12=>
 HIf v12
 (zc 1 v2 λv15=>
 HLd v15 w_1 λv16=>
 zd .geq v16 (.int .i64 0) λv17=>
 HIf v17
 (zc 1 v2 λv20=>
 HLd v20 w_1 λv21=>
 zd .lss v21 (.int .i64 8) λv22=>
 HIf v22
 (zc 2 v2 λv25=>
 HLd v25 w_1 λv26=>
 zd .geq v26 (.int .i64 1) λv27=>
 HIf v27
 (zc 2 v2 λv30=>
 HLd v30 w_1 λv31=>
 zd .leq v31 (.int .i64 1099511627776) λv32=>
 HIf v32
 (zc 4 v2 λv35=>
 HLd v35 w_1 λv36=>
 yM v36 λv37=>
 zd .leq v37 (.int .i64 32) λv38=>
 HIf v38
 (zc 3 v2 λv41=>
 HLd v41 w_1 λv42=>
 zw v42 λv43=>
 HIf v43
 (R (.bool true) w_1)
 (zc 4 v2 λv45=>
 HLd v45 w_1 λv46=>
 zd .eql v46 (.string {data:=#[]}) λv47=>
 R v47 w_1))
 (R (.bool false) w_1))
 (R (.bool false) w_1))
 (R (.bool false) w_1))
 (R (.bool false) w_1))
 (R (.bool false) w_1))
 (R (.bool false) w_1))
 (R (.bool false) w_1)
theorem vc178(v0 v1:Value)(w:World)(R:Value→World→Prop)(h:Vc178 v0 v1 w R):za Tryz.prog 178 [v0,v1] w R:=
 VV Tryz.func178 (by kernel_rfl) (by kernel_rfl) (by kernel_rfl) h
def Vc179(v0 v1:Value)(w:World)(R:Value→World→Prop):Prop:=
 ∃cs:List Value,v0= .agg cs.toArray∧zn cs 98 w λv2 w_1=>
 zc 1 v2 λv5=>
 HLd v5 w_1 λv6=>
 zd .lss v6 (.int .i64 1) λv7=>
 HIf v7
 (R (.bool false) w_1)
 (zc 1 v2 λv9=>
 HLd v9 w_1 λv10=>
 zd .gtr v10 (.int .i64 64) λv11=>
 HIf v11
 (R (.bool false) w_1)
 (zc 0 v2 λv13=>
 HLd v13 w_1 λv14=>
 zd .eql v14 (.int .i64 1) λv16=>
 HIf v16
 (zc 2 v2 λv17=>
 HLd v17 w_1 λv18=>
 zd .geq v18 (.int .i64 0) λv19=>
 HIf v19
 (zc 2 v2 λv21=>
 HLd v21 w_1 λv22=>
 zd .lss v22 (.int .i64 8) λv23=>
 HIf v23
 (zc 3 v2 λv26=>
 HLd v26 w_1 λv27=>
 zd .geq v27 (.int .i64 1) λv28=>
 HIf v28
 (zc 3 v2 λv31=>
 HLd v31 w_1 λv32=>
 zd .leq v32 (.int .i64 8) λv33=>
 HIf v33
 (zc 4 v2 λv36=>
 HLd v36 w_1 λv37=>
 zd .geq v37 (.int .i64 1) λv38=>
 HIf v38
 (zc 4 v2 λv41=>
 HLd v41 w_1 λv42=>
 zd .leq v42 v1 λv44=>
 HIf v44
 (zc 5 v2 λv47=>
 HLd v47 w_1 λv48=>
 zd .eql v48 (.int .i64 0) λv49=>
 HIf v49
 (zc 6 v2 λv52=>
 HLd v52 w_1 λv53=>
 zw v53 λv54=>
 R v54 w_1)
 (R (.bool false) w_1))
 (R (.bool false) w_1))
 (R (.bool false) w_1))
 (R (.bool false) w_1))
 (R (.bool false) w_1))
 (R (.bool false) w_1))
 (R (.bool false) w_1))
 (zd .eql v14 (.int .i64 2) λv57=>
 HIf v57
 (zc 2 v2 λv58=>
 HLd v58 w_1 λv59=>
 zd .eql v59 (.int .i64 0) λv60=>
 HIf v60
 (zc 3 v2 λv62=>
 HLd v62 w_1 λv63=>
 zd .eql v63 (.int .i64 0) λv64=>
 HIf v64
 (zc 4 v2 λv67=>
 HLd v67 w_1 λv68=>
 zd .eql v68 (.int .i64 0) λv69=>
 HIf v69
 (zc 5 v2 λv72=>
 HLd v72 w_1 λv73=>
 zd .geq v73 (.int .i64 0) λv74=>
 HIf v74
 (zc 5 v2 λv77=>
 HLd v77 w_1 λv78=>
 zd .leq v78 (.int .i64 1099511627776) λv79=>
 R v79 w_1)
 (R (.bool false) w_1))
 (R (.bool false) w_1))
 (R (.bool false) w_1))
 (R (.bool false) w_1))
 (R (.bool false) w_1))))
theorem vc179(v0 v1:Value)(w:World)(R:Value→World→Prop)(h:Vc179 v0 v1 w R):za Tryz.prog 179 [v0,v1] w R:=
 VV Tryz.func179 (by kernel_rfl) (by kernel_rfl) (by kernel_rfl) h
def Vc220(v0:Value)(w:World)(R:Value→World→Prop):Prop:=
 zn [.int .i64 0,.int .i64 0,.int .i64 0,.bool false,.string ⟨#[]⟩] 96 w λv2 w_1=>
 za Tryz.prog 217 [v0] w_1 λv4 w_2=>
 za Tryz.prog 218 [v0,(.int .i64 8)] w_2 λv6 w_3=>
 za Tryz.prog 217 [v0] w_3 λv8 w_4=>
 za Tryz.prog 248 [v0] w_4 λv10 w_5=>
 za Tryz.prog 249 [v0] w_5 λv12 w_6=>
 zt [.int .i64 0,.int .i64 0,.int .i64 0,.bool false,.string ⟨#[]⟩] [(0,1,v4),(1,1,v6),(2,1,v8),(3,1,v10),(4,1,v12)] λv13=>
 zp 5 v2 v13 w_6 λw_7=>
 zj 5 v2 w_7 λr=>
 R r w_7
theorem vc220(v0:Value)(w:World)(R:Value→World→Prop)(h:Vc220 v0 w R):za Tryz.prog 220 [v0] w R:=
 VV Tryz.func220 (by kernel_rfl) (by kernel_rfl) (by kernel_rfl) h
def Vc221(v0:Value)(w:World)(R:Value→World→Prop):Prop:=
 zn [.int .i64 0,.int .i64 0,.int .i64 0,.int .i64 0,.int .i64 0,.int .i64 0,.bool false] 98 w λv2 w_1=>
 za Tryz.prog 218 [v0,(.int .i64 2)] w_1 λv4 w_2=>
 za Tryz.prog 218 [v0,(.int .i64 64)] w_2 λv6 w_3=>
 za Tryz.prog 218 [v0,(.int .i64 8)] w_3 λv8 w_4=>
 za Tryz.prog 218 [v0,(.int .i64 8)] w_4 λv10 w_5=>
 za Tryz.prog 217 [v0] w_5 λv12 w_6=>
 za Tryz.prog 217 [v0] w_6 λv14 w_7=>
 za Tryz.prog 248 [v0] w_7 λv16 w_8=>
 zt [.int .i64 0,.int .i64 0,.int .i64 0,.int .i64 0,.int .i64 0,.int .i64 0,.bool false] [(0,1,v4),(1,1,v6),(2,1,v8),(3,1,v10),(4,1,v12),(5,1,v14),(6,1,v16)] λv17=>
 zp 7 v2 v17 w_8 λw_9=>
 zj 7 v2 w_9 λr=>
 R r w_9
theorem vc221(v0:Value)(w:World)(R:Value→World→Prop)(h:Vc221 v0 w R):za Tryz.prog 221 [v0] w R:=
 VV Tryz.func221 (by kernel_rfl) (by kernel_rfl) (by kernel_rfl) h
def Vc23(v0 v1 v2:Value)(w:World)(R:Value→World→Prop):Prop:=
 za Tryz.prog 90 [v1] w λv14 w_1=>
 zm 0 v14 λv15=>
 zm 1 v14 λv16=>
 zd .neq v16 (.int .i64 0) λv18=>
 HIf v18
 (R (.tuple #[(.pointer none),v16]) w_1)
 (za Tryz.prog 91 [v0,(.int .i64 8192),v2] w_1 λv23 w_2=>
 zm 0 v23 λv24=>
 zm 1 v23 λv25=>
 zd .neq v25 (.int .i64 0) λv27=>
 HIf v27
 (R (.tuple #[(.pointer none),v25]) w_2)
 (za Tryz.prog 92 [] w_2 λv32 w_3=>
 zt [.pointer none,.pointer none,.pointer none,.pointer none,.int .i64 0,.slice none 0 0] [(0,1,v15),(1,1,v0),(2,1,v24),(3,1,v32)] λv33=>
 ∃cs:List Value,v33= .agg cs.toArray∧zn cs 86 w_3 λv34 w_4=>
 za Tryz.prog 93 [v34] w_4 λv36 w_5=>
 zw v36 λv37=>
 HIf v37
 (R (.tuple #[(.pointer none),(.int .i64 3)]) w_5)
 (R (.tuple #[v34,(.int .i64 0)]) w_5)))
theorem vc23(v0 v1 v2:Value)(w:World)(R:Value→World→Prop)(h:Vc23 v0 v1 v2 w R):za Tryz.prog 23 [v0,v1,v2] w R:=
 VV Tryz.func23 (by kernel_rfl) (by kernel_rfl) (by kernel_rfl) h
def Vc25(v0:Value)(w:World)(R:Value→World→Prop):Prop:=
 zg v0 λv4=>
 zc 3 v4 λv5=>
 HLd v5 w λv6=>
 R v6 w
theorem vc25(v0:Value)(w:World)(R:Value→World→Prop)(h:Vc25 v0 w R):za Tryz.prog 25 [v0] w R:=
 VV Tryz.func25 (by kernel_rfl) (by kernel_rfl) (by kernel_rfl) h
def Vc30(v0 v1:Value)(w:World)(R:Value→World→Prop):Prop:=
 ∃cs:List Value,v1= .agg cs.toArray∧zn cs 46 w λv3 w_1=>
 zl w_1 λw_2=>
 zc 0 v3 λv12=>
 HLd v12 w_2 λv13=>
 zg v0 λv15=>
 zc 4 v15 λv16=>
 HLd v16 w_2 λv17=>
 zd .gtr v13 v17 λv18=>
 zj 3 v3 w_2 λv21=>
 za Tryz.prog 100 [v0,v21] w_2 λv22 w_3=>
 zm 0 v22 λv23=>
 zm 1 v22 λv24=>
 ∃I:List Value→World→Prop,(zj 3 v3 w_3 λv26=>
 za Tryz.prog 101 [v26] w_3 λv27 w_4=>
 zw v27 λv28=>
 HIf v28
 (I [(.bool true)] w_4)
 (HIf v18
 (zw v24 λv33=>
 I [v33] w_4)
 (I [(.bool false)] w_4))) ∧
 ∀(v25:Value) w_5,I [v25] w_5 →
 HIf v25
 (R (.int .i64 1) w_5)
 (zg v0 λv38=>
 zc 1 v38 λv39=>
 HLd v39 w_5 λv40=>
 za Tryz.prog 102 [v40] w_5 λv41 w_6=>
 HIf v41
 (R (.int .i64 8) w_6)
 (zg v0 λv44=>
 zc 3 v44 λv45=>
 HLd v45 w_6 λv46=>
 za Tryz.prog 103 [v46] w_6 λv47 w_7=>
 zm 0 v47 λv48=>
 zm 1 v47 λv49=>
 zn [.int .i64 0,.int .i64 0] 48 w_7 λv8 w_8=>
 zp 2 v8 v48 w_8 λw_9=>
 ∃I_1:List Value→World→Prop,(zc 0 v8 λv50=>
 HLd v50 w_9 λv51=>
 zd .eql v51 (.int .i64 1) λv52=>
 HIf v52
 (R (.int .i64 9) w_9)
 (zc 0 v8 λv54=>
 HLd v54 w_9 λv55=>
 zd .eql v55 (.int .i64 2) λv56=>
 HIf v56
 (zw v18 λv59=>
 HIf v59
 (R (.int .i64 9) w_9)
 (I_1 [] w_9))
 (I_1 [] w_9))) ∧
 ∀w_10,I_1 [] w_10 →
 zj 3 v3 w_10 λv63=>
 za Tryz.prog 104 [v63] w_10 λv64 w_11=>
 zm 0 v64 λv65=>
 zm 1 v64 λv66=>
 ∃I_2:List Value→World→Prop,(zd .neq v66 (.int .i64 0) λv69=>
 HIf v69
 (R v66 w_11)
 (zc 0 v8 λv72=>
 HLd v72 w_11 λv73=>
 zd .eql v73 (.int .i64 2) λv74=>
 HIf v74
 (zl w_11 λw_12=>
 zg v0 λv76=>
 zc 2 v76 λv77=>
 HLd v77 w_12 λv78=>
 zc 1 v8 λv80=>
 HLd v80 w_12 λv81=>
 za Tryz.prog 105 [v78,v65,v81] w_12 λv82 w_13=>
 I_2 [v82] w_13)
 (HIf v18
 (zg v0 λv87=>
 zc 2 v87 λv88=>
 HLd v88 w_11 λv89=>
 za Tryz.prog 106 [v89,v65] w_11 λv91 w_14=>
 zm 0 v91 λv92=>
 zm 1 v91 λv93=>
 I_2 [v93] w_14)
 (I_2 [v66] w_11)))) ∧
 ∀(v11:Value) w_15,I_2 [v11] w_15 →
 zd .neq v11 (.int .i64 0) λv95=>
 HIf v95
 (R v11 w_15)
 (HIf v18
 (zc 0 v8 λv99=>
 HLd v99 w_15 λv100=>
 zd .neq v100 (.int .i64 2) λv101=>
 HIf v101
 (zj 3 v3 w_15 λv104=>
 za Tryz.prog 107 [v0,v104,v23] w_15 λv106 w_16=>
 zc 0 v8 λv107=>
 HLd v107 w_16 λv108=>
 zd .neq v108 (.int .i64 0) λv109=>
 HIf v109
 (R (.int .i64 9) w_16)
 (R (.int .i64 0) w_16))
 (zc 0 v8 λv107_1=>
 HLd v107_1 w_15 λv108_1=>
 zd .neq v108_1 (.int .i64 0) λv109_1=>
 HIf v109_1
 (R (.int .i64 9) w_15)
 (R (.int .i64 0) w_15)))
 (zc 0 v8 λv107_2=>
 HLd v107_2 w_15 λv108_2=>
 zd .neq v108_2 (.int .i64 0) λv109_2=>
 HIf v109_2
 (R (.int .i64 9) w_15)
 (R (.int .i64 0) w_15)))))
theorem vc30(v0 v1:Value)(w:World)(R:Value→World→Prop)(h:Vc30 v0 v1 w R):za Tryz.prog 30 [v0,v1] w R:=
 VJ [] [(4,[25],[0,3,5,6]),(10,[],[0,3,5,6,8]),(17,[11],[0,3,5,6,8])] Tryz.func30 (by kernel_rfl) (by kernel_rfl) (by kernel_rfl) h
def Vc32(v0:Value)(w:World)(R:Value→World→Prop):Prop:=
 zl w λw_1=>
 zg v0 λv4=>
 zc 2 v4 λv5=>
 HLd v5 w_1 λv6=>
 zg v6 λv7=>
 zc 0 v7 λv8=>
 zg v0 λv11=>
 zc 2 v11 λv12=>
 HLd v12 w_1 λv13=>
 zg v13 λv14=>
 zc 0 v14 λv15=>
 za Tryz.prog 110 [v8] w_1 λv9 w_2=>
 HLd v12 w_2 λv13_1=>
 v13_1=v13 ∧
 za Tryz.prog 111 [v15] w_2 λv16 w_3=>
 zd .sub v9 v16 λv17=>
 zd .add v17 (.int .i64 1) λv18=>
 R v18 w_3
theorem vc32(v0:Value)(w:World)(R:Value→World→Prop)(h:Vc32 v0 w R):za Tryz.prog 32 [v0] w R:=
 VV Tryz.func32 (by kernel_rfl) (by kernel_rfl) (by kernel_rfl) h
def Vc33(v0:Value)(w:World)(R:Value→World→Prop):Prop:=
 zg v0 λv4=>
 zc 4 v4 λv5=>
 HLd v5 w λv6=>
 R v6 w
theorem vc33(v0:Value)(w:World)(R:Value→World→Prop)(h:Vc33 v0 w R):za Tryz.prog 33 [v0] w R:=
 VV Tryz.func33 (by kernel_rfl) (by kernel_rfl) (by kernel_rfl) h
def Vc38(v0:Value)(w:World)(R:Value→World→Prop):Prop:=
 zg v0 λv4=>
 zc 5 v4 λv5=>
 HLd v5 w λv6=>
 za Tryz.prog 119 [v6] w λv7 w_1=>
 R v7 w_1
theorem vc38(v0:Value)(w:World)(R:Value→World→Prop)(h:Vc38 v0 w R):za Tryz.prog 38 [v0] w R:=
 VV Tryz.func38 (by kernel_rfl) (by kernel_rfl) (by kernel_rfl) h
def Vc93(v0:Value)(w:World)(R:Value→World→Prop):Prop:=
 ∃I:List Value→World→Prop,(zg v0 λv11=>
 zc 2 v11 λv12=>
 HLd v12 w λv13=>
 zg v13 λv14=>
 zc 0 v14 λv15=>
 za Tryz.prog 111 [v15] w λv16 w_1=>
 zd .neq v16 (.int .i64 1) λv17=>
 HIf v17
 (za Tryz.prog 32 [v0] w_1 λv20 w_2=>
 zd .gtr v20 (.int .i64 0) λv21=>
 HIf v21
 (R (.bool false) w_2)
 (I [] w_2))
 (I [] w_1)) ∧
 ∀w_3,I [] w_3 →
 ∃(I_1:List Value→World→Prop) (μ:List Value→World→Nat),I_1 [(.int .i64 1)] w_3 ∧
 ∀(v3:Value) w_4,I_1 [v3] w_4 →
 za Tryz.prog 32 [v0] w_4 λv25 w_5=>
 zd .leq v3 v25 λv26=>
 HIf v26
 (zg v0 λv31=>
 zc 2 v31 λv32=>
 HLd v32 w_5 λv33=>
 zg v33 λv34=>
 zc 0 v34 λv35=>
 za Tryz.prog 171 [v35,v3] w_5 λv37 w_6=>
 zm 0 v37 λv38=>
 zm 1 v37 λv39=>
 za Tryz.prog 172 [v38] w_6 λv42 w_7=>
 zm 0 v42 λv43=>
 zm 1 v42 λv44=>
 zn [.int .i64 0,.slice none 0 0,.slice none 0 0] 46 w_7 λv6 w_8=>
 zp 3 v6 v43 w_8 λw_9=>
 zj 3 v6 w_9 λv47=>
 za Tryz.prog 100 [v0,v47] w_9 λv48 w_10=>
 zm 0 v48 λv49=>
 zm 1 v48 λv50=>
 zl w_10 λw_11=>
 zd .neq v44 (.int .i64 0) λv52=>
 HIf v52
 (R (.bool false) w_11)
 (zw v50 λv55=>
 HIf v55
 (R (.bool false) w_11)
 (zc 0 v6 λv58=>
 HLd v58 w_11 λv59=>
 zg v0 λv61=>
 zc 4 v61 λv62=>
 HLd v62 w_11 λv63=>
 zd .leq v59 v63 λv64=>
 HIf v64
 (R (.bool false) w_11)
 (zj 3 v6 w_11 λv67=>
 za Tryz.prog 107 [v0,v67,v49] w_11 λv69 w_12=>
 zd .add v3 (.int .i64 1) λv28=>
 I_1 [v28] w_12∧μ [v28] w_12<μ [v3] w_4))))
 (R (.bool true) w_5)
theorem vc93(v0:Value)(w:World)(R:Value→World→Prop)(h:Vc93 v0 w R):za Tryz.prog 93 [v0] w R:=
 VJ [(4,[3],[0])] [(3,[],[0])] Tryz.func93 (by kernel_rfl) (by kernel_rfl) (by kernel_rfl) h
def Vc100(v0 v1:Value)(w:World)(R:Value→World→Prop):Prop:=
 ∃cs:List Value,v1= .agg cs.toArray∧zn cs 46 w λv3 w_1=>
 zc 1 v3 λv12=>
 HLd v12 w_1 λv13=>
 zh v13 λv14=>
 ∃(I:List Value→World→Prop) (μ:List Value→World→Nat),I [(.int .i64 0)] w_1 ∧
 ∀(v15:Value) w_2,I [v15] w_2 →
 zd .lss v15 v14 λv16=>
 HIf v16
 (zk 5 v13 v15 λv17=>
 zj 5 v17 w_2 λv18=>
 zn [.int .i64 0,.int .i64 0,.int .i64 0,.bool false,.string ⟨#[]⟩] 96 w_2 λv7 w_3=>
 zp 5 v7 v18 w_3 λw_4=>
 zl w_4 λw_5=>
 zc 1 v7 λv19=>
 HLd v19 w_5 λv20=>
 zg v0 λv22=>
 zc 0 v22 λv23=>
 HLd v23 w_5 λv24=>
 za Tryz.prog 69 [v24] w_5 λv25 w_6=>
 HLd v19 w_6 λv20_1=>
 v20_1=v20 ∧
 zd .geq v20 v25 λv26=>
 HIf v26
 (R (.tuple #[(.slice none 0 0),(.bool false)]) w_6)
 (zd .add v15 (.int .i64 1) λv27=>
 I [v27] w_6∧μ [v27] w_6<μ [v15] w_2))
 (zg v0 λv29=>
 zc 5 v29 λv30=>
 HLd v30 w_2 λv31=>
 zc 2 v3 λv32=>
 HLd v32 w_2 λv33=>
 zh v33 λv34=>
 ∃(I_1:List Value→World→Prop) (μ_1:List Value→World→Nat),I_1 [v31,(.int .i64 0)] w_2 ∧
 ∀(v8 v35:Value) w_7,I_1 [v8,v35] w_7 →
 zd .lss v35 v34 λv36=>
 HIf v36
 (zk 7 v33 v35 λv37=>
 zj 7 v37 w_7 λv38=>
 zn [.int .i64 0,.int .i64 0,.int .i64 0,.int .i64 0,.int .i64 0,.int .i64 0,.bool false] 98 w_7 λv11 w_8=>
 zp 7 v11 v38 w_8 λw_9=>
 zj 7 v11 w_9 λv41=>
 za Tryz.prog 177 [v8,v41] w_9 λv42 w_10=>
 zm 0 v42 λv43=>
 zm 1 v42 λv44=>
 zw v44 λv46=>
 HIf v46
 (R (.tuple #[(.slice none 0 0),(.bool false)]) w_10)
 (zd .add v35 (.int .i64 1) λv47=>
 I_1 [v43,v47] w_10∧μ_1 [v43,v47] w_10<μ_1 [v8,v35] w_7))
 (zj 3 v3 w_7 λv49=>
 za Tryz.prog 101 [v49] w_7 λv50 w_11=>
 R (.tuple #[v8,v50]) w_11))
theorem vc100(v0 v1:Value)(w:World)(R:Value→World→Prop)(h:Vc100 v0 v1 w R):za Tryz.prog 100 [v0,v1] w R:=
 VJ [(2,[15],[0,3,13,14]),(9,[8,35],[3,33,34])] [] Tryz.func100 (by kernel_rfl) (by kernel_rfl) (by kernel_rfl) h
def Vc107(v0 v1 v2:Value)(w:World)(R:Value→World→Prop):Prop:=
 ∃cs:List Value,v1= .agg cs.toArray∧zn cs 46 w λv4 w_1=>
 zl w_1 λw_2=>
 zg v0 λv7=>
 zc 0 v7 λv8=>
 HLd v8 w_2 λv9=>
 zc 1 v4 λv10=>
 HLd v10 w_2 λv11=>
 za Tryz.prog 186 [v9,v11] w_2 λv12 w_3=>
 zl w_3 λw_4=>
 zc 0 v4 λv16=>
 HLd v16 w_4 λv17=>
 zg v0 λv18=>
 zc 5 v18 λv19=>
 HSt v19 v2 w_4 λw_5=>
 HLd v16 w_5 λv17_1=>
 v17_1=v17 ∧
 zg v0 λv20=>
 zc 4 v20 λv21=>
 HSt v21 v17 w_5 λw_6=>
 R (.tuple #[]) w_6
theorem vc107(v0 v1 v2:Value)(w:World)(R:Value→World→Prop)(h:Vc107 v0 v1 v2 w R):za Tryz.prog 107 [v0,v1,v2] w R:=
 VV Tryz.func107 (by kernel_rfl) (by kernel_rfl) (by kernel_rfl) h
def Vc177(v0 v1:Value)(w:World)(R:Value→World→Prop):Prop:=
 ∃cs:List Value,v1= .agg cs.toArray∧zn cs 98 w λv3 w_1=>
 zc 0 v3 λv8=>
 HLd v8 w_1 λv9=>
 zd .eql v9 (.int .i64 2) λv10=>
 HIf v10
 (zc 1 v3 λv12=>
 HLd v12 w_1 λv13=>
 zc 5 v3 λv14=>
 HLd v14 w_1 λv15=>
 zc 6 v3 λv16=>
 HLd v16 w_1 λv17=>
 za Tryz.prog 224 [v0,v13,v15,v17] w_1 λv18 w_2=>
 zm 0 v18 λv19=>
 zm 1 v18 λv20=>
 R (.tuple #[v19,v20]) w_2)
 (zc 2 v3 λv23=>
 HLd v23 w_1 λv24=>
 zc 3 v3 λv25=>
 HLd v25 w_1 λv26=>
 zc 4 v3 λv27=>
 HLd v27 w_1 λv28=>
 za Tryz.prog 225 [v0,v24,v26,v28] w_1 λv29 w_3=>
 zm 0 v29 λv30=>
 zm 1 v29 λv31=>
 zl w_3 λw_4=>
 HIf v31
 (zc 1 v3 λv35=>
 HLd v35 w_4 λv36=>
 zh v30 λv38=>
 zd .eql v36 v38 λv39=>
 HLd v35 w_4 λv36_1=>
 v36_1=v36 ∧
 R (.tuple #[v30,v39]) w_4)
 (R (.tuple #[v30,(.bool false)]) w_4))
theorem vc177(v0 v1:Value)(w:World)(R:Value→World→Prop)(h:Vc177 v0 v1 w R):za Tryz.prog 177 [v0,v1] w R:=
 VV Tryz.func177 (by kernel_rfl) (by kernel_rfl) (by kernel_rfl) h
def Vc19(v0:Value)(w:World)(R:Value→World→Prop):Prop:=
 ∃cs:List Value,v0= .agg cs.toArray∧zn cs 46 w λv1 w_1=>
 zj 3 v1 w_1 λv9=>
 za Tryz.prog 42 [v9] w_1 λv10 w_2=>
 zw v10 λv11=>
 HIf v11
 (R (.tuple #[(.slice none 0 0),(.int .i64 1)]) w_2)
 (zl w_2 λw_3=>
 zc 0 v1 λv12=>
 HLd v12 w_3 λv13=>
 zc 1 v1 λv15=>
 HLd v15 w_3 λv16=>
 zh v16 λv17=>
 za Tryz.prog 78 [v13] w_3 λv14 w_4=>
 HLd v15 w_4 λv16_1=>
 v16_1=v16 ∧
 za Tryz.prog 78 [v17] w_4 λv18 w_5=>
 zo (zrow [.int .i64 0,.int .i64 0,.string ⟨#[]⟩] 2) [(0,3,v14),(3,3,v18)] 165 2 w_5 λv19 w_6=>
 ∃(I:List Value→World→Prop) (μ:List Value→World→Nat),I [v19,(.int .i64 0)] w_6 ∧
 ∀(v4 v5:Value) w_7,I [v4,v5] w_7 →
 zc 1 v1 λv21=>
 HLd v21 w_7 λv22=>
 zh v22 λv23=>
 zd .lss v5 v23 λv24=>
 HIf v24
 (zc 1 v1 λv27=>
 HLd v27 w_7 λv28=>
 zk 5 v28 v5 λv30=>
 zj 5 v30 w_7 λv31=>
 zn [.int .i64 0,.int .i64 0,.int .i64 0,.bool false,.string ⟨#[]⟩] 96 w_7 λv6 w_8=>
 zp 5 v6 v31 w_8 λw_9=>
 zc 0 v6 λv33=>
 HLd v33 w_9 λv34=>
 za Tryz.prog 78 [v34] w_9 λv35 w_10=>
 zo (zrow [.int .i64 0,.int .i64 0,.string ⟨#[]⟩] 1) [(0,3,v35)] 165 1 w_10 λv36 w_11=>
 zr 3 32 [.int .i64 0,.int .i64 0,.string ⟨#[]⟩] 165 v4 v36 w_11 λv37 w_12=>
 zc 1 v6 λv39=>
 HLd v39 w_12 λv40=>
 zc 2 v6 λv41=>
 HLd v41 w_12 λv42=>
 zc 3 v6 λv43=>
 HLd v43 w_12 λv44=>
 zc 4 v6 λv45=>
 HLd v45 w_12 λv46=>
 zt [.int .i64 0,.int .i64 0,.bool false,.string ⟨#[]⟩] [(0,1,v40),(1,1,v42),(2,1,v44),(3,1,v46)] λv47=>
 za Tryz.prog 79 [v47] w_12 λv48 w_13=>
 zr 3 32 [.int .i64 0,.int .i64 0,.string ⟨#[]⟩] 165 v37 v48 w_13 λv49 w_14=>
 zd .add v5 (.int .i64 1) λv26=>
 I [v49,v26] w_14∧μ [v49,v26] w_14<μ [v4,v5] w_7)
 (zc 2 v1 λv51=>
 HLd v51 w_7 λv52=>
 zh v52 λv53=>
 za Tryz.prog 78 [v53] w_7 λv54 w_15=>
 zo (zrow [.int .i64 0,.int .i64 0,.string ⟨#[]⟩] 1) [(0,3,v54)] 165 1 w_15 λv55 w_16=>
 zr 3 32 [.int .i64 0,.int .i64 0,.string ⟨#[]⟩] 165 v4 v55 w_16 λv56 w_17=>
 ∃(I_1:List Value→World→Prop) (μ_1:List Value→World→Nat),I_1 [v56,(.int .i64 0)] w_17 ∧
 ∀(v4_1:Value) (v7:Value) w_18,I_1 [v4_1,v7] w_18 →
 zc 2 v1 λv58=>
 HLd v58 w_18 λv59=>
 zh v59 λv60=>
 zd .lss v7 v60 λv61=>
 HIf v61
 (zc 2 v1 λv64=>
 HLd v64 w_18 λv65=>
 zk 7 v65 v7 λv67=>
 zj 7 v67 w_18 λv68=>
 zn [.int .i64 0,.int .i64 0,.int .i64 0,.int .i64 0,.int .i64 0,.int .i64 0,.bool false] 98 w_18 λv8 w_19=>
 zp 7 v8 v68 w_19 λw_20=>
 zl w_20 λw_21=>
 zc 0 v8 λv70=>
 HLd v70 w_21 λv71=>
 zc 1 v8 λv73=>
 HLd v73 w_21 λv74=>
 zc 2 v8 λv76=>
 HLd v76 w_21 λv77=>
 zc 3 v8 λv79=>
 HLd v79 w_21 λv80=>
 zc 4 v8 λv82=>
 HLd v82 w_21 λv83=>
 zc 5 v8 λv85=>
 HLd v85 w_21 λv86=>
 zc 6 v8 λv88=>
 HLd v88 w_21 λv89=>
 za Tryz.prog 78 [v71] w_21 λv72 w_22=>
 HLd v73 w_22 λv74_1=>
 v74_1=v74 ∧
 HLd v76 w_22 λv77_1=>
 v77_1=v77 ∧
 HLd v79 w_22 λv80_1=>
 v80_1=v80 ∧
 HLd v82 w_22 λv83_1=>
 v83_1=v83 ∧
 HLd v85 w_22 λv86_1=>
 v86_1=v86 ∧
 HLd v88 w_22 λv89_1=>
 v89_1=v89 ∧
 za Tryz.prog 78 [v74] w_22 λv75 w_23=>
 HLd v76 w_23 λv77_2=>
 v77_2=v77 ∧
 HLd v79 w_23 λv80_2=>
 v80_2=v80 ∧
 HLd v82 w_23 λv83_2=>
 v83_2=v83 ∧
 HLd v85 w_23 λv86_2=>
 v86_2=v86 ∧
 HLd v88 w_23 λv89_2=>
 v89_2=v89 ∧
 za Tryz.prog 78 [v77] w_23 λv78 w_24=>
 HLd v79 w_24 λv80_3=>
 v80_3=v80 ∧
 HLd v82 w_24 λv83_3=>
 v83_3=v83 ∧
 HLd v85 w_24 λv86_3=>
 v86_3=v86 ∧
 HLd v88 w_24 λv89_3=>
 v89_3=v89 ∧
 za Tryz.prog 78 [v80] w_24 λv81 w_25=>
 HLd v82 w_25 λv83_4=>
 v83_4=v83 ∧
 HLd v85 w_25 λv86_4=>
 v86_4=v86 ∧
 HLd v88 w_25 λv89_4=>
 v89_4=v89 ∧
 za Tryz.prog 78 [v83] w_25 λv84 w_26=>
 HLd v85 w_26 λv86_5=>
 v86_5=v86 ∧
 HLd v88 w_26 λv89_5=>
 v89_5=v89 ∧
 za Tryz.prog 78 [v86] w_26 λv87 w_27=>
 HLd v88 w_27 λv89_6=>
 v89_6=v89 ∧
 za Tryz.prog 80 [v89] w_27 λv90 w_28=>
 zo (zrow [.int .i64 0,.int .i64 0,.string ⟨#[]⟩] 7) [(0,3,v72),(3,3,v75),(6,3,v78),(9,3,v81),(12,3,v84),(15,3,v87),(18,3,v90)] 165 7 w_28 λv91 w_29=>
 zr 3 32 [.int .i64 0,.int .i64 0,.string ⟨#[]⟩] 165 v4_1 v91 w_29 λv92 w_30=>
 zd .add v7 (.int .i64 1) λv63=>
 I_1 [v92,v63] w_30∧μ_1 [v92,v63] w_30<μ_1 [v4_1,v7] w_18)
 (za Tryz.prog 81 [v4_1] w_18 λv94 w_31=>
 zm 0 v94 λv95=>
 zm 1 v94 λv96=>
 R (.tuple #[v95,v96]) w_31)))
theorem vc19(v0:Value)(w:World)(R:Value→World→Prop)(h:Vc19 v0 w R):za Tryz.prog 19 [v0] w R:=
 VJ [(5,[4,5],[1]),(12,[4,7],[1])] [] Tryz.func19 (by kernel_rfl) (by kernel_rfl) (by kernel_rfl) h
def Vc42(v0:Value)(w:World)(R:Value→World→Prop):Prop:=
 ∃cs:List Value,v0= .agg cs.toArray∧zn cs 46 w λv1 w_1=>
 zc 0 v1 λv6=>
 HLd v6 w_1 λv7=>
 zd .lss v7 (.int .i64 1) λv8=>
 HIf v8
 (R (.bool false) w_1)
 (zc 0 v1 λv10=>
 HLd v10 w_1 λv11=>
 zd .gtr v11 (.int .i64 1099511627776) λv12=>
 HIf v12
 (R (.bool false) w_1)
 (zc 1 v1 λv15=>
 HLd v15 w_1 λv16=>
 zh v16 λv17=>
 zd .gtr v17 (.int .i64 4096) λv18=>
 HIf v18
 (R (.bool false) w_1)
 (zc 2 v1 λv21=>
 HLd v21 w_1 λv22=>
 zh v22 λv23=>
 zd .gtr v23 (.int .i64 256) λv24=>
 HIf v24
 (R (.bool false) w_1)
 (∃(I:List Value→World→Prop) (μ:List Value→World→Nat),I [(.int .i64 0)] w_1 ∧
 ∀(v3:Value) w_2,I [v3] w_2 →
 zc 1 v1 λv27=>
 HLd v27 w_2 λv28=>
 zh v28 λv29=>
 zd .lss v3 v29 λv30=>
 HIf v30
 (zc 1 v1 λv33=>
 HLd v33 w_2 λv34=>
 zk 5 v34 v3 λv36=>
 zj 5 v36 w_2 λv37=>
 zn [.int .i64 0,.int .i64 0,.int .i64 0,.bool false,.string ⟨#[]⟩] 96 w_2 λv4 w_3=>
 zp 5 v4 v37 w_3 λw_4=>
 zc 0 v4 λv38=>
 HLd v38 w_4 λv39=>
 zd .lss v39 (.int .i64 1) λv40=>
 HIf v40
 (R (.bool false) w_4)
 (zc 0 v4 λv42=>
 HLd v42 w_4 λv43=>
 zc 0 v1 λv44=>
 HLd v44 w_4 λv45=>
 zd .gtr v43 v45 λv46=>
 HIf v46
 (R (.bool false) w_4)
 (zc 1 v4 λv49=>
 HLd v49 w_4 λv50=>
 zc 2 v4 λv51=>
 HLd v51 w_4 λv52=>
 zc 3 v4 λv53=>
 HLd v53 w_4 λv54=>
 zc 4 v4 λv55=>
 HLd v55 w_4 λv56=>
 zt [.int .i64 0,.int .i64 0,.bool false,.string ⟨#[]⟩] [(0,1,v50),(1,1,v52),(2,1,v54),(3,1,v56)] λv57=>
 za Tryz.prog 121 [v57,(.int .i64 8)] w_4 λv58 w_5=>
 zw v58 λv59=>
 HIf v59
 (R (.bool false) w_5)
 (zd .add v3 (.int .i64 1) λv32=>
 I [v32] w_5∧μ [v32] w_5<μ [v3] w_2))))
 (∃(I_1:List Value→World→Prop) (μ_1:List Value→World→Nat),I_1 [(.int .i64 0)] w_2 ∧
 ∀(v5:Value) w_6,I_1 [v5] w_6 →
 zc 2 v1 λv62=>
 HLd v62 w_6 λv63=>
 zh v63 λv64=>
 zd .lss v5 v64 λv65=>
 HIf v65
 (zl w_6 λw_7=>
 zc 2 v1 λv68=>
 HLd v68 w_7 λv69=>
 zk 7 v69 v5 λv71=>
 zj 7 v71 w_7 λv72=>
 zc 0 v1 λv73=>
 HLd v73 w_7 λv74=>
 za Tryz.prog 122 [v72,v74] w_7 λv75 w_8=>
 zw v75 λv76=>
 HIf v76
 (R (.bool false) w_8)
 (zd .add v5 (.int .i64 1) λv67=>
 I_1 [v67] w_8∧μ_1 [v67] w_8<μ_1 [v5] w_6))
 (R (.bool true) w_6))))))
theorem vc42(v0:Value)(w:World)(R:Value→World→Prop)(h:Vc42 v0 w R):za Tryz.prog 42 [v0] w R:=
 VJ [(4,[3],[1]),(10,[5],[1])] [] Tryz.func42 (by kernel_rfl) (by kernel_rfl) (by kernel_rfl) h
def Vc44(v0 v1:Value)(w:World)(R:Value→World→Prop):Prop:=
 ∃(I:List Value→World→Prop) (μ:List Value→World→Nat),I [v0,(.int .i64 0)] w ∧
 ∀(v0_1:Value) (v5:Value) w_1,I [v0_1,v5] w_1 →
 zh v1 λv8=>
 zd .lss v5 v8 λv9=>
 HIf v9
 (zk 2 v1 v5 λv14=>
 zj 2 v14 w_1 λv15=>
 za Tryz.prog 124 [v15] w_1 λv16 w_2=>
 HIf v16
 (zh v0_1 λv19=>
 zd .lss v19 (.int .i64 1024) λv20=>
 HIf v20
 (zl w_2 λw_3=>
 zk 2 v1 v5 λv27=>
 zj 2 v27 w_3 λv28=>
 (zo (zrow [.int .i64 0,.int .i64 0] 0) [] 48 0 w_3 λv22 w_4=>
 zj 2 v27 w_4 λv28_1=>
 v28_1=v28 ∧
 (zr 2 16 [.int .i64 0,.int .i64 0] 48 v22 v0_1 w_4 λv24 w_5=>
 zj 2 v27 w_5 λv28_2=>
 v28_2=v28 ∧
 zo (zrow [.int .i64 0,.int .i64 0] 1) [(0,2,v28)] 48 1 w_5 λv29 w_6=>
 zr 2 16 [.int .i64 0,.int .i64 0] 48 v24 v29 w_6 λv30 w_7=>
 zd .add v5 (.int .i64 1) λv11=>
 I [v30,v11] w_7∧μ [v30,v11] w_7<μ [v0_1,v5] w_1) ∧
 (zo (zrow [.int .i64 0,.int .i64 0] 1) [(0,2,v28)] 48 1 w_4 λv29_1 w_8=>
 zr 2 16 [.int .i64 0,.int .i64 0] 48 v22 v0_1 w_8 λv24_1 w_9=>
 zr 2 16 [.int .i64 0,.int .i64 0] 48 v24_1 v29_1 w_9 λv30_1 w_10=>
 zd .add v5 (.int .i64 1) λv11_1=>
 I [v30_1,v11_1] w_10∧μ [v30_1,v11_1] w_10<μ [v0_1,v5] w_1)) ∧
 (zo (zrow [.int .i64 0,.int .i64 0] 1) [(0,2,v28)] 48 1 w_3 λv29_2 w_11=>
 zo (zrow [.int .i64 0,.int .i64 0] 0) [] 48 0 w_11 λv22_1 w_12=>
 zr 2 16 [.int .i64 0,.int .i64 0] 48 v22_1 v0_1 w_12 λv24_2 w_13=>
 zr 2 16 [.int .i64 0,.int .i64 0] 48 v24_2 v29_2 w_13 λv30_2 w_14=>
 zd .add v5 (.int .i64 1) λv11_2=>
 I [v30_2,v11_2] w_14∧μ [v30_2,v11_2] w_14<μ [v0_1,v5] w_1))
 (zd .add v5 (.int .i64 1) λv11_3=>
 I [v0_1,v11_3] w_2∧μ [v0_1,v11_3] w_2<μ [v0_1,v5] w_1))
 (zd .add v5 (.int .i64 1) λv11_4=>
 I [v0_1,v11_4] w_2∧μ [v0_1,v11_4] w_2<μ [v0_1,v5] w_1))
 (R v0_1 w_1)
theorem vc44(v0 v1:Value)(w:World)(R:Value→World→Prop)(h:Vc44 v0 v1 w R):za Tryz.prog 44 [v0,v1] w R:=
 VJ [(2,[0,5],[1])] [] Tryz.func44 (by kernel_rfl) (by kernel_rfl) (by kernel_rfl) h
def Vc96(v0:Value)(w:World)(R:Value→World→Prop):Prop:=
 zn [.int .i64 0,.slice none 0 0,.slice none 0 0] 46 w λv2 w_1=>
 za Tryz.prog 155 [v0] w_1 λv16 w_2=>
 zm 0 v16 λv17=>
 zm 1 v16 λv18=>
 zd .neq v18 (.int .i64 0) λv20=>
 HIf v20
 (zt [.int .i64 0,.slice none 0 0,.slice none 0 0] [] λv21=>
 zp 3 v2 v21 w_2 λw_3=>
 zj 3 v2 w_3 λr=>
 R (.tuple #[r,v18]) w_3)
 (zt [.slice none 0 0,.int .i64 0,.bool false] [(0,1,v17)] λv24=>
 ∃cs:List Value,v24= .agg cs.toArray∧zn cs 275 w_2 λv25 w_4=>
 za Tryz.prog 173 [v25,(.int .i64 1099511627776)] w_4 λv27 w_5=>
 zt [.int .i64 0,.slice none 0 0,.slice none 0 0] [(0,1,v27)] λv28=>
 zn [.int .i64 0,.slice none 0 0,.slice none 0 0] 46 w_5 λv7 w_6=>
 zp 3 v7 v28 w_6 λw_7=>
 za Tryz.prog 173 [v25,(.int .i64 4096)] w_7 λv30 w_8=>
 ∃I:List Value→World→Prop,(∃(I_1:List Value→World→Prop) (μ:List Value→World→Nat),I_1 [(.int .i64 0)] w_8 ∧
 ∀(v9:Value) w_9,I_1 [v9] w_9 →
 zd .lss v9 v30 λv33=>
 HIf v33
 (zg v25 λv36=>
 zc 2 v36 λv37=>
 HLd v37 w_9 λv38=>
 zw v38 λv39=>
 HIf v39
 (za Tryz.prog 173 [v25,(.int .i64 1099511627776)] w_9 λv44 w_10=>
 zt [.int .i64 0,.int .i64 0,.int .i64 0,.bool false,.string ⟨#[]⟩] [(0,1,v44)] λv45=>
 zn [.int .i64 0,.int .i64 0,.int .i64 0,.bool false,.string ⟨#[]⟩] 96 w_10 λv10 w_11=>
 zp 5 v10 v45 w_11 λw_12=>
 za Tryz.prog 174 [v25] w_12 λv47 w_13=>
 zn [.int .i64 0,.int .i64 0,.bool false,.string ⟨#[]⟩] 170 w_13 λv11 w_14=>
 zp 4 v11 v47 w_14 λw_15=>
 zl w_15 λw_16=>
 zc 0 v11 λv48=>
 HLd v48 w_16 λv49=>
 zc 1 v11 λv50=>
 HLd v50 w_16 λv51=>
 zc 2 v11 λv52=>
 HLd v52 w_16 λv53=>
 zc 3 v11 λv54=>
 HLd v54 w_16 λv55=>
 zc 1 v10 λv56=>
 HSt v56 v49 w_16 λw_17=>
 HLd v50 w_17 λv51_1=>
 v51_1=v51 ∧
 HLd v52 w_17 λv53_1=>
 v53_1=v53 ∧
 HLd v54 w_17 λv55_1=>
 v55_1=v55 ∧
 zc 2 v10 λv57=>
 HSt v57 v51 w_17 λw_18=>
 HLd v52 w_18 λv53_2=>
 v53_2=v53 ∧
 HLd v54 w_18 λv55_2=>
 v55_2=v55 ∧
 zc 3 v10 λv58=>
 HSt v58 v53 w_18 λw_19=>
 HLd v54 w_19 λv55_3=>
 v55_3=v55 ∧
 zc 4 v10 λv59=>
 HSt v59 v55 w_19 λw_20=>
 zc 1 v7 λv60=>
 HLd v60 w_20 λv61=>
 zj 5 v10 w_20 λv62=>
 zo (zrow [.int .i64 0,.int .i64 0,.int .i64 0,.bool false,.string ⟨#[]⟩] 1) [(0,5,v62)] 96 1 w_20 λv63 w_21=>
 zr 5 48 [.int .i64 0,.int .i64 0,.int .i64 0,.bool false,.string ⟨#[]⟩] 96 v61 v63 w_21 λv64 w_22=>
 zc 1 v7 λv65=>
 HSt v65 v64 w_22 λw_23=>
 zd .add v9 (.int .i64 1) λv42=>
 I_1 [v42] w_23∧μ [v42] w_23<μ [v9] w_9)
 (I [] w_9))
 (I [] w_9)) ∧
 ∀w_24,I [] w_24 →
 za Tryz.prog 173 [v25,(.int .i64 256)] w_24 λv67 w_25=>
 ∃(I_2:List Value→World→Prop) (μ_1:List Value→World→Nat),I_2 [(.int .i64 0)] w_25 ∧
 ∀(v12:Value) w_26,I_2 [v12] w_26 →
 zd .lss v12 v67 λv70=>
 HIf v70
 (zg v25 λv73=>
 zc 2 v73 λv74=>
 HLd v74 w_26 λv75=>
 zw v75 λv76=>
 HIf v76
 (za Tryz.prog 173 [v25,(.int .i64 2)] w_26 λv81 w_27=>
 zt [.int .i64 0,.int .i64 0,.int .i64 0,.int .i64 0,.int .i64 0,.int .i64 0,.bool false] [(0,1,v81)] λv82=>
 zn [.int .i64 0,.int .i64 0,.int .i64 0,.int .i64 0,.int .i64 0,.int .i64 0,.bool false] 98 w_27 λv13 w_28=>
 zp 7 v13 v82 w_28 λw_29=>
 za Tryz.prog 173 [v25,(.int .i64 64)] w_29 λv84 w_30=>
 zc 1 v13 λv85=>
 HSt v85 v84 w_30 λw_31=>
 za Tryz.prog 173 [v25,(.int .i64 8)] w_31 λv87 w_32=>
 zc 2 v13 λv88=>
 HSt v88 v87 w_32 λw_33=>
 za Tryz.prog 173 [v25,(.int .i64 8)] w_33 λv90 w_34=>
 zc 3 v13 λv91=>
 HSt v91 v90 w_34 λw_35=>
 za Tryz.prog 173 [v25,(.int .i64 1099511627776)] w_35 λv93 w_36=>
 zc 4 v13 λv94=>
 HSt v94 v93 w_36 λw_37=>
 za Tryz.prog 173 [v25,(.int .i64 1099511627776)] w_37 λv96 w_38=>
 zc 5 v13 λv97=>
 HSt v97 v96 w_38 λw_39=>
 za Tryz.prog 175 [v25] w_39 λv99 w_40=>
 zc 6 v13 λv100=>
 HSt v100 v99 w_40 λw_41=>
 zc 2 v7 λv101=>
 HLd v101 w_41 λv102=>
 zj 7 v13 w_41 λv103=>
 zo (zrow [.int .i64 0,.int .i64 0,.int .i64 0,.int .i64 0,.int .i64 0,.int .i64 0,.bool false] 1) [(0,7,v103)] 98 1 w_41 λv104 w_42=>
 zr 7 56 [.int .i64 0,.int .i64 0,.int .i64 0,.int .i64 0,.int .i64 0,.int .i64 0,.bool false] 98 v102 v104 w_42 λv105 w_43=>
 zc 2 v7 λv106=>
 HSt v106 v105 w_43 λw_44=>
 zd .add v12 (.int .i64 1) λv79=>
 I_2 [v79] w_44∧μ_1 [v79] w_44<μ_1 [v12] w_26)
 (za Tryz.prog 176 [v25] w_26 λv108 w_45=>
 zw v108 λv109=>
 HIf v109
 (zt [.int .i64 0,.slice none 0 0,.slice none 0 0] [] λv115=>
 zp 3 v2 v115 w_45 λw_46=>
 zj 3 v2 w_46 λr_1=>
 R (.tuple #[r_1,(.int .i64 3)]) w_46)
 (zj 3 v7 w_45 λv111=>
 za Tryz.prog 42 [v111] w_45 λv112 w_47=>
 zw v112 λv113=>
 HIf v113
 (zt [.int .i64 0,.slice none 0 0,.slice none 0 0] [] λv115_1=>
 zp 3 v2 v115_1 w_47 λw_48=>
 zj 3 v2 w_48 λr_2=>
 R (.tuple #[r_2,(.int .i64 3)]) w_48)
 (zj 3 v7 w_47 λv116=>
 zp 3 v2 v116 w_47 λw_49=>
 zj 3 v2 w_49 λr_3=>
 R (.tuple #[r_3,(.int .i64 0)]) w_49))))
 (za Tryz.prog 176 [v25] w_26 λv108_1 w_50=>
 zw v108_1 λv109_1=>
 HIf v109_1
 (zt [.int .i64 0,.slice none 0 0,.slice none 0 0] [] λv115_2=>
 zp 3 v2 v115_2 w_50 λw_51=>
 zj 3 v2 w_51 λr_4=>
 R (.tuple #[r_4,(.int .i64 3)]) w_51)
 (zj 3 v7 w_50 λv111_1=>
 za Tryz.prog 42 [v111_1] w_50 λv112_1 w_52=>
 zw v112_1 λv113_1=>
 HIf v113_1
 (zt [.int .i64 0,.slice none 0 0,.slice none 0 0] [] λv115_3=>
 zp 3 v2 v115_3 w_52 λw_53=>
 zj 3 v2 w_53 λr_5=>
 R (.tuple #[r_5,(.int .i64 3)]) w_53)
 (zj 3 v7 w_52 λv116_1=>
 zp 3 v2 v116_1 w_52 λw_54=>
 zj 3 v2 w_54 λr_6=>
 R (.tuple #[r_6,(.int .i64 0)]) w_54))))
theorem vc96(v0:Value)(w:World)(R:Value→World→Prop)(h:Vc96 v0 w R):za Tryz.prog 96 [v0] w R:=
 VJ [(8,[9],[2,6,7,8]),(16,[12],[2,6,7,8])] [(14,[],[2,6,7])] Tryz.func96 (by kernel_rfl) (by kernel_rfl) (by kernel_rfl) h
def Vc122(v0 v1:Value)(w:World)(R:Value→World→Prop):Prop:=
 ∃cs:List Value,v0= .agg cs.toArray∧zn cs 98 w λv2 w_1=>
 zc 1 v2 λv5=>
 HLd v5 w_1 λv6=>
 zd .lss v6 (.int .i64 1) λv7=>
 HIf v7
 (R (.bool false) w_1)
 (zc 1 v2 λv9=>
 HLd v9 w_1 λv10=>
 zd .gtr v10 (.int .i64 64) λv11=>
 HIf v11
 (R (.bool false) w_1)
 (zc 0 v2 λv13=>
 HLd v13 w_1 λv14=>
 zd .eql v14 (.int .i64 1) λv16=>
 HIf v16
 (zc 2 v2 λv17=>
 HLd v17 w_1 λv18=>
 zd .geq v18 (.int .i64 0) λv19=>
 HIf v19
 (zc 2 v2 λv21=>
 HLd v21 w_1 λv22=>
 zd .lss v22 (.int .i64 8) λv23=>
 HIf v23
 (zc 3 v2 λv26=>
 HLd v26 w_1 λv27=>
 zd .geq v27 (.int .i64 1) λv28=>
 HIf v28
 (zc 3 v2 λv31=>
 HLd v31 w_1 λv32=>
 zd .leq v32 (.int .i64 8) λv33=>
 HIf v33
 (zc 4 v2 λv36=>
 HLd v36 w_1 λv37=>
 zd .geq v37 (.int .i64 1) λv38=>
 HIf v38
 (zc 4 v2 λv41=>
 HLd v41 w_1 λv42=>
 zd .leq v42 v1 λv44=>
 HIf v44
 (zc 5 v2 λv47=>
 HLd v47 w_1 λv48=>
 zd .eql v48 (.int .i64 0) λv49=>
 HIf v49
 (zc 6 v2 λv52=>
 HLd v52 w_1 λv53=>
 zw v53 λv54=>
 R v54 w_1)
 (R (.bool false) w_1))
 (R (.bool false) w_1))
 (R (.bool false) w_1))
 (R (.bool false) w_1))
 (R (.bool false) w_1))
 (R (.bool false) w_1))
 (R (.bool false) w_1))
 (zd .eql v14 (.int .i64 2) λv57=>
 HIf v57
 (zc 2 v2 λv58=>
 HLd v58 w_1 λv59=>
 zd .eql v59 (.int .i64 0) λv60=>
 HIf v60
 (zc 3 v2 λv62=>
 HLd v62 w_1 λv63=>
 zd .eql v63 (.int .i64 0) λv64=>
 HIf v64
 (zc 4 v2 λv67=>
 HLd v67 w_1 λv68=>
 zd .eql v68 (.int .i64 0) λv69=>
 HIf v69
 (zc 5 v2 λv72=>
 HLd v72 w_1 λv73=>
 zd .geq v73 (.int .i64 0) λv74=>
 HIf v74
 (zc 5 v2 λv77=>
 HLd v77 w_1 λv78=>
 zd .leq v78 (.int .i64 1099511627776) λv79=>
 R v79 w_1)
 (R (.bool false) w_1))
 (R (.bool false) w_1))
 (R (.bool false) w_1))
 (R (.bool false) w_1))
 (R (.bool false) w_1))))
theorem vc122(v0 v1:Value)(w:World)(R:Value→World→Prop)(h:Vc122 v0 v1 w R):za Tryz.prog 122 [v0,v1] w R:=
 VV Tryz.func122 (by kernel_rfl) (by kernel_rfl) (by kernel_rfl) h
def Vc124(v0:Value)(w:World)(R:Value→World→Prop):Prop:=
 ∃cs:List Value,v0= .agg cs.toArray∧zn cs 48 w λv1 w_1=>
 zc 0 v1 λv3=>
 HLd v3 w_1 λv4=>
 zd .eql v4 (.int .i64 1) λv5=>
 HIf v5
 (zc 1 v1 λv12=>
 HLd v12 w_1 λv13=>
 zd .eql v13 (.int .i64 0) λv14=>
 HIf v14
 (R (.bool true) w_1)
 (zc 0 v1 λv17=>
 HLd v17 w_1 λv18=>
 zd .eql v18 (.int .i64 2) λv19=>
 HIf v19
 (zc 1 v1 λv21=>
 HLd v21 w_1 λv22=>
 zd .geq v22 (.int .i64 0) λv23=>
 R v23 w_1)
 (R (.bool false) w_1)))
 (zc 0 v1 λv7=>
 HLd v7 w_1 λv8=>
 zd .eql v8 (.int .i64 3) λv9=>
 HIf v9
 (zc 1 v1 λv12_1=>
 HLd v12_1 w_1 λv13_1=>
 zd .eql v13_1 (.int .i64 0) λv14_1=>
 HIf v14_1
 (R (.bool true) w_1)
 (zc 0 v1 λv17_1=>
 HLd v17_1 w_1 λv18_1=>
 zd .eql v18_1 (.int .i64 2) λv19_1=>
 HIf v19_1
 (zc 1 v1 λv21_1=>
 HLd v21_1 w_1 λv22_1=>
 zd .geq v22_1 (.int .i64 0) λv23_1=>
 R v23_1 w_1)
 (R (.bool false) w_1)))
 (zc 0 v1 λv17_2=>
 HLd v17_2 w_1 λv18_2=>
 zd .eql v18_2 (.int .i64 2) λv19_2=>
 HIf v19_2
 (zc 1 v1 λv21_2=>
 HLd v21_2 w_1 λv22_2=>
 zd .geq v22_2 (.int .i64 0) λv23_2=>
 R v23_2 w_1)
 (R (.bool false) w_1)))
theorem vc124(v0:Value)(w:World)(R:Value→World→Prop)(h:Vc124 v0 w R):za Tryz.prog 124 [v0] w R:=
 VV Tryz.func124 (by kernel_rfl) (by kernel_rfl) (by kernel_rfl) h
def Vc79(v0:Value)(w:World)(R:Value→World→Prop):Prop:=
 ∃cs:List Value,v0= .agg cs.toArray∧zn cs 170 w λv1 w_1=>
 zl w_1 λw_2=>
 zc 0 v1 λv3=>
 HLd v3 w_2 λv4=>
 zc 1 v1 λv6=>
 HLd v6 w_2 λv7=>
 zc 2 v1 λv9=>
 HLd v9 w_2 λv10=>
 zc 3 v1 λv12=>
 HLd v12 w_2 λv13=>
 za Tryz.prog 78 [v4] w_2 λv5 w_3=>
 HLd v6 w_3 λv7_1=>
 v7_1=v7 ∧
 HLd v9 w_3 λv10_1=>
 v10_1=v10 ∧
 HLd v12 w_3 λv13_1=>
 v13_1=v13 ∧
 za Tryz.prog 78 [v7] w_3 λv8 w_4=>
 HLd v9 w_4 λv10_2=>
 v10_2=v10 ∧
 HLd v12 w_4 λv13_2=>
 v13_2=v13 ∧
 za Tryz.prog 80 [v10] w_4 λv11 w_5=>
 HLd v12 w_5 λv13_3=>
 v13_3=v13 ∧
 za Tryz.prog 163 [v13] w_5 λv14 w_6=>
 zo (zrow [.int .i64 0,.int .i64 0,.string ⟨#[]⟩] 4) [(0,3,v5),(3,3,v8),(6,3,v11),(9,3,v14)] 165 4 w_6 λv15 w_7=>
 R v15 w_7
theorem vc79(v0:Value)(w:World)(R:Value→World→Prop)(h:Vc79 v0 w R):za Tryz.prog 79 [v0] w R:=
 VV Tryz.func79 (by kernel_rfl) (by kernel_rfl) (by kernel_rfl) h
def Vc173(v0 v1:Value)(w:World)(R:Value→World→Prop):Prop:=
 zl w λw_1=>
 zg v0 λv6=>
 zc 2 v6 λv7=>
 HLd v7 w_1 λv8=>
 HIf v8
 (zg v0 λv65=>
 zc 2 v65 λv66=>
 HSt v66 (.bool true) w_1 λw_2=>
 R (.int .i64 0) w_2)
 (zg v0 λv11=>
 zc 1 v11 λv12=>
 HLd v12 w_1 λv13=>
 zg v0 λv15=>
 zc 0 v15 λv16=>
 HLd v16 w_1 λv17=>
 zh v17 λv18=>
 zd .geq v13 v18 λv19=>
 HIf v19
 (zg v0 λv65_1=>
 zc 2 v65_1 λv66_1=>
 HSt v66_1 (.bool true) w_1 λw_3=>
 R (.int .i64 0) w_3)
 (zg v0 λv23=>
 zc 0 v23 λv24=>
 HLd v24 w_1 λv25=>
 zg v0 λv27=>
 zc 1 v27 λv28=>
 HLd v28 w_1 λv29=>
 zk 3 v25 v29 λv30=>
 zc 0 v30 λv31=>
 HLd v31 w_1 λv32=>
 zd .neq v32 (.int .i64 1) λv33=>
 HIf v33
 (zg v0 λv65_2=>
 zc 2 v65_2 λv66_2=>
 HSt v66_2 (.bool true) w_1 λw_4=>
 R (.int .i64 0) w_4)
 (zg v0 λv37=>
 zc 0 v37 λv38=>
 HLd v38 w_1 λv39=>
 zg v0 λv41=>
 zc 1 v41 λv42=>
 HLd v42 w_1 λv43=>
 zk 3 v39 v43 λv44=>
 zc 1 v44 λv45=>
 HLd v45 w_1 λv46=>
 zd .lss v46 (.int .i64 0) λv47=>
 HIf v47
 (zg v0 λv65_3=>
 zc 2 v65_3 λv66_3=>
 HSt v66_3 (.bool true) w_1 λw_5=>
 R (.int .i64 0) w_5)
 (zg v0 λv51=>
 zc 0 v51 λv52=>
 HLd v52 w_1 λv53=>
 zg v0 λv55=>
 zc 1 v55 λv56=>
 HLd v56 w_1 λv57=>
 zk 3 v53 v57 λv58=>
 zc 1 v58 λv59=>
 HLd v59 w_1 λv60=>
 zd .gtr v60 v1 λv62=>
 HIf v62
 (zg v0 λv65_4=>
 zc 2 v65_4 λv66_4=>
 HSt v66_4 (.bool true) w_1 λw_6=>
 R (.int .i64 0) w_6)
 (zg v0 λv68=>
 zc 1 v68 λv69=>
 HLd v69 w_1 λv70=>
 zd .add v70 (.int .i64 1) λv71=>
 zg v0 λv72=>
 zc 1 v72 λv73=>
 HSt v73 v71 w_1 λw_7=>
 zl w_7 λw_8=>
 zg v0 λv75=>
 zc 0 v75 λv76=>
 HLd v76 w_8 λv77=>
 zg v0 λv79=>
 zc 1 v79 λv80=>
 HLd v80 w_8 λv81=>
 zd .sub v81 (.int .i64 1) λv82=>
 zk 3 v77 v82 λv83=>
 zc 1 v83 λv84=>
 HLd v84 w_8 λv85=>
 R v85 w_8)))))
theorem vc173(v0 v1:Value)(w:World)(R:Value→World→Prop)(h:Vc173 v0 v1 w R):za Tryz.prog 173 [v0,v1] w R:=
 VV Tryz.func173 (by kernel_rfl) (by kernel_rfl) (by kernel_rfl) h
def Vc174(v0:Value)(w:World)(R:Value→World→Prop):Prop:=
 zn [.int .i64 0,.int .i64 0,.bool false,.string ⟨#[]⟩] 170 w λv2 w_1=>
 za Tryz.prog 173 [v0,(.int .i64 7)] w_1 λv5 w_2=>
 zt [.int .i64 0,.int .i64 0,.bool false,.string ⟨#[]⟩] [(0,1,v5)] λv6=>
 zn [.int .i64 0,.int .i64 0,.bool false,.string ⟨#[]⟩] 170 w_2 λv3 w_3=>
 zp 4 v3 v6 w_3 λw_4=>
 za Tryz.prog 173 [v0,(.int .i64 1099511627776)] w_4 λv8 w_5=>
 zc 1 v3 λv9=>
 HSt v9 v8 w_5 λw_6=>
 za Tryz.prog 175 [v0] w_6 λv11 w_7=>
 zc 2 v3 λv12=>
 HSt v12 v11 w_7 λw_8=>
 za Tryz.prog 223 [v0] w_8 λv14 w_9=>
 zc 3 v3 λv15=>
 HSt v15 v14 w_9 λw_10=>
 zj 4 v3 w_10 λv16=>
 zp 4 v2 v16 w_10 λw_11=>
 zj 4 v2 w_11 λr=>
 R r w_11
theorem vc174(v0:Value)(w:World)(R:Value→World→Prop)(h:Vc174 v0 w R):za Tryz.prog 174 [v0] w R:=
 VV Tryz.func174 (by kernel_rfl) (by kernel_rfl) (by kernel_rfl) h
def Vc175(v0:Value)(w:World)(R:Value→World→Prop):Prop:=
 za Tryz.prog 173 [v0,(.int .i64 1)] w λv4 w_1=>
 zd .eql v4 (.int .i64 1) λv5=>
 R v5 w_1
theorem vc175(v0:Value)(w:World)(R:Value→World→Prop)(h:Vc175 v0 w R):za Tryz.prog 175 [v0] w R:=
 VV Tryz.func175 (by kernel_rfl) (by kernel_rfl) (by kernel_rfl) h
def Vc176(v0:Value)(w:World)(R:Value→World→Prop):Prop:=
 zl w λw_1=>
 zg v0 λv4=>
 zc 2 v4 λv5=>
 HLd v5 w_1 λv6=>
 zw v6 λv7=>
 HIf v7
 (zg v0 λv10=>
 zc 1 v10 λv11=>
 HLd v11 w_1 λv12=>
 zg v0 λv14=>
 zc 0 v14 λv15=>
 HLd v15 w_1 λv16=>
 zh v16 λv17=>
 zd .eql v12 v17 λv18=>
 R v18 w_1)
 (R (.bool false) w_1)
theorem vc176(v0:Value)(w:World)(R:Value→World→Prop)(h:Vc176 v0 w R):za Tryz.prog 176 [v0] w R:=
 VV Tryz.func176 (by kernel_rfl) (by kernel_rfl) (by kernel_rfl) h
def Vc223(v0:Value)(w:World)(R:Value→World→Prop):Prop:=
 zl w λw_1=>
 zg v0 λv4=>
 zc 2 v4 λv5=>
 HLd v5 w_1 λv6=>
 HIf v6
 (zg v0 λv34=>
 zc 2 v34 λv35=>
 HSt v35 (.bool true) w_1 λw_2=>
 R (.string {data:=#[]}) w_2)
 (zg v0 λv9=>
 zc 1 v9 λv10=>
 HLd v10 w_1 λv11=>
 zg v0 λv13=>
 zc 0 v13 λv14=>
 HLd v14 w_1 λv15=>
 zh v15 λv16=>
 zd .geq v11 v16 λv17=>
 HIf v17
 (zg v0 λv34_1=>
 zc 2 v34_1 λv35_1=>
 HSt v35_1 (.bool true) w_1 λw_3=>
 R (.string {data:=#[]}) w_3)
 (zg v0 λv21=>
 zc 0 v21 λv22=>
 HLd v22 w_1 λv23=>
 zg v0 λv25=>
 zc 1 v25 λv26=>
 HLd v26 w_1 λv27=>
 zk 3 v23 v27 λv28=>
 zc 0 v28 λv29=>
 HLd v29 w_1 λv30=>
 zd .neq v30 (.int .i64 2) λv31=>
 HIf v31
 (zg v0 λv34_2=>
 zc 2 v34_2 λv35_2=>
 HSt v35_2 (.bool true) w_1 λw_4=>
 R (.string {data:=#[]}) w_4)
 (zg v0 λv37=>
 zc 1 v37 λv38=>
 HLd v38 w_1 λv39=>
 zd .add v39 (.int .i64 1) λv40=>
 zg v0 λv41=>
 zc 1 v41 λv42=>
 HSt v42 v40 w_1 λw_5=>
 zl w_5 λw_6=>
 zg v0 λv44=>
 zc 0 v44 λv45=>
 HLd v45 w_6 λv46=>
 zg v0 λv48=>
 zc 1 v48 λv49=>
 HLd v49 w_6 λv50=>
 zd .sub v50 (.int .i64 1) λv51=>
 zk 3 v46 v51 λv52=>
 zc 2 v52 λv53=>
 HLd v53 w_6 λv54=>
 R v54 w_6)))
theorem vc223(v0:Value)(w:World)(R:Value→World→Prop)(h:Vc223 v0 w R):za Tryz.prog 223 [v0] w R:=
 VV Tryz.func223 (by kernel_rfl) (by kernel_rfl) (by kernel_rfl) h
def Vc18(v0 v1:Value)(w:World)(R:Value→World→Prop):Prop:=
 ∃cs:List Value,v1= .agg cs.toArray∧zn cs 46 w λv3 w_1=>
 ∃I:List Value→World→Prop,(zl w_1 λw_2=>
 zj 3 v3 w_2 λv9=>
 za Tryz.prog 42 [v9] w_2 λv10 w_3=>
 zw v10 λv11=>
 HIf v11
 (R (.int .i64 1) w_3)
 (zc 0 v3 λv13=>
 HLd v13 w_3 λv14=>
 zg v0 λv16=>
 zc 4 v16 λv17=>
 HLd v17 w_3 λv18=>
 zd .gtr v14 v18 λv19=>
 HIf v19
 (zj 3 v3 w_3 λv22=>
 za Tryz.prog 43 [v0,v22] w_3 λv23 w_4=>
 zw v23 λv24=>
 HIf v24
 (R (.int .i64 1) w_4)
 (I [] w_4))
 (I [] w_3))) ∧
 ∀w_5,I [] w_5 →
 zg v0 λv28=>
 zc 0 v28 λv29=>
 HLd v29 w_5 λv30=>
 zg v30 λv31=>
 zc 2 v31 λv32=>
 HLd v32 w_5 λv33=>
 HIf v33
 (R (.int .i64 8) w_5)
 (zg v0 λv35=>
 zc 5 v35 λv36=>
 HLd v36 w_5 λv37=>
 zh v37 λv38=>
 zd .eql v38 (.int .i64 0) λv39=>
 HIf v39
 (zj 3 v3 w_5 λv41=>
 za Tryz.prog 76 [v0,v41] w_5 λv42 w_6=>
 R v42 w_6)
 (zg v0 λv44=>
 zc 5 v44 λv45=>
 HLd v45 w_5 λv46=>
 zk 2 v46 (.int .i64 0) λv47=>
 zj 2 v47 w_5 λv48=>
 zn [.int .i64 0,.int .i64 0] 48 w_5 λv5 w_7=>
 zp 2 v5 v48 w_7 λw_8=>
 zg v0 λv51=>
 zc 5 v51 λv52=>
 HLd v52 w_8 λv53=>
 HSl 2 v53 (some (.int .i64 1)) none none λv54=>
 zg v0 λv55=>
 zc 5 v55 λv56=>
 HSt v56 v54 w_8 λw_9=>
 zc 0 v5 λv58=>
 HLd v58 w_9 λv59=>
 zd .eql v59 (.int .i64 3) λv60=>
 HIf v60
 (zj 3 v3 w_9 λv62=>
 za Tryz.prog 76 [v0,v62] w_9 λv63 w_10=>
 zd .eql v63 (.int .i64 0) λv91=>
 HIf v91
 (R (.int .i64 9) w_10)
 (R v63 w_10))
 (zl w_9 λw_11=>
 zc 0 v5 λv65=>
 HLd v65 w_11 λv66=>
 zd .eql v66 (.int .i64 2) λv67=>
 HIf v67
 (zc 0 v3 λv69=>
 HLd v69 w_11 λv70=>
 zg v0 λv72=>
 zc 4 v72 λv73=>
 HLd v73 w_11 λv74=>
 zd .gtr v70 v74 λv75=>
 HIf v75
 (zj 3 v3 w_11 λv78=>
 za Tryz.prog 19 [v78] w_11 λv79 w_12=>
 zm 0 v79 λv80=>
 zm 1 v79 λv81=>
 zl w_12 λw_13=>
 zg v0 λv83=>
 zc 1 v83 λv84=>
 HLd v84 w_13 λv85=>
 zc 1 v5 λv87=>
 HLd v87 w_13 λv88=>
 za Tryz.prog 77 [v85,v80,v88] w_13 λv89 w_14=>
 zd .eql v89 (.int .i64 0) λv91_1=>
 HIf v91_1
 (R (.int .i64 9) w_14)
 (R v89 w_14))
 (zd .eql (.int .i64 0) (.int .i64 0) λv91_2=>
 HIf v91_2
 (R (.int .i64 9) w_11)
 (R (.int .i64 0) w_11)))
 (zd .eql (.int .i64 0) (.int .i64 0) λv91_3=>
 HIf v91_3
 (R (.int .i64 9) w_11)
 (R (.int .i64 0) w_11)))))
theorem vc18(v0 v1:Value)(w:World)(R:Value→World→Prop)(h:Vc18 v0 v1 w R):za Tryz.prog 18 [v0,v1] w R:=
 VJ [] [(3,[],[0,3])] Tryz.func18 (by kernel_rfl) (by kernel_rfl) (by kernel_rfl) h
def Vc24(v0 v1 v2:Value)(w:World)(R:Value→World→Prop):Prop:=
 zd .lss v1 (.int .i64 1) λv17=>
 HIf v17
 (R (.tuple #[(.pointer none),(.int .i64 1)]) w)
 (zd .gtr v1 (.int .i64 8) λv20=>
 HIf v20
 (R (.tuple #[(.pointer none),(.int .i64 1)]) w)
 (za Tryz.prog 14 [v0,(.int .i64 8192),v2] w λv25 w_1=>
 zm 0 v25 λv26=>
 zm 1 v25 λv27=>
 zd .neq v27 (.int .i64 0) λv29=>
 HIf v29
 (R (.tuple #[(.pointer none),v27]) w_1)
 (za Tryz.prog 15 [v1] w_1 λv34 w_2=>
 zt [.pointer none,.pointer none,.pointer none,.slice none 0 0,.int .i64 0,.slice none 0 0] [(0,1,v0),(1,1,v26),(2,1,v34)] λv35=>
 ∃cs:List Value,v35= .agg cs.toArray∧zn cs 41 w_2 λv36 w_3=>
 ∃I:List Value→World→Prop,(za Tryz.prog 94 [v26] w_3 λv38 w_4=>
 zd .neq v38 (.int .i64 1) λv39=>
 HIf v39
 (za Tryz.prog 86 [v26] w_4 λv42 w_5=>
 za Tryz.prog 94 [v26] w_5 λv44 w_6=>
 zd .geq v42 v44 λv45=>
 HIf v45
 (R (.tuple #[(.pointer none),(.int .i64 3)]) w_6)
 (I [] w_6))
 (I [] w_4)) ∧
 ∀w_7,I [] w_7 →
 za Tryz.prog 94 [v26] w_7 λv48 w_8=>
 ∃(I_1:List Value→World→Prop) (μ:List Value→World→Nat),I_1 [v48] w_8 ∧
 ∀(v11:Value) w_9,I_1 [v11] w_9 →
 za Tryz.prog 86 [v26] w_9 λv51 w_10=>
 zd .leq v11 v51 λv52=>
 HIf v52
 (za Tryz.prog 95 [v26,v11] w_10 λv58 w_11=>
 zm 0 v58 λv59=>
 zm 1 v58 λv60=>
 za Tryz.prog 96 [v59] w_11 λv63 w_12=>
 zm 0 v63 λv64=>
 zm 1 v63 λv65=>
 zn [.int .i64 0,.slice none 0 0,.slice none 0 0] 46 w_12 λv14 w_13=>
 zp 3 v14 v64 w_13 λw_14=>
 zl w_14 λw_15=>
 zd .neq v65 (.int .i64 0) λv67=>
 HIf v67
 (R (.tuple #[(.pointer none),(.int .i64 3)]) w_15)
 (zc 0 v14 λv69=>
 HLd v69 w_15 λv70=>
 zg v36 λv72=>
 zc 4 v72 λv73=>
 HLd v73 w_15 λv74=>
 zd .leq v70 v74 λv75=>
 HIf v75
 (R (.tuple #[(.pointer none),(.int .i64 3)]) w_15)
 (zj 3 v14 w_15 λv79=>
 za Tryz.prog 43 [v36,v79] w_15 λv80 w_16=>
 zw v80 λv81=>
 HIf v81
 (R (.tuple #[(.pointer none),(.int .i64 3)]) w_16)
 (zj 3 v14 w_16 λv84=>
 za Tryz.prog 97 [v36,v84] w_16 λv85 w_17=>
 zd .add v11 (.int .i64 1) λv54=>
 I_1 [v54] w_17∧μ [v54] w_17<μ [v11] w_9))))
 (R (.tuple #[v36,(.int .i64 0)]) w_10))))
theorem vc24(v0 v1 v2:Value)(w:World)(R:Value→World→Prop)(h:Vc24 v0 v1 v2 w R):za Tryz.prog 24 [v0,v1,v2] w R:=
 VJ [(10,[11],[8,10])] [(9,[],[8,10])] Tryz.func24 (by kernel_rfl) (by kernel_rfl) (by kernel_rfl) h
def Vc43(v0 v1:Value)(w:World)(R:Value→World→Prop):Prop:=
 ∃cs:List Value,v1= .agg cs.toArray∧zn cs 46 w λv3 w_1=>
 zj 3 v3 w_1 λv8=>
 za Tryz.prog 42 [v8] w_1 λv9 w_2=>
 zw v9 λv10=>
 HIf v10
 (R (.bool false) w_2)
 (∃(I:List Value→World→Prop) (μ:List Value→World→Nat),I [(.int .i64 0)] w_2 ∧
 ∀(v5:Value) w_3,I [v5] w_3 →
 zc 1 v3 λv12=>
 HLd v12 w_3 λv13=>
 zh v13 λv14=>
 zd .lss v5 v14 λv15=>
 HIf v15
 (zl w_3 λw_4=>
 zc 1 v3 λv18=>
 HLd v18 w_4 λv19=>
 zk 5 v19 v5 λv21=>
 zc 1 v21 λv22=>
 HLd v22 w_4 λv23=>
 zg v0 λv25=>
 zc 2 v25 λv26=>
 HLd v26 w_4 λv27=>
 zg v27 λv28=>
 zc 0 v28 λv29=>
 HLd v29 w_4 λv30=>
 zh v30 λv31=>
 zd .geq v23 v31 λv32=>
 HIf v32
 (R (.bool false) w_4)
 (zd .add v5 (.int .i64 1) λv17=>
 I [v17] w_4∧μ [v17] w_4<μ [v5] w_3))
 (zl w_3 λw_5=>
 zg v0 λv35=>
 zc 3 v35 λv36=>
 HLd v36 w_5 λv37=>
 zj 3 v3 w_5 λv38=>
 za Tryz.prog 123 [v37,v38] w_5 λv39 w_6=>
 zm 0 v39 λv40=>
 zm 1 v39 λv41=>
 R v41 w_6))
theorem vc43(v0 v1:Value)(w:World)(R:Value→World→Prop)(h:Vc43 v0 v1 w R):za Tryz.prog 43 [v0,v1] w R:=
 VJ [(4,[5],[0,3])] [] Tryz.func43 (by kernel_rfl) (by kernel_rfl) (by kernel_rfl) h
def Vc76(v0 v1:Value)(w:World)(R:Value→World→Prop):Prop:=
 ∃cs:List Value,v1= .agg cs.toArray∧zn cs 46 w λv3 w_1=>
 zl w_1 λw_2=>
 zc 0 v3 λv9=>
 HLd v9 w_2 λv10=>
 zg v0 λv12=>
 zc 4 v12 λv13=>
 HLd v13 w_2 λv14=>
 zd .leq v10 v14 λv15=>
 HIf v15
 (R (.int .i64 0) w_2)
 (zj 3 v3 w_2 λv17=>
 za Tryz.prog 19 [v17] w_2 λv18 w_3=>
 zm 0 v18 λv19=>
 zm 1 v18 λv20=>
 zg v0 λv23=>
 zc 1 v23 λv24=>
 HLd v24 w_3 λv25=>
 za Tryz.prog 20 [v25,v19] w_3 λv27 w_4=>
 zm 0 v27 λv28=>
 zm 1 v27 λv29=>
 zd .neq v29 (.int .i64 0) λv31=>
 HIf v31
 (R v29 w_4)
 (zj 3 v3 w_4 λv34=>
 za Tryz.prog 97 [v0,v34] w_4 λv35 w_5=>
 R (.int .i64 0) w_5))
theorem vc76(v0 v1:Value)(w:World)(R:Value→World→Prop)(h:Vc76 v0 v1 w R):za Tryz.prog 76 [v0,v1] w R:=
 VV Tryz.func76 (by kernel_rfl) (by kernel_rfl) (by kernel_rfl) h
def Vc97(v0 v1:Value)(w:World)(R:Value→World→Prop):Prop:=
 ∃cs:List Value,v1= .agg cs.toArray∧zn cs 46 w λv3 w_1=>
 zl w_1 λw_2=>
 zg v0 λv5=>
 zc 2 v5 λv6=>
 HLd v6 w_2 λv7=>
 zc 1 v3 λv8=>
 HLd v8 w_2 λv9=>
 za Tryz.prog 63 [v7,v9] w_2 λv10 w_3=>
 zl w_3 λw_4=>
 zg v0 λv14=>
 zc 3 v14 λv15=>
 HLd v15 w_4 λv16=>
 zj 3 v3 w_4 λv17=>
 za Tryz.prog 123 [v16,v17] w_4 λv18 w_5=>
 zm 0 v18 λv19=>
 zm 1 v18 λv20=>
 zg v0 λv21=>
 zc 3 v21 λv22=>
 HSt v22 v19 w_5 λw_6=>
 zc 0 v3 λv24=>
 HLd v24 w_6 λv25=>
 zg v0 λv26=>
 zc 4 v26 λv27=>
 HSt v27 v25 w_6 λw_7=>
 R (.tuple #[]) w_7
theorem vc97(v0 v1:Value)(w:World)(R:Value→World→Prop)(h:Vc97 v0 v1 w R):za Tryz.prog 97 [v0,v1] w R:=
 VV Tryz.func97 (by kernel_rfl) (by kernel_rfl) (by kernel_rfl) h
def Vc98(v0:Value)(w:World)(R:Value→World→Prop):Prop:=
 zl w λw_1=>
 zg v0 λv4=>
 zc 1 v4 λv5=>
 HLd v5 w_1 λv6=>
 zg v0 λv9=>
 zc 1 v9 λv10=>
 HLd v10 w_1 λv11=>
 za Tryz.prog 86 [v6] w_1 λv7 w_2=>
 HLd v10 w_2 λv11_1=>
 v11_1=v11 ∧
 za Tryz.prog 94 [v11] w_2 λv12 w_3=>
 zd .sub v7 v12 λv13=>
 zd .add v13 (.int .i64 1) λv14=>
 R v14 w_3
theorem vc98(v0:Value)(w:World)(R:Value→World→Prop)(h:Vc98 v0 w R):za Tryz.prog 98 [v0] w R:=
 VV Tryz.func98 (by kernel_rfl) (by kernel_rfl) (by kernel_rfl) h
def Vc123(v0 v1:Value)(w:World)(R:Value→World→Prop):Prop:=
 ∃cs:List Value,v1= .agg cs.toArray∧zn cs 46 w λv3 w_1=>
 ∃(I:List Value→World→Prop) (μ:List Value→World→Nat),I [v0,(.int .i64 0)] w_1 ∧
 ∀(v0_1:Value) (v6:Value) w_2,I [v0_1,v6] w_2 →
 zc 2 v3 λv10=>
 HLd v10 w_2 λv11=>
 zh v11 λv12=>
 zd .lss v6 v12 λv13=>
 HIf v13
 (zc 2 v3 λv16=>
 HLd v16 w_2 λv17=>
 zk 7 v17 v6 λv19=>
 zj 7 v19 w_2 λv20=>
 zn [.int .i64 0,.int .i64 0,.int .i64 0,.int .i64 0,.int .i64 0,.int .i64 0,.bool false] 98 w_2 λv7 w_3=>
 zp 7 v7 v20 w_3 λw_4=>
 zc 0 v7 λv21=>
 HLd v21 w_4 λv22=>
 zd .eql v22 (.int .i64 1) λv23=>
 HIf v23
 (zc 1 v7 λv24=>
 HLd v24 w_4 λv25=>
 zh v0_1 λv27=>
 zd .add v27 (.int .i64 1) λv28=>
 zd .neq v25 v28 λv29=>
 HIf v29
 (R (.tuple #[(.slice none 0 0),(.bool false)]) w_4)
 (zc 2 v7 λv32=>
 HLd v32 w_4 λv33=>
 zc 3 v7 λv34=>
 HLd v34 w_4 λv35=>
 zc 4 v7 λv36=>
 HLd v36 w_4 λv37=>
 za Tryz.prog 161 [v0_1,v33,v35,v37] w_4 λv38 w_5=>
 zm 0 v38 λv39=>
 zm 1 v38 λv40=>
 zw v40 λv53=>
 HIf v53
 (R (.tuple #[(.slice none 0 0),(.bool false)]) w_5)
 (zd .add v6 (.int .i64 1) λv15=>
 I [v39,v15] w_5∧μ [v39,v15] w_5<μ [v0_1,v6] w_2)))
 (zc 1 v7 λv43=>
 HLd v43 w_4 λv44=>
 zc 5 v7 λv45=>
 HLd v45 w_4 λv46=>
 zc 6 v7 λv47=>
 HLd v47 w_4 λv48=>
 za Tryz.prog 162 [v0_1,v44,v46,v48] w_4 λv49 w_6=>
 zm 0 v49 λv50=>
 zm 1 v49 λv51=>
 zw v51 λv53_1=>
 HIf v53_1
 (R (.tuple #[(.slice none 0 0),(.bool false)]) w_6)
 (zd .add v6 (.int .i64 1) λv15_1=>
 I [v50,v15_1] w_6∧μ [v50,v15_1] w_6<μ [v0_1,v6] w_2)))
 (R (.tuple #[v0_1,(.bool true)]) w_2)
theorem vc123(v0 v1:Value)(w:World)(R:Value→World→Prop)(h:Vc123 v0 v1 w R):za Tryz.prog 123 [v0,v1] w R:=
 VJ [(2,[0,6],[3])] [] Tryz.func123 (by kernel_rfl) (by kernel_rfl) (by kernel_rfl) h
def Vc3(v0 v1:Value)(w:World)(R:Value→World→Prop):Prop:=
 za Tryz.prog 12 [] w λv19 w_1=>
 zt [.slice none 0 0,.int .i64 0,.bool false,.int .i64 0] [] λv20=>
 ∃cs:List Value,v20= .agg cs.toArray∧zn cs 29 w_1 λv21 w_2=>
 za Tryz.prog 13 [] w_2 λv22 w_3=>
 zw v22 λv23=>
 HIf v23
 (R (.bool false) w_3)
 (HEq (.pointer 144) false v19 (.pointer none) λv26=>
 HIf v26
 (R (.bool false) w_3)
 (za Tryz.prog 14 [v21,(.int .i64 8192),(.int .i64 300)] w_3 λv30 w_4=>
 zm 0 v30 λv31=>
 zm 1 v30 λv32=>
 zt [.slice none 0 0,.int .i64 0,.bool false,.int .i64 0] [] λv33=>
 ∃cs_1:List Value,v33= .agg cs_1.toArray∧zn cs_1 29 w_4 λv34 w_5=>
 za Tryz.prog 15 [(.int .i64 2)] w_5 λv35 w_6=>
 zt [.pointer none,.pointer none,.pointer none,.slice none 0 0,.int .i64 0,.slice none 0 0] [(0,1,v34),(2,1,v35)] λv36=>
 ∃cs_2:List Value,v36= .agg cs_2.toArray∧zn cs_2 41 w_6 λv37 w_7=>
 zg v37 λv41=>
 zc 0 v41 λv42=>
 HLd v42 w_7 λv43=>
 za Tryz.prog 14 [v43,(.int .i64 8192),(.int .i64 2000)] w_7 λv44 w_8=>
 zm 0 v44 λv45=>
 zm 1 v44 λv46=>
 zg v37 λv47=>
 zc 1 v47 λv48=>
 HSt v48 v45 w_8 λw_9=>
 ∃I:List Value→World→Prop,(∃(I_1:List Value→World→Prop) (μ:List Value→World→Nat),I_1 [(.int .i64 0)] w_9 ∧
 ∀(v10:Value) w_10,I_1 [v10] w_10 →
 zh v0 λv51=>
 zd .lss v10 v51 λv52=>
 HIf v52
 (zd .lss v10 (.int .i64 6) λv55=>
 HIf v55
 (zk 8 v0 v10 λv61=>
 zc 2 v61 λv62=>
 zj 3 v62 w_10 λv63=>
 za Tryz.prog 16 [v63] w_10 λv64 w_11=>
 HIf v64
 (R (.bool true) w_11)
 (zk 8 v0 v10 λv68=>
 zj 8 v68 w_11 λv69=>
 za Tryz.prog 17 [v37,v69] w_11 λv70 w_12=>
 zn [.int .i64 0,.slice none 0 0,.slice none 0 0] 46 w_12 λv11 w_13=>
 zp 3 v11 v70 w_13 λw_14=>
 zj 3 v11 w_14 λv72=>
 za Tryz.prog 18 [v37,v72] w_14 λv73 w_15=>
 zj 3 v11 w_15 λv75=>
 za Tryz.prog 19 [v75] w_15 λv76 w_16=>
 zm 0 v76 λv77=>
 zm 1 v76 λv78=>
 zd .neq v78 (.int .i64 0) λv80=>
 HIf v80
 (zh v1 λv84=>
 zd .lss v10 v84 λv85=>
 HIf v85
 (zk 1 v1 v10 λv89=>
 HLd v89 w_16 λv90=>
 za Tryz.prog 20 [v31,v90] w_16 λv93 w_17=>
 zd .add v10 (.int .i64 1) λv58=>
 I_1 [v58] w_17∧μ [v58] w_17<μ [v10] w_10)
 (za Tryz.prog 20 [v31,v77] w_16 λv93_1 w_18=>
 zd .add v10 (.int .i64 1) λv58_1=>
 I_1 [v58_1] w_18∧μ [v58_1] w_18<μ [v10] w_10))
 (za Tryz.prog 20 [v31,v77] w_16 λv93_2 w_19=>
 zd .add v10 (.int .i64 1) λv58_2=>
 I_1 [v58_2] w_19∧μ [v58_2] w_19<μ [v10] w_10)))
 (I [] w_10))
 (I [] w_10)) ∧
 ∀w_20,I [] w_20 →
 ∃(I_2:List Value→World→Prop) (μ_1:List Value→World→Nat),I_2 [(.int .i64 0)] w_20 ∧
 ∀(v14:Value) w_21,I_2 [v14] w_21 →
 zg v21 λv96=>
 zc 0 v96 λv97=>
 HLd v97 w_21 λv98=>
 zh v98 λv99=>
 zd .lss v14 v99 λv100=>
 HIf v100
 (zl w_21 λw_22=>
 zg v21 λv105=>
 zc 0 v105 λv106=>
 HLd v106 w_22 λv107=>
 zk 3 v107 v14 λv109=>
 zc 0 v109 λv110=>
 HLd v110 w_22 λv111=>
 zg v21 λv113=>
 zc 0 v113 λv114=>
 HLd v114 w_22 λv115=>
 zk 3 v115 v14 λv117=>
 zc 2 v117 λv118=>
 HLd v118 w_22 λv119=>
 za Tryz.prog 21 [v19,v111,v119] w_22 λv120 w_23=>
 zg v21 λv123=>
 zc 0 v123 λv124=>
 HLd v124 w_23 λv125=>
 zk 3 v125 v14 λv127=>
 zc 0 v127 λv128=>
 HLd v128 w_23 λv129=>
 za Tryz.prog 22 [v19,v129] w_23 λv130 w_24=>
 zd .add v14 (.int .i64 1) λv102=>
 I_2 [v102] w_24∧μ_1 [v102] w_24<μ_1 [v14] w_21)
 (za Tryz.prog 23 [v19,(.int .i64 2),(.int .i64 300)] w_21 λv133 w_25=>
 zm 0 v133 λv134=>
 zm 1 v133 λv135=>
 za Tryz.prog 24 [v21,(.int .i64 2),(.int .i64 300)] w_25 λv138 w_26=>
 zm 0 v138 λv139=>
 zm 1 v138 λv140=>
 zd .neq v135 v140 λv143=>
 HIf v143
 (R (.bool false) w_26)
 (HEq (.pointer 86) false v134 (.pointer none) λv146=>
 HEq (.pointer 41) false v139 (.pointer none) λv148=>
 HEq .bool true v146 v148 λv149=>
 HIf v149
 (R (.bool false) w_26)
 (HEq (.pointer 41) false v139 (.pointer none) λv152=>
 HIf v152
 (R (.bool true) w_26)
 (za Tryz.prog 25 [v134] w_26 λv155 w_27=>
 HEq (.pointer 219) true v155 (.pointer none) λv156=>
 HIf v156
 (za Tryz.prog 26 [v134,v139] w_27 λv160 w_28=>
 R v160 w_28)
 (R (.bool false) w_27)))))))
theorem vc3(v0 v1:Value)(w:World)(R:Value→World→Prop)(h:Vc3 v0 v1 w R):za Tryz.prog 3 [v0,v1] w R:=
 VJ [(8,[10],[0,1,5,6,7,9]),(19,[14],[5,6])] [(18,[],[5,6])] Tryz.func3 (by kernel_rfl) (by kernel_rfl) (by kernel_rfl) h
def Vc7(v0 v1:Value)(w:World)(R:Value→World→Prop):Prop:=
 za Tryz.prog 12 [] w λv17 w_1=>
 zt [.slice none 0 0,.int .i64 0,.bool false,.int .i64 0] [] λv18=>
 ∃cs:List Value,v18= .agg cs.toArray∧zn cs 29 w_1 λv19 w_2=>
 za Tryz.prog 27 [v0] w_2 λv23 w_3=>
 za Tryz.prog 23 [v17,(.int .i64 2),v23] w_3 λv24 w_4=>
 zm 0 v24 λv25=>
 zm 1 v24 λv26=>
 za Tryz.prog 27 [v0] w_4 λv30 w_5=>
 za Tryz.prog 24 [v19,(.int .i64 2),v30] w_5 λv31 w_6=>
 zm 0 v31 λv32=>
 zm 1 v31 λv33=>
 za Tryz.prog 13 [] w_6 λv34 w_7=>
 zw v34 λv35=>
 HIf v35
 (R (.bool false) w_7)
 (HEq (.pointer 144) false v17 (.pointer none) λv38=>
 HIf v38
 (R (.bool false) w_7)
 (HEq (.pointer 86) false v25 (.pointer none) λv42=>
 HIf v42
 (R (.bool false) w_7)
 (zd .neq v26 (.int .i64 0) λv46=>
 HIf v46
 (R (.bool false) w_7)
 (∃(I:List Value→World→Prop) (μ:List Value→World→Nat),I [v25,v32,(.int .i64 0)] w_7 ∧
 ∀(v7 v9 v11:Value) w_8,I [v7,v9,v11] w_8 →
 zh v1 λv50=>
 zd .lss v11 v50 λv51=>
 HIf v51
 (zd .lss v11 (.int .i64 40) λv54=>
 HIf v54
 (zk 8 v1 v11 λv60=>
 zj 8 v60 w_8 λv61=>
 zn [.int .i64 0,.int .i64 0,.int .i64 0,.slice none 0 0,.slice none 0 0,.int .i64 0,.int .i64 0,.slice none 0 0] 51 w_8 λv12 w_9=>
 zp 8 v12 v61 w_9 λw_10=>
 zc 2 v12 λv62=>
 zj 3 v62 w_10 λv63=>
 za Tryz.prog 16 [v63] w_10 λv64 w_11=>
 HIf v64
 (R (.bool true) w_11)
 (∃I_1:List Value→World→Prop,(zc 0 v12 λv65=>
 HLd v65 w_11 λv66=>
 za Tryz.prog 29 [v66,(.int .i64 10)] w_11 λv67 w_12=>
 zd .lss v67 (.int .i64 6) λv108=>
 HIf v108
 (zj 8 v12 w_12 λv110=>
 za Tryz.prog 17 [v9,v110] w_12 λv111 w_13=>
 zn [.int .i64 0,.slice none 0 0,.slice none 0 0] 46 w_13 λv14 w_14=>
 zp 3 v14 v111 w_14 λw_15=>
 zl w_15 λw_16=>
 zj 3 v14 w_16 λv113=>
 zj 3 v14 w_16 λv116=>
 za Tryz.prog 30 [v7,v113] w_16 λv114 w_17=>
 zj 3 v14 w_17 λv116_1=>
 v116_1=v116 ∧
 za Tryz.prog 18 [v9,v116] w_17 λv117 w_18=>
 zd .neq v114 v117 λv118=>
 HIf v118
 (R (.bool false) w_18)
 (I_1 [v7,v9] w_18))
 (zd .eql v67 (.int .i64 6) λv121=>
 HIf v121
 (zc 5 v12 λv122=>
 zj 2 v122 w_12 λv123=>
 za Tryz.prog 39 [v123] w_12 λv124 w_19=>
 zn [.int .i64 0,.int .i64 0] 48 w_19 λv15 w_20=>
 zp 2 v15 v124 w_20 λw_21=>
 zl w_21 λw_22=>
 zg v9 λv127=>
 zc 5 v127 λv128=>
 HLd v128 w_22 λv129=>
 zj 2 v15 w_22 λv130=>
 zo (zrow [.int .i64 0,.int .i64 0] 1) [(0,2,v130)] 48 1 w_22 λv131 w_23=>
 HLd v128 w_23 λv129_1=>
 v129_1=v129 ∧
 za Tryz.prog 44 [v129,v131] w_23 λv132 w_24=>
 zg v9 λv133=>
 zc 5 v133 λv134=>
 HSt v134 v132 w_24 λw_25=>
 zl w_25 λw_26=>
 zj 2 v15 w_26 λv137=>
 (za Tryz.prog 25 [v7] w_26 λv136 w_27=>
 zj 2 v15 w_27 λv137_1=>
 v137_1=v137 ∧
 zo (zrow [.int .i64 0,.int .i64 0] 1) [(0,2,v137)] 48 1 w_27 λv138 w_28=>
 za Tryz.prog 40 [v136,v138] w_28 λv139 w_29=>
 zd .neq v139 (.int .i64 1) λv140=>
 HIf v140
 (R (.bool false) w_29)
 (I_1 [v7,v9] w_29)) ∧
 (zo (zrow [.int .i64 0,.int .i64 0] 1) [(0,2,v137)] 48 1 w_26 λv138_1 w_30=>
 za Tryz.prog 25 [v7] w_30 λv136_1 w_31=>
 za Tryz.prog 40 [v136_1,v138_1] w_31 λv139_1 w_32=>
 zd .neq v139_1 (.int .i64 1) λv140_1=>
 HIf v140_1
 (R (.bool false) w_32)
 (I_1 [v7,v9] w_32)))
 (zd .eql v67 (.int .i64 7) λv143=>
 HIf v143
 (zc 1 v12 λv145=>
 HLd v145 w_12 λv146=>
 za Tryz.prog 29 [v146,(.int .i64 5)] w_12 λv147 w_33=>
 zd .add (.int .i64 1) v147 λv148=>
 za Tryz.prog 28 [v17,v148] w_33 λv149 w_34=>
 zc 1 v12 λv151=>
 HLd v151 w_34 λv152=>
 za Tryz.prog 29 [v152,(.int .i64 5)] w_34 λv153 w_35=>
 zd .add (.int .i64 1) v153 λv154=>
 za Tryz.prog 45 [v19,v154] w_35 λv155 w_36=>
 I_1 [v7,v9] w_36)
 (zc 7 v12 λv68=>
 HLd v68 w_12 λv69=>
 za Tryz.prog 46 [v69,(.int .i64 10)] w_12 λv70 w_37=>
 za Tryz.prog 31 [v17,v70] w_37 λv73 w_38=>
 za Tryz.prog 47 [v19,v70] w_38 λv76 w_39=>
 za Tryz.prog 27 [v0] w_39 λv80 w_40=>
 za Tryz.prog 23 [v17,(.int .i64 2),v80] w_40 λv81 w_41=>
 zm 0 v81 λv82=>
 zm 1 v81 λv83=>
 za Tryz.prog 27 [v0] w_41 λv87 w_42=>
 za Tryz.prog 24 [v19,(.int .i64 2),v87] w_42 λv88 w_43=>
 zm 0 v88 λv89=>
 zm 1 v88 λv90=>
 HEq (.pointer 86) false v82 (.pointer none) λv92=>
 HIf v92
 (R (.bool false) w_43)
 (zd .neq v83 (.int .i64 0) λv95=>
 HIf v95
 (R (.bool false) w_43)
 (HEq (.pointer 41) false v89 (.pointer none) λv99=>
 HIf v99
 (R (.bool false) w_43)
 (za Tryz.prog 25 [v82] w_43 λv103 w_44=>
 HEq (.pointer 219) false v103 (.pointer none) λv104=>
 HIf v104
 (R (.bool false) w_44)
 (I_1 [v82,v89] w_44)))))))) ∧
 ∀(v7_1:Value) (v9_1:Value) w_45,I_1 [v7_1,v9_1] w_45 →
 za Tryz.prog 48 [v17,v19] w_45 λv158 w_46=>
 zw v158 λv159=>
 HIf v159
 (R (.bool false) w_46)
 (za Tryz.prog 26 [v7_1,v9_1] w_46 λv163 w_47=>
 zw v163 λv164=>
 HIf v164
 (R (.bool false) w_47)
 (zd .add v11 (.int .i64 1) λv57=>
 I [v7_1,v9_1,v57] w_47∧μ [v7_1,v9_1,v57] w_47<μ [v7,v9,v11] w_8))))
 (R (.bool true) w_8))
 (R (.bool true) w_8)))))
theorem vc7(v0 v1:Value)(w:World)(R:Value→World→Prop)(h:Vc7 v0 v1 w R):za Tryz.prog 7 [v0,v1] w R:=
 VJ [(7,[7,9,11],[0,1,5,6])] [(32,[7,9],[0,1,5,6,11])] Tryz.func7 (by kernel_rfl) (by kernel_rfl) (by kernel_rfl) h
def Vc13(w:World)(R:Value→World→Prop):Prop:=
 za Tryz.prog 12 [] w λv6 w_1=>
 za Tryz.prog 23 [v6,(.int .i64 1),(.int .i64 64)] w_1 λv9 w_2=>
 zm 0 v9 λv10=>
 zm 1 v9 λv11=>
 HEq (.pointer 144) false v6 (.pointer none) λv13=>
 HIf v13
 (R (.bool false) w_2)
 (HEq (.pointer 86) false v10 (.pointer none) λv16=>
 HIf v16
 (R (.bool false) w_2)
 (zd .neq v11 (.int .i64 0) λv20=>
 HIf v20
 (R (.bool false) w_2)
 (za Tryz.prog 25 [v10] w_2 λv24 w_3=>
 HEq (.pointer 219) false v24 (.pointer none) λv25=>
 HIf v25
 (R (.bool false) w_3)
 (zt [.int .i64 0,.int .i64 0,.int .i64 0,.bool false,.string ⟨#[]⟩] [(0,1,(.int .i64 2)),(2,1,(.int .i64 5)),(4,1,(.string {data:=#[97]}))] λv28=>
 zo (zrow [.int .i64 0,.int .i64 0,.int .i64 0,.bool false,.string ⟨#[]⟩] 1) [(0,5,v28)] 96 1 w_3 λv29 w_4=>
 zt [.int .i64 0,.slice none 0 0,.slice none 0 0] [(0,1,(.int .i64 3)),(1,1,v29)] λv30=>
 za Tryz.prog 30 [v10,v30] w_4 λv31 w_5=>
 zt [.int .i64 0,.slice none 0 0,.slice none 0 0] [(0,1,(.int .i64 3))] λv33=>
 za Tryz.prog 30 [v10,v33] w_5 λv34 w_6=>
 zd .eql v31 (.int .i64 0) λv36=>
 HIf v36
 (zd .eql v34 (.int .i64 0) λv39=>
 HIf v39
 (za Tryz.prog 33 [v10] w_6 λv43 w_7=>
 zd .eql v43 (.int .i64 3) λv44=>
 HIf v44
 (za Tryz.prog 32 [v10] w_7 λv48 w_8=>
 zd .eql v48 (.int .i64 1) λv49=>
 HIf v49
 (zg v10 λv53=>
 zc 0 v53 λv54=>
 HLd v54 w_8 λv55=>
 za Tryz.prog 68 [v55,(.int .i64 0)] w_8 λv56 w_9=>
 zt [.int .i64 0,.string ⟨#[]⟩] [(0,1,(.int .i64 5)),(1,1,(.string {data:=#[97]}))] λv57=>
 zo (zrow [.int .i64 0,.string ⟨#[]⟩] 1) [(0,2,v57)] 147 1 w_9 λv58 w_10=>
 za Tryz.prog 67 [v56,v58] w_10 λv59 w_11=>
 HIf v59
 (zg v10 λv63=>
 zc 0 v63 λv64=>
 HLd v64 w_11 λv65=>
 za Tryz.prog 69 [v65] w_11 λv66 w_12=>
 zd .eql v66 (.int .i64 1) λv67=>
 R v67 w_12)
 (R (.bool false) w_11))
 (R (.bool false) w_8))
 (R (.bool false) w_7))
 (R (.bool false) w_6))
 (R (.bool false) w_6)))))
theorem vc13(w:World)(R:Value→World→Prop)(h:Vc13 w R):za Tryz.prog 13 [] w R:=
 VV Tryz.func13 (by kernel_rfl) (by kernel_rfl) (by kernel_rfl) h
def Vc16(v0:Value)(w:World)(R:Value→World→Prop):Prop:=
 ∃cs:List Value,v0= .agg cs.toArray∧zn cs 46 w λv1 w_1=>
 zc 1 v1 λv3=>
 HLd v3 w_1 λv4=>
 zh v4 λv5=>
 zd .gtr v5 (.int .i64 100) λv6=>
 HIf v6
 (R (.bool true) w_1)
 (zc 2 v1 λv8=>
 HLd v8 w_1 λv9=>
 zh v9 λv10=>
 zd .gtr v10 (.int .i64 100) λv11=>
 R v11 w_1)
theorem vc16(v0:Value)(w:World)(R:Value→World→Prop)(h:Vc16 v0 w R):za Tryz.prog 16 [v0] w R:=
 VV Tryz.func16 (by kernel_rfl) (by kernel_rfl) (by kernel_rfl) h
def Vc17(v0 v1:Value)(w:World)(R:Value→World→Prop):Prop:=
 ∃cs:List Value,v1= .agg cs.toArray∧zn cs 51 w λv3 w_1=>
 zn [.int .i64 0,.slice none 0 0,.slice none 0 0] 46 w_1 λv4 w_2=>
 zc 1 v3 λv6=>
 HLd v6 w_2 λv7=>
 za Tryz.prog 29 [v7,(.int .i64 13)] w_2 λv8 w_3=>
 zd .eql v8 (.int .i64 12) λv9=>
 HIf v9
 (zc 2 v3 λv10=>
 zj 3 v10 w_3 λv11=>
 zp 3 v4 v11 w_3 λw_4=>
 zj 3 v4 w_4 λr=>
 R r w_4)
 (∃I:List Value→World→Prop,(zl w_3 λw_5=>
 zc 2 v3 λv12=>
 zj 3 v12 w_5 λv13=>
 zg v0 λv15=>
 zc 4 v15 λv16=>
 HLd v16 w_5 λv17=>
 (za Tryz.prog 53 [v13,(.int .i64 2),v17] w_5 λv18 w_6=>
 zn [.int .i64 0,.slice none 0 0,.slice none 0 0] 46 w_6 λv5 w_7=>
 zp 3 v5 v18 w_7 λw_8=>
 I [v5] w_8) ∧
 (zn [.int .i64 0,.slice none 0 0,.slice none 0 0] 46 w_5 λv5_1 w_9=>
 zj 3 v12 w_9 λv13_1=>
 v13_1=v13 ∧
 HLd v16 w_9 λv17_1=>
 v17_1=v17 ∧
 za Tryz.prog 53 [v13,(.int .i64 2),v17] w_9 λv18_1 w_10=>
 zp 3 v5_1 v18_1 w_10 λw_11=>
 I [v5_1] w_11)) ∧
 ∀(v5_2:Value) w_12,I [v5_2] w_12 →
 zc 1 v3 λv19=>
 HLd v19 w_12 λv20=>
 za Tryz.prog 29 [v20,(.int .i64 13)] w_12 λv21 w_13=>
 zd .eql v21 (.int .i64 11) λv22=>
 HIf v22
 (zg v0 λv25=>
 zc 4 v25 λv26=>
 HLd v26 w_13 λv27=>
 zd .gtr v27 (.int .i64 0) λv28=>
 HIf v28
 (zl w_13 λw_14=>
 zc 2 v3 λv30=>
 zc 0 v30 λv31=>
 HLd v31 w_14 λv32=>
 zg v0 λv34=>
 zc 4 v34 λv35=>
 HLd v35 w_14 λv36=>
 za Tryz.prog 64 [v32,v36] w_14 λv37 w_15=>
 zd .add (.int .i64 1) v37 λv38=>
 zt [.int .i64 0,.slice none 0 0,.slice none 0 0] [(0,1,v38)] λv39=>
 zp 3 v4 v39 w_15 λw_16=>
 zj 3 v4 w_16 λr_1=>
 R r_1 w_16)
 (zl w_13 λw_17=>
 zg v0 λv41=>
 zc 3 v41 λv42=>
 HLd v42 w_17 λv43=>
 zc 2 v3 λv44=>
 zc 2 v44 λv45=>
 HLd v45 w_17 λv46=>
 zc 0 v5_2 λv47=>
 HLd v47 w_17 λv48=>
 za Tryz.prog 75 [v43,v46,v48] w_17 λv49 w_18=>
 zc 2 v5_2 λv50=>
 HSt v50 v49 w_18 λw_19=>
 zj 3 v5_2 w_19 λv51=>
 zp 3 v4 v51 w_19 λw_20=>
 zj 3 v4 w_20 λr_2=>
 R r_2 w_20))
 (zl w_13 λw_21=>
 zg v0 λv41_1=>
 zc 3 v41_1 λv42_1=>
 HLd v42_1 w_21 λv43_1=>
 zc 2 v3 λv44_1=>
 zc 2 v44_1 λv45_1=>
 HLd v45_1 w_21 λv46_1=>
 zc 0 v5_2 λv47_1=>
 HLd v47_1 w_21 λv48_1=>
 za Tryz.prog 75 [v43_1,v46_1,v48_1] w_21 λv49_1 w_22=>
 zc 2 v5_2 λv50_1=>
 HSt v50_1 v49_1 w_22 λw_23=>
 zj 3 v5_2 w_23 λv51_1=>
 zp 3 v4 v51_1 w_23 λw_24=>
 zj 3 v4 w_24 λr_3=>
 R r_3 w_24))
theorem vc17(v0 v1:Value)(w:World)(R:Value→World→Prop)(h:Vc17 v0 v1 w R):za Tryz.prog 17 [v0,v1] w R:=
 VJ [] [(4,[5],[0,3,4])] Tryz.func17 (by kernel_rfl) (by kernel_rfl) (by kernel_rfl) h
def Vc26(v0 v1:Value)(w:World)(R:Value→World→Prop):Prop:=
 zl w λw_1=>
 zg v1 λv9=>
 zc 4 v9 λv10=>
 HLd v10 w_1 λv11=>
 za Tryz.prog 33 [v0] w_1 λv7 w_2=>
 HLd v10 w_2 λv11_1=>
 v11_1=v11 ∧
 zd .neq v7 v11 λv12=>
 HIf v12
 (R (.bool false) w_2)
 (za Tryz.prog 32 [v0] w_2 λv15 w_3=>
 za Tryz.prog 98 [v1] w_3 λv17 w_4=>
 zd .neq v15 v17 λv18=>
 HIf v18
 (R (.bool false) w_4)
 (zg v1 λv24=>
 zc 3 v24 λv25=>
 HLd v25 w_4 λv26=>
 za Tryz.prog 38 [v0] w_4 λv22 w_5=>
 HLd v25 w_5 λv26_1=>
 v26_1=v26 ∧
 za Tryz.prog 37 [v22,v26] w_5 λv27 w_6=>
 zw v27 λv28=>
 HIf v28
 (R (.bool false) w_6)
 (zg v1 λv35=>
 zc 5 v35 λv36=>
 HLd v36 w_6 λv37=>
 zh v37 λv38=>
 za Tryz.prog 25 [v0] w_6 λv32 w_7=>
 HLd v36 w_7 λv37_1=>
 v37_1=v37 ∧
 za Tryz.prog 41 [v32] w_7 λv33 w_8=>
 HLd v36 w_8 λv37_2=>
 v37_2=v37 ∧
 zd .neq v33 v38 λv39=>
 HIf v39
 (R (.bool false) w_8)
 (∃(I:List Value→World→Prop) (μ:List Value→World→Nat),I [(.int .i64 (-1))] w_8 ∧
 ∀(v5:Value) w_9,I [v5] w_9 →
 zg v1 λv43=>
 zc 2 v43 λv44=>
 HLd v44 w_9 λv45=>
 zg v45 λv46=>
 zc 0 v46 λv47=>
 HLd v47 w_9 λv48=>
 zh v48 λv49=>
 zd .leq v5 v49 λv50=>
 HIf v50
 (zl w_9 λw_10=>
 zg v0 λv54=>
 zc 0 v54 λv55=>
 HLd v55 w_10 λv56=>
 zg v1 λv60=>
 zc 2 v60 λv61=>
 HLd v61 w_10 λv62=>
 za Tryz.prog 68 [v56,v5] w_10 λv58 w_11=>
 HLd v61 w_11 λv62_1=>
 v62_1=v62 ∧
 za Tryz.prog 99 [v62,v5] w_11 λv64 w_12=>
 za Tryz.prog 67 [v58,v64] w_12 λv65 w_13=>
 zw v65 λv66=>
 HIf v66
 (R (.bool false) w_13)
 (zg v0 λv69=>
 zc 0 v69 λv70=>
 HLd v70 w_13 λv71=>
 zg v1 λv75=>
 zc 2 v75 λv76=>
 HLd v76 w_13 λv77=>
 za Tryz.prog 35 [v71,v5] w_13 λv73 w_14=>
 HLd v76 w_14 λv77_1=>
 v77_1=v77 ∧
 za Tryz.prog 36 [v77,v5] w_14 λv79 w_15=>
 za Tryz.prog 34 [v73,v79] w_15 λv80 w_16=>
 zw v80 λv81=>
 HIf v81
 (R (.bool false) w_16)
 (zd .add v5 (.int .i64 1) λv52=>
 I [v52] w_16∧μ [v52] w_16<μ [v5] w_9)))
 (zl w_9 λw_17=>
 zg v0 λv84=>
 zc 0 v84 λv85=>
 HLd v85 w_17 λv86=>
 zg v1 λv89=>
 zc 2 v89 λv90=>
 HLd v90 w_17 λv91=>
 zg v91 λv92=>
 zc 0 v92 λv93=>
 HLd v93 w_17 λv94=>
 zh v94 λv95=>
 za Tryz.prog 69 [v86] w_17 λv87 w_18=>
 HLd v90 w_18 λv91_1=>
 v91_1=v91 ∧
 HLd v93 w_18 λv94_1=>
 v94_1=v94 ∧
 zd .eql v87 v95 λv96=>
 R v96 w_18)))))
theorem vc26(v0 v1:Value)(w:World)(R:Value→World→Prop)(h:Vc26 v0 v1 w R):za Tryz.prog 26 [v0,v1] w R:=
 VJ [(4,[5],[0,1])] [] Tryz.func26 (by kernel_rfl) (by kernel_rfl) (by kernel_rfl) h
def Vc27(v0:Value)(w:World)(R:Value→World→Prop):Prop:=
 zo (zrow [.int .i64 0] 4) [(0,1,(.int .i64 64)),(1,1,(.int .i64 100)),(2,1,(.int .i64 300)),(3,1,(.int .i64 2000))] 3 4 w λv3 w_1=>
 za Tryz.prog 29 [v0,(.int .i64 4)] w_1 λv5 w_2=>
 zk 1 v3 v5 λv6=>
 HLd v6 w_2 λv7=>
 R v7 w_2
theorem vc27(v0:Value)(w:World)(R:Value→World→Prop)(h:Vc27 v0 w R):za Tryz.prog 27 [v0] w R:=
 VV Tryz.func27 (by kernel_rfl) (by kernel_rfl) (by kernel_rfl) h
def Vc48(v0 v1:Value)(w:World)(R:Value→World→Prop):Prop:=
 za Tryz.prog 108 [v0] w λv10 w_1=>
 zl w_1 λw_2=>
 zh v10 λv12=>
 zg v1 λv14=>
 zc 0 v14 λv15=>
 HLd v15 w_2 λv16=>
 zh v16 λv17=>
 zd .neq v12 v17 λv18=>
 HIf v18
 (R (.bool false) w_2)
 (zg v1 λv23=>
 zc 2 v23 λv24=>
 HLd v24 w_2 λv25=>
 za Tryz.prog 102 [v0] w_2 λv21 w_3=>
 HLd v24 w_3 λv25_1=>
 v25_1=v25 ∧
 HEq .bool true v21 v25 λv26=>
 HIf v26
 (R (.bool false) w_3)
 (zg v1 λv32=>
 zc 3 v32 λv33=>
 HLd v33 w_3 λv34=>
 za Tryz.prog 125 [v0] w_3 λv30 w_4=>
 HLd v33 w_4 λv34_1=>
 v34_1=v34 ∧
 zd .neq v30 v34 λv35=>
 HIf v35
 (R (.bool false) w_4)
 (∃(I:List Value→World→Prop) (μ:List Value→World→Nat),I [(.int .i64 0)] w_4 ∧
 ∀(v6:Value) w_5,I [v6] w_5 →
 zh v10 λv39=>
 zd .lss v6 v39 λv40=>
 HIf v40
 (zk 1 v10 v6 λv47=>
 HLd v47 w_5 λv48=>
 za Tryz.prog 126 [v0,v48] w_5 λv49 w_6=>
 zm 0 v49 λv50=>
 zm 1 v49 λv51=>
 zl w_6 λw_7=>
 zw v51 λv53=>
 HIf v53
 (R (.bool false) w_7)
 (zk 1 v10 v6 λv57=>
 HLd v57 w_7 λv58=>
 zg v1 λv60=>
 zc 0 v60 λv61=>
 HLd v61 w_7 λv62=>
 zk 3 v62 v6 λv64=>
 zc 0 v64 λv65=>
 HLd v65 w_7 λv66=>
 zd .neq v58 v66 λv67=>
 HIf v67
 (R (.bool false) w_7)
 (zg v1 λv72=>
 zc 0 v72 λv73=>
 HLd v73 w_7 λv74=>
 zk 3 v74 v6 λv76=>
 zc 2 v76 λv77=>
 HLd v77 w_7 λv78=>
 za Tryz.prog 127 [v50,v78] w_7 λv79 w_8=>
 zw v79 λv80=>
 HIf v80
 (R (.bool false) w_8)
 (zk 1 v10 v6 λv86=>
 HLd v86 w_8 λv87=>
 zg v1 λv90=>
 zc 0 v90 λv91=>
 HLd v91 w_8 λv92=>
 zk 3 v92 v6 λv94=>
 zc 1 v94 λv95=>
 HLd v95 w_8 λv96=>
 za Tryz.prog 128 [v0,v87] w_8 λv88 w_9=>
 HLd v91 w_9 λv92_1=>
 v92_1=v92 ∧
 HLd v95 w_9 λv96_1=>
 v96_1=v96 ∧
 zd .neq v88 v96 λv97=>
 HIf v97
 (R (.bool false) w_9)
 (zd .add v6 (.int .i64 1) λv42=>
 I [v42] w_9∧μ [v42] w_9<μ [v6] w_5)))))
 (R (.bool true) w_5))))
theorem vc48(v0 v1:Value)(w:World)(R:Value→World→Prop)(h:Vc48 v0 v1 w R):za Tryz.prog 48 [v0,v1] w R:=
 VJ [(5,[6],[0,1,5])] [] Tryz.func48 (by kernel_rfl) (by kernel_rfl) (by kernel_rfl) h
def Vc75(v0 v1 v2:Value)(w:World)(R:Value→World→Prop):Prop:=
 ∃(I:List Value→World→Prop) (μ:List Value→World→Nat),I [v0,(.slice none 0 0),(.int .i64 0)] w ∧
 ∀(v0_1:Value) (v7 v8:Value) w_1,I [v0_1,v7,v8] w_1 →
 zh v1 λv18=>
 zd .lss v8 v18 λv19=>
 HIf v19
 (zd .lss v8 (.int .i64 3) λv22=>
 HIf v22
 (za Tryz.prog 160 [v0_1] w_1 λv27 w_2=>
 ∃I_1:List Value→World→Prop,(zk 7 v1 v8 λv30=>
 zc 0 v30 λv31=>
 HLd v31 w_2 λv32=>
 za Tryz.prog 29 [v32,(.int .i64 2)] w_2 λv33 w_3=>
 zd .eql v33 (.int .i64 0) λv34=>
 HIf v34
 (I_1 [(.bool true)] w_3)
 (zh v27 λv37=>
 zd .eql v37 (.int .i64 0) λv38=>
 I_1 [v38] w_3)) ∧
 ∀(v39:Value) w_4,I_1 [v39] w_4 →
 HIf v39
 (zl w_4 λw_5=>
 zk 7 v1 v8 λv44=>
 zc 2 v44 λv45=>
 HLd v45 w_5 λv46=>
 zk 7 v1 v8 λv50=>
 zc 3 v50 λv51=>
 HLd v51 w_5 λv52=>
 za Tryz.prog 29 [v46,(.int .i64 2)] w_5 λv47 w_6=>
 HLd v51 w_6 λv52_1=>
 v52_1=v52 ∧
 za Tryz.prog 29 [v52,(.int .i64 8)] w_6 λv53 w_7=>
 zd .add (.int .i64 1) v53 λv54=>
 za Tryz.prog 161 [v0_1,v47,v54,v2] w_7 λv56 w_8=>
 zm 0 v56 λv57=>
 zm 1 v56 λv58=>
 HIf v58
 (zl w_8 λw_9=>
 zh v57 λv63=>
 zh v57 λv66=>
 zd .sub v66 (.int .i64 1) λv67=>
 zk 7 v57 v67 λv68=>
 zc 1 v68 λv69=>
 HLd v69 w_9 λv70=>
 zh v57 λv73=>
 zd .sub v73 (.int .i64 1) λv74=>
 zk 7 v57 v74 λv75=>
 zc 2 v75 λv76=>
 HLd v76 w_9 λv77=>
 zt [.int .i64 0,.int .i64 0,.int .i64 0,.int .i64 0,.int .i64 0,.int .i64 0,.bool false] [(0,1,(.int .i64 1)),(1,1,v63),(2,1,v70),(3,1,v77),(4,1,v2)] λv79=>
 zo (zrow [.int .i64 0,.int .i64 0,.int .i64 0,.int .i64 0,.int .i64 0,.int .i64 0,.bool false] 1) [(0,7,v79)] 98 1 w_9 λv80 w_10=>
 zr 7 56 [.int .i64 0,.int .i64 0,.int .i64 0,.int .i64 0,.int .i64 0,.int .i64 0,.bool false] 98 v7 v80 w_10 λv81 w_11=>
 zd .add v8 (.int .i64 1) λv25=>
 I [v57,v81,v25] w_11∧μ [v57,v81,v25] w_11<μ [v0_1,v7,v8] w_1)
 (zd .add v8 (.int .i64 1) λv25_1=>
 I [v0_1,v7,v25_1] w_8∧μ [v0_1,v7,v25_1] w_8<μ [v0_1,v7,v8] w_1))
 (zk 7 v1 v8 λv85=>
 zc 1 v85 λv86=>
 HLd v86 w_4 λv87=>
 zh v27 λv89=>
 za Tryz.prog 29 [v87,v89] w_4 λv90 w_12=>
 zk 7 v27 v90 λv91=>
 zj 7 v91 w_12 λv92=>
 zn [.int .i64 0,.int .i64 0,.int .i64 0,.int .i64 0,.int .i64 0,.int .i64 0,.bool false] 89 w_12 λv12 w_13=>
 zp 7 v12 v92 w_13 λw_14=>
 ∃I_2:List Value→World→Prop,(zl w_14 λw_15=>
 zc 0 v12 λv93=>
 HLd v93 w_15 λv94=>
 zc 4 v12 λv95=>
 HLd v95 w_15 λv96=>
 zk 7 v1 v8 λv99=>
 zc 5 v99 λv100=>
 HLd v100 w_15 λv101=>
 zk 7 v1 v8 λv106=>
 zc 6 v106 λv107=>
 HLd v107 w_15 λv108=>
 (za Tryz.prog 64 [v101,(.int .i64 4)] w_15 λv102 w_16=>
 HLd v93 w_16 λv94_1=>
 v94_1=v94 ∧
 HLd v95 w_16 λv96_1=>
 v96_1=v96 ∧
 HLd v107 w_16 λv108_1=>
 v108_1=v108 ∧
 zd .add v96 v102 λv103=>
 zt [.int .i64 0,.int .i64 0,.int .i64 0,.int .i64 0,.int .i64 0,.int .i64 0,.bool false] [(0,1,(.int .i64 2)),(1,1,v94),(5,1,v103),(6,1,v108)] λv109=>
 zn [.int .i64 0,.int .i64 0,.int .i64 0,.int .i64 0,.int .i64 0,.int .i64 0,.bool false] 98 w_16 λv13 w_17=>
 HLd v93 w_17 λv94_2=>
 v94_2=v94 ∧
 HLd v95 w_17 λv96_2=>
 v96_2=v96 ∧
 HLd v107 w_17 λv108_2=>
 v108_2=v108 ∧
 zp 7 v13 v109 w_17 λw_18=>
 I_2 [v13] w_18) ∧
 (zn [.int .i64 0,.int .i64 0,.int .i64 0,.int .i64 0,.int .i64 0,.int .i64 0,.bool false] 98 w_15 λv13_1 w_19=>
 HLd v93 w_19 λv94_3=>
 v94_3=v94 ∧
 HLd v95 w_19 λv96_3=>
 v96_3=v96 ∧
 HLd v100 w_19 λv101_1=>
 v101_1=v101 ∧
 HLd v107 w_19 λv108_3=>
 v108_3=v108 ∧
 za Tryz.prog 64 [v101,(.int .i64 4)] w_19 λv102_1 w_20=>
 HLd v93 w_20 λv94_4=>
 v94_4=v94 ∧
 HLd v95 w_20 λv96_4=>
 v96_4=v96 ∧
 HLd v107 w_20 λv108_4=>
 v108_4=v108 ∧
 zd .add v96 v102_1 λv103_1=>
 zt [.int .i64 0,.int .i64 0,.int .i64 0,.int .i64 0,.int .i64 0,.int .i64 0,.bool false] [(0,1,(.int .i64 2)),(1,1,v94),(5,1,v103_1),(6,1,v108)] λv109_1=>
 zp 7 v13_1 v109_1 w_20 λw_21=>
 I_2 [v13_1] w_21)) ∧
 ∀(v13_2:Value) w_22,I_2 [v13_2] w_22 →
 zc 1 v13_2 λv112=>
 HLd v112 w_22 λv113=>
 zc 5 v13_2 λv114=>
 HLd v114 w_22 λv115=>
 zc 6 v13_2 λv116=>
 HLd v116 w_22 λv117=>
 za Tryz.prog 162 [v0_1,v113,v115,v117] w_22 λv118 w_23=>
 zm 0 v118 λv119=>
 zm 1 v118 λv120=>
 HIf v120
 (zj 7 v13_2 w_23 λv124=>
 zo (zrow [.int .i64 0,.int .i64 0,.int .i64 0,.int .i64 0,.int .i64 0,.int .i64 0,.bool false] 1) [(0,7,v124)] 98 1 w_23 λv125 w_24=>
 zr 7 56 [.int .i64 0,.int .i64 0,.int .i64 0,.int .i64 0,.int .i64 0,.int .i64 0,.bool false] 98 v7 v125 w_24 λv126 w_25=>
 zd .add v8 (.int .i64 1) λv25_2=>
 I [v119,v126,v25_2] w_25∧μ [v119,v126,v25_2] w_25<μ [v0_1,v7,v8] w_1)
 (zd .add v8 (.int .i64 1) λv25_3=>
 I [v0_1,v7,v25_3] w_23∧μ [v0_1,v7,v25_3] w_23<μ [v0_1,v7,v8] w_1)))
 (R v7 w_1))
 (R v7 w_1)
theorem vc75(v0 v1 v2:Value)(w:World)(R:Value→World→Prop)(h:Vc75 v0 v1 v2 w R):za Tryz.prog 75 [v0,v1,v2] w R:=
 VJ [(3,[0,7,8],[1,2])] [(7,[39],[0,1,2,7,8,9]),(13,[13],[0,1,2,7,8])] Tryz.func75 (by kernel_rfl) (by kernel_rfl) (by kernel_rfl) h
end Go.Proofs.YtnmhmnnadkclbaaGreat
