/- Part of the proof (my own). -/
import Derived.Test.YtnmhmnnadkclbaaGreatQTab
namespace Go.Proofs.YtnmhmnnadkclbaaGreat
set_option linter.unusedVariables false
set_option maxRecDepth 100000
open Go.RowKit
def Vc295(v0:Value)(w:World)(R:Value→World→Prop):Prop:=
 zh v0 λv7=>
 ∃(I:List Value→World→Prop) (μ:List Value→World→Nat),I [(.int .u32 0),(.int .i64 0)] w ∧
 ∀(v3 v8:Value) w_1,I [v3,v8] w_1 →
 zd .lss v8 v7 λv9=>
 HIf v9
 (zk 1 v0 v8 λv10=>
 HLd v10 w_1 λv11=>
 za Tryz.prog 301 [v3,v11] w_1 λv14 w_2=>
 zd .add v8 (.int .i64 1) λv15=>
 I [v14,v15] w_2∧μ [v14,v15] w_2<μ [v3,v8] w_1)
 (R v3 w_1)
theorem vc295(v0:Value)(w:World)(R:Value→World→Prop)(h:Vc295 v0 w R):za Tryz.prog 295 [v0] w R:=
 VJ [(3,[3,8],[6,7])] [] Tryz.func295 (by kernel_rfl) (by kernel_rfl) (by kernel_rfl) h
def Vc301(v0 v1:Value)(w:World)(R:Value→World→Prop):Prop:=
 Y1 v0 λv9=>
 zh v1 λv11=>
 ∃(I:List Value→World→Prop) (μ:List Value→World→Nat),I [v9,(.int .i64 0)] w ∧
 ∀(v5 v12:Value) w_1,I [v5,v12] w_1 →
 zd .lss v12 v11 λv13=>
 HIf v13
 (zk 1 v1 v12 λv14=>
 HLd v14 w_1 λv15=>
 za Tryz.prog 303 [v5,v15] w_1 λv18 w_2=>
 zd .add v12 (.int .i64 1) λv19=>
 I [v18,v19] w_2∧μ [v18,v19] w_2<μ [v5,v12] w_1)
 (Y1 v5 λv21=>
 R v21 w_1)
theorem vc301(v0 v1:Value)(w:World)(R:Value→World→Prop)(h:Vc301 v0 v1 w R):za Tryz.prog 301 [v0,v1] w R:=
 VJ [(3,[5,12],[10,11])] [] Tryz.func301 (by kernel_rfl) (by kernel_rfl) (by kernel_rfl) h
def Vc303(v0 v1:Value)(w:World)(R:Value→World→Prop):Prop:=
 zO .u32 v1 λv8=>
 zd .xor v0 v8 λv9=>
 ∃(I:List Value→World→Prop) (μ:List Value→World→Nat),I [v9,(.int .i64 0)] w ∧
 ∀(v0_1:Value) (v10:Value) w_1,I [v0_1,v10] w_1 →
 zd .lss v10 (.int .i64 8) λv11=>
 HIf v11
 (zd .and v0_1 (.int .u32 1) λv13=>
 zd .eql v13 (.int .u32 1) λv14=>
 zd .shr v0_1 (.int .u64 1) λv16=>
 HIf v14
 (zd .xor v16 (.int .u32 3988292384) λv19=>
 zd .add v10 (.int .i64 1) λv20=>
 I [v19,v20] w_1∧μ [v19,v20] w_1<μ [v0_1,v10] w_1)
 (zd .add v10 (.int .i64 1) λv20_1=>
 I [v16,v20_1] w_1∧μ [v16,v20_1] w_1<μ [v0_1,v10] w_1))
 (R v0_1 w_1)
theorem vc303(v0 v1:Value)(w:World)(R:Value→World→Prop)(h:Vc303 v0 v1 w R):za Tryz.prog 303 [v0,v1] w R:=
 VJ [(3,[0,10],[])] [] Tryz.func303 (by kernel_rfl) (by kernel_rfl) (by kernel_rfl) h
def Vc243(v0:Value)(w:World)(R:Value→World→Prop):Prop:=
 ∃(I:List Value→World→Prop) (μ:List Value→World→Nat),I [(.slice none 0 0),(.int .i64 0)] w ∧
 ∀(v4 v5:Value) w_1,I [v4,v5] w_1 →
 HSl 1 v0 (some v5) none none λv12=>
 za Tryz.prog 270 [v12] w_1 λv13 w_2=>
 zm 0 v13 λv14=>
 zm 1 v13 λv15=>
 zm 2 v13 λv16=>
 zd .neq v16 (.int .i64 0) λv18=>
 HIf v18
 (R (.tuple #[v4,v5]) w_2)
 (zo (zrow [.slice none 0 0] 1) [(0,1,v14)] 54 1 w_2 λv23 w_3=>
 zr 1 24 [.slice none 0 0] 54 v4 v23 w_3 λv24 w_4=>
 zd .add v5 v15 λv27=>
 I [v24,v27] w_4∧μ [v24,v27] w_4<μ [v4,v5] w_1)
theorem vc243(v0:Value)(w:World)(R:Value→World→Prop)(h:Vc243 v0 w R):za Tryz.prog 243 [v0] w R:=
 VJ [(3,[4,5],[0])] [] Tryz.func243 (by kernel_rfl) (by kernel_rfl) (by kernel_rfl) h
def Vc252(v0:Value)(w:World)(R:Value→World→Prop):Prop:=
 zh v0 λv6=>
 zd .gtr v6 (.int .i64 1048576) λv7=>
 HIf v7
 (R (.tuple #[(.slice none 0 0),(.int .i64 1)]) w)
 (za Tryz.prog 274 [v0] w λv9 w_1=>
 zn [.slice none 0 0,.slice none 0 0] 363 w_1 λv4 w_2=>
 zp 2 v4 v9 w_2 λw_3=>
 zl w_3 λw_4=>
 zc 0 v4 λv10=>
 zj 1 v10 w_4 λv11=>
 zc 1 v4 λv13=>
 HLd v13 w_4 λv14=>
 zc 0 v4 λv15=>
 zc 0 v15 λv16=>
 HLd v16 w_4 λv17=>
 za Tryz.prog 275 [v11] w_4 λv12 w_5=>
 HLd v13 w_5 λv14_1=>
 v14_1=v14 ∧
 HLd v16 w_5 λv17_1=>
 v17_1=v17 ∧
 zo (zrow [.slice none 0 0] 3) [(0,1,v12),(1,1,v14),(2,1,v17)] 54 3 w_5 λv18 w_6=>
 za Tryz.prog 254 [v18] w_6 λv19 w_7=>
 R (.tuple #[v19,(.int .i64 0)]) w_7)
theorem vc252(v0:Value)(w:World)(R:Value→World→Prop)(h:Vc252 v0 w R):za Tryz.prog 252 [v0] w R:=
 VV Tryz.func252 (by kernel_rfl) (by kernel_rfl) (by kernel_rfl) h
def Vc270(v0:Value)(w:World)(R:Value→World→Prop):Prop:=
 zh v0 λv8=>
 zd .lss v8 (.int .i64 8) λv9=>
 HIf v9
 (R (.tuple #[(.slice none 0 0),(.int .i64 0),(.int .i64 2)]) w)
 (zl w λw_1=>
 zk 1 v0 (.int .i64 0) λv11=>
 HLd v11 w_1 λv12=>
 zO .i64 v12 λv13=>
 zd .shl v13 (.int .u64 24) λv14=>
 zk 1 v0 (.int .i64 1) λv16=>
 HLd v16 w_1 λv17=>
 zO .i64 v17 λv18=>
 zd .shl v18 (.int .u64 16) λv19=>
 zd .or v14 v19 λv20=>
 zk 1 v0 (.int .i64 2) λv22=>
 HLd v22 w_1 λv23=>
 zO .i64 v23 λv24=>
 zd .shl v24 (.int .u64 8) λv25=>
 zd .or v20 v25 λv26=>
 zk 1 v0 (.int .i64 3) λv28=>
 HLd v28 w_1 λv29=>
 zO .i64 v29 λv30=>
 zd .or v26 v30 λv31=>
 zd .gtr v31 (.int .i64 1048576) λv34=>
 HIf v34
 (R (.tuple #[(.slice none 0 0),(.int .i64 0),(.int .i64 3)]) w_1)
 (zh v0 λv37=>
 zd .add (.int .i64 8) v31 λv39=>
 zd .lss v37 v39 λv40=>
 HIf v40
 (R (.tuple #[(.slice none 0 0),(.int .i64 0),(.int .i64 2)]) w_1)
 (zd .add (.int .i64 8) v31 λv43=>
 HSl 1 v0 (some (.int .i64 8)) (some v43) none λv44=>
 za Tryz.prog 274 [v44] w_1 λv45 w_2=>
 zn [.slice none 0 0,.slice none 0 0] 363 w_2 λv6 w_3=>
 zp 2 v6 v45 w_3 λw_4=>
 zl w_4 λw_5=>
 zc 1 v6 λv46=>
 HLd v46 w_5 λv47=>
 HSl 1 v0 (some (.int .i64 4)) (some (.int .i64 8)) none λv49=>
 za Tryz.prog 292 [v47,v49] w_5 λv50 w_6=>
 zw v50 λv51=>
 HIf v51
 (R (.tuple #[(.slice none 0 0),(.int .i64 0),(.int .i64 4)]) w_6)
 (zc 0 v6 λv52=>
 zc 0 v52 λv53=>
 HLd v53 w_6 λv54=>
 za Tryz.prog 185 [v54] w_6 λv55 w_7=>
 zd .add (.int .i64 8) v31 λv57=>
 R (.tuple #[v55,v57,(.int .i64 0)]) w_7))))
theorem vc270(v0:Value)(w:World)(R:Value→World→Prop)(h:Vc270 v0 w R):za Tryz.prog 270 [v0] w R:=
 VV Tryz.func270 (by kernel_rfl) (by kernel_rfl) (by kernel_rfl) h
def Vc274(v0:Value)(w:World)(R:Value→World→Prop):Prop:=
 zn [.slice none 0 0,.slice none 0 0] 363 w λv2 w_1=>
 zt [.slice none 0 0] [(0,1,v0)] λv5=>
 zn [.slice none 0 0] 361 w_1 λv3 w_2=>
 zp 1 v3 v5 w_2 λw_3=>
 zl w_3 λw_4=>
 zj 1 v3 w_4 λv6=>
 zj 1 v3 w_4 λv7=>
 za Tryz.prog 275 [v7] w_4 λv8 w_5=>
 zj 1 v3 w_5 λv6_1=>
 v6_1=v6 ∧
 zo (zrow [.slice none 0 0] 2) [(0,1,v8),(1,1,v0)] 54 2 w_5 λv10 w_6=>
 zj 1 v3 w_6 λv6_2=>
 v6_2=v6 ∧
 za Tryz.prog 295 [v10] w_6 λv11 w_7=>
 zj 1 v3 w_7 λv6_3=>
 v6_3=v6 ∧
 za Tryz.prog 294 [v11] w_7 λv12 w_8=>
 zj 1 v3 w_8 λv6_4=>
 v6_4=v6 ∧
 zt [.slice none 0 0,.slice none 0 0] [(0,1,v6),(1,1,v12)] λv13=>
 zp 2 v2 v13 w_8 λw_9=>
 zj 2 v2 w_9 λr=>
 R r w_9
theorem vc274(v0:Value)(w:World)(R:Value→World→Prop)(h:Vc274 v0 w R):za Tryz.prog 274 [v0] w R:=
 VV Tryz.func274 (by kernel_rfl) (by kernel_rfl) (by kernel_rfl) h
def Vc275(v0:Value)(w:World)(R:Value→World→Prop):Prop:=
 ∃cs:List Value,v0= .agg cs.toArray∧zn cs 361 w λv1 w_1=>
 zc 0 v1 λv3=>
 HLd v3 w_1 λv4=>
 zh v4 λv5=>
 zO .u32 v5 λv6=>
 za Tryz.prog 294 [v6] w_1 λv7 w_2=>
 R v7 w_2
theorem vc275(v0:Value)(w:World)(R:Value→World→Prop)(h:Vc275 v0 w R):za Tryz.prog 275 [v0] w R:=
 VV Tryz.func275 (by kernel_rfl) (by kernel_rfl) (by kernel_rfl) h
def Vc294(v0:Value)(w:World)(R:Value→World→Prop):Prop:=
 zd .shr v0 (.int .u64 24) λv4=>
 zO .u8 v4 λv5=>
 zd .shr v0 (.int .u64 16) λv7=>
 zO .u8 v7 λv8=>
 zd .shr v0 (.int .u64 8) λv10=>
 zO .u8 v10 λv11=>
 zO .u8 v0 λv13=>
 zo (zrow [.int .u8 0] 4) [(0,1,v5),(1,1,v8),(2,1,v11),(3,1,v13)] 5 4 w λv14 w_1=>
 R v14 w_1
theorem vc294(v0:Value)(w:World)(R:Value→World→Prop)(h:Vc294 v0 w R):za Tryz.prog 294 [v0] w R:=
 VV Tryz.func294 (by kernel_rfl) (by kernel_rfl) (by kernel_rfl) h
def Vc183(v0:Value)(w:World)(R:Value→World→Prop):Prop:=
 zh v0 λv8=>
 zd .gtr v8 (.int .i64 32767) λv9=>
 HIf v9
 (R (.tuple #[(.slice none 0 0),(.int .i64 1)]) w)
 (zh v0 λv11=>
 zO .u64 v11 λv12=>
 za Tryz.prog 226 [(.slice none 0 0),v12,(.int .i64 2)] w λv13 w_1=>
 zh v0 λv15=>
 ∃(I:List Value→World→Prop) (μ:List Value→World→Nat),I [v13,(.int .i64 0)] w_1 ∧
 ∀(v4 v16:Value) w_2,I [v4,v16] w_2 →
 zd .lss v16 v15 λv17=>
 HIf v17
 (zk 3 v0 v16 λv18=>
 zj 3 v18 w_2 λv19=>
 zn [.int .i64 0,.int .i64 0,.string ⟨#[]⟩] 165 w_2 λv6 w_3=>
 zp 3 v6 v19 w_3 λw_4=>
 zj 3 v6 w_4 λv20=>
 za Tryz.prog 227 [v20] w_4 λv21 w_5=>
 zw v21 λv22=>
 HIf v22
 (R (.tuple #[(.slice none 0 0),(.int .i64 1)]) w_5)
 (zc 0 v6 λv24=>
 HLd v24 w_5 λv25=>
 zO .u8 v25 λv26=>
 zo (zrow [.int .u8 0] 1) [(0,1,v26)] 5 1 w_5 λv27 w_6=>
 zr 1 1 [.int .u8 0] 5 v4 v27 w_6 λv28 w_7=>
 zc 0 v6 λv29=>
 HLd v29 w_7 λv30=>
 zd .eql v30 (.int .i64 1) λv31=>
 HIf v31
 (zc 1 v6 λv33=>
 HLd v33 w_7 λv34=>
 zO .u64 v34 λv35=>
 za Tryz.prog 226 [v28,v35,(.int .i64 8)] w_7 λv36 w_8=>
 zd .add v16 (.int .i64 1) λv46=>
 I [v36,v46] w_8∧μ [v36,v46] w_8<μ [v4,v16] w_2)
 (zl w_7 λw_9=>
 zc 2 v6 λv38=>
 HLd v38 w_9 λv39=>
 yM v39 λv40=>
 zO .u64 v40 λv41=>
 zc 2 v6 λv43=>
 HLd v43 w_9 λv44=>
 za Tryz.prog 226 [v28,v41,(.int .i64 2)] w_9 λv42 w_10=>
 HLd v43 w_10 λv44_1=>
 v44_1=v44 ∧
 zr 1 1 [.int .u8 0] 5 v42 v44 w_10 λv45 w_11=>
 zd .add v16 (.int .i64 1) λv46_1=>
 I [v45,v46_1] w_11∧μ [v45,v46_1] w_11<μ [v4,v16] w_2)))
 (R (.tuple #[v4,(.int .i64 0)]) w_2))
theorem vc183(v0:Value)(w:World)(R:Value→World→Prop)(h:Vc183 v0 w R):za Tryz.prog 183 [v0] w R:=
 VJ [(5,[4,16],[14,15])] [] Tryz.func183 (by kernel_rfl) (by kernel_rfl) (by kernel_rfl) h
def Vc215(v0:Value)(w:World)(R:Value→World→Prop):Prop:=
 zt [.slice none 0 0,.int .i64 0] [(0,1,v0)] λv8=>
 ∃cs:List Value,v8= .agg cs.toArray∧zn cs 338 w λv9 w_1=>
 ∃I:List Value→World→Prop,(za Tryz.prog 245 [v9,(.int .i64 32767)] w_1 λv11 w_2=>
 ∃(I_1:List Value→World→Prop) (μ:List Value→World→Nat),I_1 [(.slice none 0 0),v11] w_2 ∧
 ∀(v5 v6:Value) w_3,I_1 [v5,v6] w_3 →
 zd .gtr v6 (.int .i64 0) λv13=>
 HIf v13
 (zg v9 λv16=>
 zc 1 v16 λv17=>
 HLd v17 w_3 λv18=>
 zd .eql v18 (.int .i64 0) λv19=>
 HIf v19
 (za Tryz.prog 246 [v9] w_3 λv25 w_4=>
 zo (zrow [.int .i64 0,.int .i64 0,.string ⟨#[]⟩] 1) [(0,3,v25)] 165 1 w_4 λv26 w_5=>
 zr 3 32 [.int .i64 0,.int .i64 0,.string ⟨#[]⟩] 165 v5 v26 w_5 λv27 w_6=>
 zd .sub v6 (.int .i64 1) λv22=>
 I_1 [v27,v22] w_6∧μ [v27,v22] w_6<μ [v5,v6] w_3)
 (I [v5] w_3))
 (I [v5] w_3)) ∧
 ∀(v5_1:Value) w_7,I [v5_1] w_7 →
 ∃I_2:List Value→World→Prop,(zg v9 λv29=>
 zc 1 v29 λv30=>
 HLd v30 w_7 λv31=>
 zd .eql v31 (.int .i64 0) λv32=>
 HIf v32
 (zg v9 λv35=>
 zc 0 v35 λv36=>
 HLd v36 w_7 λv37=>
 zh v37 λv38=>
 zd .gtr v38 (.int .i64 0) λv39=>
 HIf v39
 (zg v9 λv42=>
 zc 1 v42 λv43=>
 HSt v43 (.int .i64 3) w_7 λw_8=>
 I_2 [] w_8)
 (I_2 [] w_7))
 (I_2 [] w_7)) ∧
 ∀w_9,I_2 [] w_9 →
 zg v9 λv45=>
 zc 1 v45 λv46=>
 HLd v46 w_9 λv47=>
 zd .neq v47 (.int .i64 0) λv48=>
 HIf v48
 (zl w_9 λw_10=>
 zg v9 λv50=>
 zc 1 v50 λv51=>
 HLd v51 w_10 λv52=>
 HLd v51 w_10 λv52_1=>
 v52_1=v52 ∧
 R (.tuple #[(.slice none 0 0),v52]) w_10)
 (R (.tuple #[v5_1,(.int .i64 0)]) w_9)
theorem vc215(v0:Value)(w:World)(R:Value→World→Prop)(h:Vc215 v0 w R):za Tryz.prog 215 [v0] w R:=
 VJ [(4,[5,6],[4])] [(7,[5],[4]),(9,[],[4,5])] Tryz.func215 (by kernel_rfl) (by kernel_rfl) (by kernel_rfl) h
def Vc226(v0 v1 v2:Value)(w:World)(R:Value→World→Prop):Prop:=
 zd .sub v2 (.int .i64 1) λv9=>
 ∃(I:List Value→World→Prop) (μ:List Value→World→Nat),I [v0,v9] w ∧
 ∀(v0_1:Value) (v7:Value) w_1,I [v0_1,v7] w_1 →
 zd .geq v7 (.int .i64 0) λv11=>
 HIf v11
 (zd .mul (.int .i64 8) v7 λv17=>
 zd .shr v1 v17 λv18=>
 zO .u8 v18 λv19=>
 zo (zrow [.int .u8 0] 1) [(0,1,v19)] 5 1 w_1 λv20 w_2=>
 zr 1 1 [.int .u8 0] 5 v0_1 v20 w_2 λv21 w_3=>
 zd .sub v7 (.int .i64 1) λv13=>
 I [v21,v13] w_3∧μ [v21,v13] w_3<μ [v0_1,v7] w_1)
 (R v0_1 w_1)
theorem vc226(v0 v1 v2:Value)(w:World)(R:Value→World→Prop)(h:Vc226 v0 v1 v2 w R):za Tryz.prog 226 [v0,v1,v2] w R:=
 VJ [(2,[0,7],[1])] [] Tryz.func226 (by kernel_rfl) (by kernel_rfl) (by kernel_rfl) h
def Vc227(v0:Value)(w:World)(R:Value→World→Prop):Prop:=
 ∃cs:List Value,v0= .agg cs.toArray∧zn cs 165 w λv1 w_1=>
 zc 0 v1 λv3=>
 HLd v3 w_1 λv4=>
 zd .eql v4 (.int .i64 1) λv6=>
 HIf v6
 (zc 2 v1 λv7=>
 HLd v7 w_1 λv8=>
 zd .eql v8 (.string {data:=#[]}) λv9=>
 R v9 w_1)
 (zd .eql v4 (.int .i64 2) λv11=>
 HIf v11
 (zc 1 v1 λv12=>
 HLd v12 w_1 λv13=>
 zd .eql v13 (.int .i64 0) λv14=>
 HIf v14
 (zc 2 v1 λv16=>
 HLd v16 w_1 λv17=>
 yM v17 λv18=>
 zd .leq v18 (.int .i64 4096) λv19=>
 R v19 w_1)
 (R (.bool false) w_1))
 (R (.bool false) w_1))
theorem vc227(v0:Value)(w:World)(R:Value→World→Prop)(h:Vc227 v0 w R):za Tryz.prog 227 [v0] w R:=
 VV Tryz.func227 (by kernel_rfl) (by kernel_rfl) (by kernel_rfl) h
def Vc245(v0 v1:Value)(w:World)(R:Value→World→Prop):Prop:=
 za Tryz.prog 271 [v0,(.int .i64 2)] w λv7 w_1=>
 zO .i64 v7 λv8=>
 zd .gtr v8 v1 λv11=>
 HIf v11
 (zg v0 λv13=>
 zc 1 v13 λv14=>
 HSt v14 (.int .i64 3) w_1 λw_2=>
 R (.int .i64 0) w_2)
 (R v8 w_1)
theorem vc245(v0 v1:Value)(w:World)(R:Value→World→Prop)(h:Vc245 v0 v1 w R):za Tryz.prog 245 [v0,v1] w R:=
 VV Tryz.func245 (by kernel_rfl) (by kernel_rfl) (by kernel_rfl) h
def Vc246(v0:Value)(w:World)(R:Value→World→Prop):Prop:=
 zn [.int .i64 0,.int .i64 0,.string ⟨#[]⟩] 165 w λv2 w_1=>
 za Tryz.prog 271 [v0,(.int .i64 1)] w_1 λv5 w_2=>
 zO .i64 v5 λv6=>
 zd .eql v6 (.int .i64 1) λv9=>
 HIf v9
 (za Tryz.prog 271 [v0,(.int .i64 8)] w_2 λv12 w_3=>
 zO .i64 v12 λv13=>
 zt [.int .i64 0,.int .i64 0,.string ⟨#[]⟩] [(0,1,v6),(1,1,v13)] λv14=>
 zp 3 v2 v14 w_3 λw_4=>
 zj 3 v2 w_4 λr=>
 R r w_4)
 (zd .eql v6 (.int .i64 2) λv16=>
 HIf v16
 (za Tryz.prog 245 [v0,(.int .i64 4096)] w_2 λv20 w_5=>
 za Tryz.prog 272 [v0,v20] w_5 λv21 w_6=>
 HRq Tryz.prog (convert 54 9 v21) w_6 λv22=>
 zt [.int .i64 0,.int .i64 0,.string ⟨#[]⟩] [(0,1,v6),(2,1,v22)] λv23=>
 zp 3 v2 v23 w_6 λw_7=>
 zj 3 v2 w_7 λr_1=>
 R r_1 w_7)
 (zg v0 λv25=>
 zc 1 v25 λv26=>
 HLd v26 w_2 λv27=>
 zd .eql v27 (.int .i64 0) λv28=>
 HIf v28
 (zg v0 λv30=>
 zc 1 v30 λv31=>
 HSt v31 (.int .i64 3) w_2 λw_8=>
 zt [.int .i64 0,.int .i64 0,.string ⟨#[]⟩] [] λv32=>
 zp 3 v2 v32 w_8 λw_9=>
 zj 3 v2 w_9 λr_2=>
 R r_2 w_9)
 (zt [.int .i64 0,.int .i64 0,.string ⟨#[]⟩] [] λv32_1=>
 zp 3 v2 v32_1 w_2 λw_10=>
 zj 3 v2 w_10 λr_3=>
 R r_3 w_10)))
theorem vc246(v0:Value)(w:World)(R:Value→World→Prop)(h:Vc246 v0 w R):za Tryz.prog 246 [v0] w R:=
 VV Tryz.func246 (by kernel_rfl) (by kernel_rfl) (by kernel_rfl) h
def Vc271(v0 v1:Value)(w:World)(R:Value→World→Prop):Prop:=
 za Tryz.prog 272 [v0,v1] w λv10 w_1=>
 zh v10 λv11=>
 ∃(I:List Value→World→Prop) (μ:List Value→World→Nat),I [(.int .u64 0),(.int .i64 0)] w_1 ∧
 ∀(v5 v12:Value) w_2,I [v5,v12] w_2 →
 zd .lss v12 v11 λv13=>
 HIf v13
 (zk 1 v10 v12 λv14=>
 HLd v14 w_2 λv15=>
 zd .shl v5 (.int .u64 8) λv17=>
 zO .u64 v15 λv19=>
 zd .or v17 v19 λv20=>
 zd .add v12 (.int .i64 1) λv21=>
 I [v20,v21] w_2∧μ [v20,v21] w_2<μ [v5,v12] w_2)
 (R v5 w_2)
theorem vc271(v0 v1:Value)(w:World)(R:Value→World→Prop)(h:Vc271 v0 v1 w R):za Tryz.prog 271 [v0,v1] w R:=
 VJ [(3,[5,12],[10,11])] [] Tryz.func271 (by kernel_rfl) (by kernel_rfl) (by kernel_rfl) h
def Vc272(v0 v1:Value)(w:World)(R:Value→World→Prop):Prop:=
 ∃I:List Value→World→Prop,(zg v0 λv7=>
 zc 1 v7 λv8=>
 HLd v8 w λv9=>
 zd .eql v9 (.int .i64 0) λv10=>
 HIf v10
 (zg v0 λv13=>
 zc 0 v13 λv14=>
 HLd v14 w λv15=>
 zh v15 λv16=>
 zd .lss v16 v1 λv18=>
 HIf v18
 (zg v0 λv21=>
 zc 1 v21 λv22=>
 HSt v22 (.int .i64 2) w λw_1=>
 I [] w_1)
 (I [] w))
 (I [] w)) ∧
 ∀w_2,I [] w_2 →
 zg v0 λv24=>
 zc 1 v24 λv25=>
 HLd v25 w_2 λv26=>
 zd .neq v26 (.int .i64 0) λv27=>
 HIf v27
 (R (.slice none 0 0) w_2)
 (zg v0 λv29=>
 zc 0 v29 λv30=>
 HLd v30 w_2 λv31=>
 HSl 1 v31 none (some v1) none λv33=>
 zg v0 λv36=>
 zc 0 v36 λv37=>
 HLd v37 w_2 λv38=>
 HSl 1 v38 (some v1) none none λv40=>
 zg v0 λv41=>
 zc 0 v41 λv42=>
 HSt v42 v40 w_2 λw_3=>
 R v33 w_3)
theorem vc272(v0 v1:Value)(w:World)(R:Value→World→Prop)(h:Vc272 v0 v1 w R):za Tryz.prog 272 [v0,v1] w R:=
 VJ [] [(3,[],[0,1])] Tryz.func272 (by kernel_rfl) (by kernel_rfl) (by kernel_rfl) h
def Vc211(v0:Value)(w:World)(R:Value→World→Prop):Prop:=
 za Tryz.prog 243 [v0] w λv11 w_1=>
 zm 0 v11 λv12=>
 zm 1 v11 λv13=>
 zt [.slice none 0 0,.int .i64 0] [(0,1,v12),(1,1,v13)] λv16=>
 zt [.slice none 0 0,.int .i64 0,.int .i64 0] [(0,2,v16)] λv17=>
 ∃cs:List Value,v17= .agg cs.toArray∧zn cs 335 w_1 λv18 w_2=>
 za Tryz.prog 244 [v18] w_2 λv20 w_3=>
 zw v20 λv21=>
 HIf v21
 (R (.tuple #[(.int .i64 0),(.slice none 0 0),(.int .i64 0),(.int .i64 3)]) w_3)
 (zl w_3 λw_4=>
 zg v18 λv23=>
 zc 2 v23 λv24=>
 HLd v24 w_4 λv25=>
 zg v18 λv27=>
 zc 0 v27 λv28=>
 zc 0 v28 λv29=>
 HLd v29 w_4 λv30=>
 HSl 1 v30 (some (.int .i64 1)) none none λv31=>
 zg v18 λv33=>
 zc 0 v33 λv34=>
 zc 1 v34 λv35=>
 HLd v35 w_4 λv36=>
 HLd v29 w_4 λv30_1=>
 v30_1=v30 ∧
 HLd v35 w_4 λv36_1=>
 v36_1=v36 ∧
 HLd v35 w_4 λv36_2=>
 v36_2=v36 ∧
 R (.tuple #[v25,v31,v36,(.int .i64 0)]) w_4)
theorem vc211(v0:Value)(w:World)(R:Value→World→Prop)(h:Vc211 v0 w R):za Tryz.prog 211 [v0] w R:=
 VV Tryz.func211 (by kernel_rfl) (by kernel_rfl) (by kernel_rfl) h
def Vc244(v0:Value)(w:World)(R:Value→World→Prop):Prop:=
 zg v0 λv6=>
 zc 0 v6 λv7=>
 zc 0 v7 λv8=>
 HLd v8 w λv9=>
 zh v9 λv10=>
 zd .eql v10 (.int .i64 0) λv11=>
 HIf v11
 (R (.bool false) w)
 (zg v0 λv14=>
 zc 0 v14 λv15=>
 zc 0 v15 λv16=>
 HLd v16 w λv17=>
 zk 1 v17 (.int .i64 0) λv18=>
 HLd v18 w λv19=>
 za Tryz.prog 215 [v19] w λv20 w_1=>
 zm 0 v20 λv21=>
 zm 1 v20 λv22=>
 zd .neq v22 (.int .i64 0) λv24=>
 HIf v24
 (R (.bool false) w_1)
 (zh v21 λv27=>
 zd .neq v27 (.int .i64 1) λv28=>
 HIf v28
 (R (.bool false) w_1)
 (zk 3 v21 (.int .i64 0) λv32=>
 zc 0 v32 λv33=>
 HLd v33 w_1 λv34=>
 zd .neq v34 (.int .i64 1) λv35=>
 HIf v35
 (R (.bool false) w_1)
 (zk 3 v21 (.int .i64 0) λv39=>
 zc 1 v39 λv40=>
 HLd v40 w_1 λv41=>
 zd .lss v41 (.int .i64 1) λv42=>
 HIf v42
 (R (.bool false) w_1)
 (zk 3 v21 (.int .i64 0) λv46=>
 zc 1 v46 λv47=>
 HLd v47 w_1 λv48=>
 zd .gtr v48 (.int .i64 1099511627776) λv49=>
 HIf v49
 (R (.bool false) w_1)
 (zk 3 v21 (.int .i64 0) λv53=>
 zc 1 v53 λv54=>
 HLd v54 w_1 λv55=>
 zg v0 λv56=>
 zc 2 v56 λv57=>
 HSt v57 v55 w_1 λw_2=>
 R (.bool true) w_2))))))
theorem vc244(v0:Value)(w:World)(R:Value→World→Prop)(h:Vc244 v0 w R):za Tryz.prog 244 [v0] w R:=
 VV Tryz.func244 (by kernel_rfl) (by kernel_rfl) (by kernel_rfl) h
def Vc253(v0:Value)(w:World)(R:Value→World→Prop):Prop:=
 zd .lss v0 (.int .i64 1) λv7=>
 HIf v7
 (R (.tuple #[(.slice none 0 0),(.int .i64 1)]) w)
 (zd .gtr v0 (.int .i64 1099511627776) λv10=>
 HIf v10
 (R (.tuple #[(.slice none 0 0),(.int .i64 1)]) w)
 (zt [.int .i64 0,.int .i64 0,.string ⟨#[]⟩] [(0,1,(.int .i64 1)),(1,1,v0)] λv14=>
 zo (zrow [.int .i64 0,.int .i64 0,.string ⟨#[]⟩] 1) [(0,3,v14)] 165 1 w λv15 w_1=>
 za Tryz.prog 183 [v15] w_1 λv16 w_2=>
 zm 0 v16 λv17=>
 zm 1 v16 λv18=>
 zd .neq v18 (.int .i64 0) λv20=>
 HIf v20
 (R (.tuple #[(.slice none 0 0),v18]) w_2)
 (za Tryz.prog 252 [v17] w_2 λv23 w_3=>
 zm 0 v23 λv24=>
 zm 1 v23 λv25=>
 R (.tuple #[v24,v25]) w_3)))
theorem vc253(v0:Value)(w:World)(R:Value→World→Prop)(h:Vc253 v0 w R):za Tryz.prog 253 [v0] w R:=
 VV Tryz.func253 (by kernel_rfl) (by kernel_rfl) (by kernel_rfl) h
def Vc254(v0:Value)(w:World)(R:Value→World→Prop):Prop:=
 zh v0 λv10=>
 ∃(I:List Value→World→Prop) (μ:List Value→World→Nat),I [(.int .i64 0),(.int .i64 0)] w ∧
 ∀(v3 v11:Value) w_1,I [v3,v11] w_1 →
 zd .lss v11 v10 λv12=>
 HIf v12
 (zk 1 v0 v11 λv13=>
 HLd v13 w_1 λv14=>
 zh v14 λv17=>
 zd .add v3 v17 λv18=>
 zd .lss v18 (.int .i64 0) λv20=>
 HIf v20
 (False)
 (zd .add v11 (.int .i64 1) λv22=>
 I [v18,v22] w_1∧μ [v18,v22] w_1<μ [v3,v11] w_1))
 (za Tryz.prog 276 [(.slice none 0 0),v3] w_1 λv24 w_2=>
 zh v0 λv26=>
 ∃(I_1:List Value→World→Prop) (μ_1:List Value→World→Nat),I_1 [v24,(.int .i64 0)] w_2 ∧
 ∀(v6 v27:Value) w_3,I_1 [v6,v27] w_3 →
 zd .lss v27 v26 λv28=>
 HIf v28
 (zk 1 v0 v27 λv29=>
 HLd v29 w_3 λv30=>
 zr 1 1 [.int .u8 0] 5 v6 v30 w_3 λv33 w_4=>
 zd .add v27 (.int .i64 1) λv34=>
 I_1 [v33,v34] w_4∧μ_1 [v33,v34] w_4<μ_1 [v6,v27] w_3)
 (R v6 w_3))
theorem vc254(v0:Value)(w:World)(R:Value→World→Prop)(h:Vc254 v0 w R):za Tryz.prog 254 [v0] w R:=
 VJ [(3,[3,11],[0,9,10]),(11,[6,27],[25,26])] [] Tryz.func254 (by kernel_rfl) (by kernel_rfl) (by kernel_rfl) h
def Vc276(v0 v1:Value)(w:World)(R:Value→World→Prop):Prop:=
 zd .lss v1 (.int .i64 0) λv6=>
 HIf v6
 (False)
 (HRq Tryz.prog (Builtin.cap_ #[54] 3 [v0].toArray) w λv10=>
 zh v0 λv12=>
 zd .sub v10 v12 λv13=>
 zd .sub v1 v13 λv14=>
 zd .gtr v14 (.int .i64 0) λv16=>
 HIf v16
 (HRq Tryz.prog (Builtin.cap_ #[54] 3 [v0].toArray) w λv19=>
 HSl 1 v0 none (some v19) none λv20=>
 yz Tryz.prog (Builtin.append_ #[54,3] 54 #[v20,v14]) w λv22 w_1=>
 zh v0 λv24=>
 HSl 1 v22 none (some v24) none λv25=>
 R v25 w_1)
 (R v0 w))
theorem vc276(v0 v1:Value)(w:World)(R:Value→World→Prop)(h:Vc276 v0 v1 w R):za Tryz.prog 276 [v0,v1] w R:=
 VV Tryz.func276 (by kernel_rfl) (by kernel_rfl) (by kernel_rfl) h
def Vc292(v0 v1:Value)(w:World)(R:Value→World→Prop):Prop:=
 zh v0 λv7=>
 zh v1 λv9=>
 zd .neq v7 v9 λv10=>
 HIf v10
 (R (.bool false) w)
 (zh v0 λv12=>
 ∃(I:List Value→World→Prop) (μ:List Value→World→Nat),I [(.int .i64 0)] w ∧
 ∀(v13:Value) w_1,I [v13] w_1 →
 zd .lss v13 v12 λv14=>
 HIf v14
 (zl w_1 λw_2=>
 zk 1 v0 v13 λv18=>
 HLd v18 w_2 λv19=>
 zk 1 v1 v13 λv22=>
 HLd v22 w_2 λv23=>
 zd .neq v19 v23 λv24=>
 HIf v24
 (R (.bool false) w_2)
 (zd .add v13 (.int .i64 1) λv25=>
 I [v25] w_2∧μ [v25] w_2<μ [v13] w_1))
 (R (.bool true) w_1))
theorem vc292(v0 v1:Value)(w:World)(R:Value→World→Prop)(h:Vc292 v0 v1 w R):za Tryz.prog 292 [v0,v1] w R:=
 VJ [(4,[13],[0,1,12])] [] Tryz.func292 (by kernel_rfl) (by kernel_rfl) (by kernel_rfl) h
end Go.Proofs.YtnmhmnnadkclbaaGreat
