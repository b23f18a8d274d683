/-
  What calls of functions ask, printed by a program of mine (gen.py) out of the functions' code; each is checked by the kernel.
-/
import Derived.Test.YtmcglicbolhmfaaGreatTab
namespace Go.Proofs.YtmcglicbolhmfaaGreat
set_option linter.unusedVariables false
set_option maxRecDepth 100000
open Go.RowKit

-- qanatref01.Encode
def Vc50 (v0 : Value) (w : World) (R : Value → World → Prop) : Prop :=
  HLenS v0 fun v7 =>
  HBin .gtr v7 (.int .i64 32767) fun v8 =>
  HIf v8
  (R (.tuple #[(.slice Option.none 0 0), (.int .i64 1)]) w)
  (HLenS v0 fun v10 =>
  HCvI .u64 v10 fun v11 =>
  HCall Tryz.prog 64 [v11, (.int .i64 2)] w fun v12 w_1 =>
  ∃ (I : List Value → World → Prop) (μ : List Value → World → Nat), I [v12, (.int .i64 0)] w_1 ∧
  ∀ (v4 : Value) (v5 : Value) w_2, I [v4, v5] w_2 →
  HLenS v0 fun v15 =>
  HBin .lss v5 v15 fun v16 =>
  HIf v16
  (HIdx 3 v0 v5 fun v21 =>
  HLdN 3 v21 w_2 fun v22 =>
  HCall Tryz.prog 65 [v22] w_2 fun v23 w_3 =>
  HNot v23 fun v24 =>
  HIf v24
  (R (.tuple #[(.slice Option.none 0 0), (.int .i64 1)]) w_3)
  (HIdx 3 v0 v5 fun v28 =>
  HFld 0 v28 fun v29 =>
  HLd v29 w_3 fun v30 =>
  HCvI .u8 v30 fun v31 =>
  HBldS (zrow [.int .u8 0] 1) [(0, 1, v31)] 5 1 w_3 fun v32 w_4 =>
  HApp 1 1 [.int .u8 0] 5 v4 v32 w_4 fun v33 w_5 =>
  HIdx 3 v0 v5 fun v36 =>
  HFld 0 v36 fun v37 =>
  HLd v37 w_5 fun v38 =>
  HBin .eql v38 (.int .i64 1) fun v39 =>
  HIf v39
  (HIdx 3 v0 v5 fun v43 =>
  HFld 1 v43 fun v44 =>
  HLd v44 w_5 fun v45 =>
  HCvI .u64 v45 fun v46 =>
  HCall Tryz.prog 64 [v46, (.int .i64 8)] w_5 fun v47 w_6 =>
  HApp 1 1 [.int .u8 0] 5 v33 v47 w_6 fun v48 w_7 =>
  HBin .add v5 (.int .i64 1) fun v18 =>
  I [v48, v18] w_7 ∧ μ [v48, v18] w_7 < μ [v4, v5] w_2)
  (HIdx 3 v0 v5 fun v52 =>
  HFld 2 v52 fun v53 =>
  HLd v53 w_5 fun v54 =>
  HLenT v54 fun v55 =>
  HCvI .u64 v55 fun v56 =>
  HCall Tryz.prog 64 [v56, (.int .i64 2)] w_5 fun v57 w_8 =>
  HApp 1 1 [.int .u8 0] 5 v33 v57 w_8 fun v58 w_9 =>
  HIdx 3 v0 v5 fun v62 =>
  HFld 2 v62 fun v63 =>
  HLd v63 w_9 fun v64 =>
  HApp 1 1 [.int .u8 0] 5 v58 v64 w_9 fun v65 w_10 =>
  HBin .add v5 (.int .i64 1) fun v18_1 =>
  I [v65, v18_1] w_10 ∧ μ [v65, v18_1] w_10 < μ [v4, v5] w_2)))
  (R (.tuple #[v4, (.int .i64 0)]) w_2))
theorem vc50 (v0 : Value) (w : World) (R : Value → World → Prop) (h : Vc50 v0 w R) : HCall Tryz.prog 50 [v0] w R :=
  funP_sound (JL := [(5, [4, 5], [0])]) (JC := []) Tcall_ok mixed_ok Tryz.func50 (by kernel_rfl) (by kernel_rfl)
    (((by kernel_rfl : funP Tryz.prog Tcall [(5, [4, 5], [0])] [] Tryz.f50 [v0] w R = Vc50 v0 w R)).mpr h)

-- qanatref01.Num
def Vc51 (v0 : Value) (w : World) (R : Value → World → Prop) : Prop :=
  HNew [.int .i64 0, .int .i64 0, .string ⟨#[]⟩] 105 w fun v2 w_1 =>
  HBld [.int .i64 0, .int .i64 0, .string ⟨#[]⟩] [(0, 1, (.int .i64 1)), (1, 1, v0)] fun v4 =>
  HStN 3 v2 v4 w_1 fun w_2 =>
  HLdN 3 v2 w_2 fun r =>
  R r w_2
theorem vc51 (v0 : Value) (w : World) (R : Value → World → Prop) (h : Vc51 v0 w R) : HCall Tryz.prog 51 [v0] w R :=
  funP_sound (JL := []) (JC := []) Tcall_ok mixed_ok Tryz.func51 (by kernel_rfl) (by kernel_rfl)
    (((by kernel_rfl : funP Tryz.prog Tcall [] [] Tryz.f51 [v0] w R = Vc51 v0 w R)).mpr h)

-- qanatref01.Put
def Vc52 (v0 : Value) (w : World) (R : Value → World → Prop) : Prop :=
  HLenS v0 fun v7 =>
  HBin .gtr v7 (.int .i64 1048576) fun v8 =>
  HIf v8
  (R (.tuple #[(.slice Option.none 0 0), (.int .i64 1)]) w)
  (HLenS v0 fun v10 =>
  HCvI .u64 v10 fun v11 =>
  HCall Tryz.prog 64 [v11, (.int .i64 4)] w fun v12 w_1 =>
  HCall Tryz.prog 67 [v12] w_1 fun v14 w_2 =>
  HCall Tryz.prog 66 [v14, v0] w_2 fun v16 w_3 =>
  HCvI .u64 v16 fun v19 =>
  HCall Tryz.prog 64 [v19, (.int .i64 4)] w_3 fun v20 w_4 =>
  HApp 1 1 [.int .u8 0] 5 v12 v20 w_4 fun v21 w_5 =>
  HApp 1 1 [.int .u8 0] 5 v21 v0 w_5 fun v24 w_6 =>
  R (.tuple #[v24, (.int .i64 0)]) w_6)
theorem vc52 (v0 : Value) (w : World) (R : Value → World → Prop) (h : Vc52 v0 w R) : HCall Tryz.prog 52 [v0] w R :=
  funP_sound (JL := []) (JC := []) Tcall_ok mixed_ok Tryz.func52 (by kernel_rfl) (by kernel_rfl)
    (((by kernel_rfl : funP Tryz.prog Tcall [] [] Tryz.f52 [v0] w R = Vc52 v0 w R)).mpr h)

-- qanatref01.Scan
def Vc57 (v0 : Value) (w : World) (R : Value → World → Prop) : Prop :=
  ∃ (I : List Value → World → Prop) (μ : List Value → World → Nat), I [(.slice Option.none 0 0), (.int .i64 0)] w ∧
  ∀ (v4 : Value) (v5 : Value) w_1, I [v4, v5] w_1 →
  HLenS v0 fun v11 =>
  HBin .lss v5 v11 fun v12 =>
  HIf v12
  (HSl 1 v0 (some v5) none none fun v16 =>
  HCall Tryz.prog 71 [v16] w_1 fun v17 w_2 =>
  HExt 0 v17 fun v18 =>
  HExt 1 v17 fun v19 =>
  HExt 2 v17 fun v20 =>
  HBin .neq v20 (.int .i64 0) fun v22 =>
  HIf v22
  (R (.tuple #[v4, v5]) w_2)
  (HBldS (zrow [.slice none 0 0] 1) [(0, 1, v18)] 31 1 w_2 fun v27 w_3 =>
  HApp 1 24 [.slice none 0 0] 31 v4 v27 w_3 fun v28 w_4 =>
  HBin .add v5 v19 fun v31 =>
  I [v28, v31] w_4 ∧ μ [v28, v31] w_4 < μ [v4, v5] w_1))
  (R (.tuple #[v4, v5]) w_1)
theorem vc57 (v0 : Value) (w : World) (R : Value → World → Prop) (h : Vc57 v0 w R) : HCall Tryz.prog 57 [v0] w R :=
  funP_sound (JL := [(3, [4, 5], [0])]) (JC := []) Tcall_ok mixed_ok Tryz.func57 (by kernel_rfl) (by kernel_rfl)
    (((by kernel_rfl : funP Tryz.prog Tcall [(3, [4, 5], [0])] [] Tryz.f57 [v0] w R = Vc57 v0 w R)).mpr h)

-- qanatref01.Decode
def Vc58 (v0 : Value) (w : World) (R : Value → World → Prop) : Prop :=
  HLenS v0 fun v11 =>
  HBin .lss v11 (.int .i64 2) fun v12 =>
  HIf v12
  (R (.tuple #[(.slice Option.none 0 0), (.int .i64 2)]) w)
  (HSl 1 v0 none (some (.int .i64 2)) none fun v14 =>
  HCall Tryz.prog 72 [v14] w fun v15 w_1 =>
  HCvI .i64 v15 fun v16 =>
  HBin .gtr v16 (.int .i64 32767) fun v18 =>
  HIf v18
  (R (.tuple #[(.slice Option.none 0 0), (.int .i64 3)]) w_1)
  (∃ (I : List Value → World → Prop) (μ : List Value → World → Nat), I [(.int .i64 2), (.slice Option.none 0 0), (.int .i64 0)] w_1 ∧
  ∀ (v5 : Value) (v6 : Value) (v7 : Value) w_2, I [v5, v6, v7] w_2 →
  HBin .lss v7 v16 fun v21 =>
  HIf v21
  (HLenS v0 fun v26 =>
  HBin .geq v5 v26 fun v27 =>
  HIf v27
  (R (.tuple #[(.slice Option.none 0 0), (.int .i64 2)]) w_2)
  (HIdx 1 v0 v5 fun v30 =>
  HLd v30 w_2 fun v31 =>
  HCvI .i64 v31 fun v32 =>
  HBin .add v5 (.int .i64 1) fun v34 =>
  HBin .eql v32 (.int .i64 1) fun v37 =>
  HIf v37
  (HLenS v0 fun v39 =>
  HBin .sub v39 v34 fun v41 =>
  HBin .lss v41 (.int .i64 8) fun v42 =>
  HIf v42
  (R (.tuple #[(.slice Option.none 0 0), (.int .i64 2)]) w_2)
  (HBin .add v34 (.int .i64 8) fun v47 =>
  HSl 1 v0 (some v34) (some v47) none fun v48 =>
  HCall Tryz.prog 72 [v48] w_2 fun v49 w_3 =>
  HCvI .i64 v49 fun v50 =>
  HCall Tryz.prog 51 [v50] w_3 fun v51 w_4 =>
  HBldS (zrow [.int .i64 0, .int .i64 0, .string ⟨#[]⟩] 1) [(0, 3, v51)] 105 1 w_4 fun v52 w_5 =>
  HApp 3 32 [.int .i64 0, .int .i64 0, .string ⟨#[]⟩] 105 v6 v52 w_5 fun v53 w_6 =>
  HBin .add v34 (.int .i64 8) fun v55 =>
  HBin .add v7 (.int .i64 1) fun v23 =>
  I [v55, v53, v23] w_6 ∧ μ [v55, v53, v23] w_6 < μ [v5, v6, v7] w_2))
  (HBin .eql v32 (.int .i64 2) fun v57 =>
  HIf v57
  (HLenS v0 fun v59 =>
  HBin .sub v59 v34 fun v61 =>
  HBin .lss v61 (.int .i64 2) fun v62 =>
  HIf v62
  (R (.tuple #[(.slice Option.none 0 0), (.int .i64 2)]) w_2)
  (HBin .add v34 (.int .i64 2) fun v66 =>
  HSl 1 v0 (some v34) (some v66) none fun v67 =>
  HCall Tryz.prog 72 [v67] w_2 fun v68 w_7 =>
  HCvI .i64 v68 fun v69 =>
  HBin .add v34 (.int .i64 2) fun v71 =>
  HBin .gtr v69 (.int .i64 4096) fun v73 =>
  HIf v73
  (R (.tuple #[(.slice Option.none 0 0), (.int .i64 3)]) w_7)
  (HLenS v0 fun v75 =>
  HBin .sub v75 v71 fun v77 =>
  HBin .lss v77 v69 fun v79 =>
  HIf v79
  (R (.tuple #[(.slice Option.none 0 0), (.int .i64 2)]) w_7)
  (HBin .add v71 v69 fun v85 =>
  HSl 1 v0 (some v71) (some v85) none fun v86 =>
  HRq Tryz.prog (convert 31 9 v86) w_7 fun v87 =>
  HCall Tryz.prog 73 [v87] w_7 fun v88 w_8 =>
  HBldS (zrow [.int .i64 0, .int .i64 0, .string ⟨#[]⟩] 1) [(0, 3, v88)] 105 1 w_8 fun v89 w_9 =>
  HApp 3 32 [.int .i64 0, .int .i64 0, .string ⟨#[]⟩] 105 v6 v89 w_9 fun v90 w_10 =>
  HBin .add v71 v69 fun v93 =>
  HBin .add v7 (.int .i64 1) fun v23_1 =>
  I [v93, v90, v23_1] w_10 ∧ μ [v93, v90, v23_1] w_10 < μ [v5, v6, v7] w_2))))
  (R (.tuple #[(.slice Option.none 0 0), (.int .i64 3)]) w_2))))
  (HLenS v0 fun v96 =>
  HBin .lss v5 v96 fun v97 =>
  HIf v97
  (R (.tuple #[(.slice Option.none 0 0), (.int .i64 3)]) w_2)
  (R (.tuple #[v6, (.int .i64 0)]) w_2))))
theorem vc58 (v0 : Value) (w : World) (R : Value → World → Prop) (h : Vc58 v0 w R) : HCall Tryz.prog 58 [v0] w R :=
  funP_sound (JL := [(9, [5, 6, 7], [0, 4])]) (JC := []) Tcall_ok mixed_ok Tryz.func58 (by kernel_rfl) (by kernel_rfl)
    (((by kernel_rfl : funP Tryz.prog Tcall [(9, [5, 6, 7], [0, 4])] [] Tryz.f58 [v0] w R = Vc58 v0 w R)).mpr h)

-- qanatref01.big
def Vc64 (v0 : Value) (v1 : Value) (w : World) (R : Value → World → Prop) : Prop :=
  HBin .sub v1 (.int .i64 1) fun v8 =>
  ∃ (I : List Value → World → Prop) (μ : List Value → World → Nat), I [(.slice Option.none 0 0), v8] w ∧
  ∀ (v5 : Value) (v6 : Value) w_1, I [v5, v6] w_1 →
  HBin .geq v6 (.int .i64 0) fun v10 =>
  HIf v10
  (HBin .mul (.int .i64 8) v6 fun v16 =>
  HCvI .u64 v16 fun v17 =>
  HBin .shr v0 v17 fun v18 =>
  HCvI .u8 v18 fun v19 =>
  HBldS (zrow [.int .u8 0] 1) [(0, 1, v19)] 5 1 w_1 fun v20 w_2 =>
  HApp 1 1 [.int .u8 0] 5 v5 v20 w_2 fun v21 w_3 =>
  HBin .sub v6 (.int .i64 1) fun v12 =>
  I [v21, v12] w_3 ∧ μ [v21, v12] w_3 < μ [v5, v6] w_1)
  (R v5 w_1)
theorem vc64 (v0 : Value) (v1 : Value) (w : World) (R : Value → World → Prop) (h : Vc64 v0 v1 w R) : HCall Tryz.prog 64 [v0, v1] w R :=
  funP_sound (JL := [(3, [5, 6], [0])]) (JC := []) Tcall_ok mixed_ok Tryz.func64 (by kernel_rfl) (by kernel_rfl)
    (((by kernel_rfl : funP Tryz.prog Tcall [(3, [5, 6], [0])] [] Tryz.f64 [v0, v1] w R = Vc64 v0 v1 w R)).mpr h)

-- qanatref01.RightField
def Vc65 (v0 : Value) (w : World) (R : Value → World → Prop) : Prop :=
  ∃ cs : List Value, v0 = .agg cs.toArray ∧ HNew cs 105 w fun v1 w_1 =>
  HFld 0 v1 fun v3 =>
  HLd v3 w_1 fun v4 =>
  HBin .eql v4 (.int .i64 1) fun v5 =>
  HIf v5
  (HFld 2 v1 fun v7 =>
  HLd v7 w_1 fun v8 =>
  HBin .eql v8 (.string { data := #[] }) fun v9 =>
  HIf v9
  (R (.bool true) w_1)
  (HFld 0 v1 fun v12 =>
  HLd v12 w_1 fun v13 =>
  HBin .eql v13 (.int .i64 2) fun v14 =>
  HIf v14
  (HFld 1 v1 fun v16 =>
  HLd v16 w_1 fun v17 =>
  HBin .eql v17 (.int .i64 0) fun v18 =>
  HIf v18
  (HFld 2 v1 fun v21 =>
  HLd v21 w_1 fun v22 =>
  HLenT v22 fun v23 =>
  HBin .leq v23 (.int .i64 4096) fun v24 =>
  R v24 w_1)
  (R (.bool false) w_1))
  (R (.bool false) w_1)))
  (HFld 0 v1 fun v12_1 =>
  HLd v12_1 w_1 fun v13_1 =>
  HBin .eql v13_1 (.int .i64 2) fun v14_1 =>
  HIf v14_1
  (HFld 1 v1 fun v16_1 =>
  HLd v16_1 w_1 fun v17_1 =>
  HBin .eql v17_1 (.int .i64 0) fun v18_1 =>
  HIf v18_1
  (HFld 2 v1 fun v21_1 =>
  HLd v21_1 w_1 fun v22_1 =>
  HLenT v22_1 fun v23_1 =>
  HBin .leq v23_1 (.int .i64 4096) fun v24_1 =>
  R v24_1 w_1)
  (R (.bool false) w_1))
  (R (.bool false) w_1))
theorem vc65 (v0 : Value) (w : World) (R : Value → World → Prop) (h : Vc65 v0 w R) : HCall Tryz.prog 65 [v0] w R :=
  funP_sound (JL := []) (JC := []) Tcall_ok mixed_ok Tryz.func65 (by kernel_rfl) (by kernel_rfl)
    (((by kernel_rfl : funP Tryz.prog Tcall [] [] Tryz.f65 [v0] w R = Vc65 v0 w R)).mpr h)

-- qanatref01.More
def Vc66 (v0 : Value) (v1 : Value) (w : World) (R : Value → World → Prop) : Prop :=
  HCpl v0 fun v10 =>
  ∃ (I : List Value → World → Prop) (μ : List Value → World → Nat), I [v10, (.int .i64 0)] w ∧
  ∀ (v5 : Value) (v6 : Value) w_1, I [v5, v6] w_1 →
  HLenS v1 fun v13 =>
  HBin .lss v6 v13 fun v14 =>
  HIf v14
  (HIdx 1 v1 v6 fun v20 =>
  HLd v20 w_1 fun v21 =>
  HCvI .u32 v21 fun v22 =>
  HBin .xor v5 v22 fun v23 =>
  ∃ (I_1 : List Value → World → Prop) (μ_1 : List Value → World → Nat), I_1 [v23, (.int .i64 0)] w_1 ∧
  ∀ (v5_1 : Value) (v7 : Value) w_2, I_1 [v5_1, v7] w_2 →
  HBin .lss v7 (.int .i64 8) fun v25 =>
  HIf v25
  (HBin .and v5_1 (.int .u32 1) fun v29 =>
  HBin .eql v29 (.int .u32 1) fun v30 =>
  HBin .shr v5_1 (.int .u64 1) fun v32 =>
  HIf v30
  (HBin .xor v32 (.int .u32 3988292384) fun v35 =>
  HBin .add v7 (.int .i64 1) fun v27 =>
  I_1 [v35, v27] w_2 ∧ μ_1 [v35, v27] w_2 < μ_1 [v5_1, v7] w_2)
  (HBin .add v7 (.int .i64 1) fun v27_1 =>
  I_1 [v32, v27_1] w_2 ∧ μ_1 [v32, v27_1] w_2 < μ_1 [v5_1, v7] w_2))
  (HBin .add v6 (.int .i64 1) fun v16 =>
  I [v5_1, v16] w_2 ∧ μ [v5_1, v16] w_2 < μ [v5, v6] w_1))
  (HCpl v5 fun v37 =>
  R v37 w_1)
theorem vc66 (v0 : Value) (v1 : Value) (w : World) (R : Value → World → Prop) (h : Vc66 v0 v1 w R) : HCall Tryz.prog 66 [v0, v1] w R :=
  funP_sound (JL := [(3, [5, 6], [1]), (7, [5, 7], [1, 6])]) (JC := []) Tcall_ok mixed_ok Tryz.func66 (by kernel_rfl) (by kernel_rfl)
    (((by kernel_rfl : funP Tryz.prog Tcall [(3, [5, 6], [1]), (7, [5, 7], [1, 6])] [] Tryz.f66 [v0, v1] w R = Vc66 v0 v1 w R)).mpr h)

-- qanatref01.Sum
def Vc67 (v0 : Value) (w : World) (R : Value → World → Prop) : Prop :=
  HCall Tryz.prog 66 [(.int .u32 0), v0] w fun v4 w_1 =>
  R v4 w_1
theorem vc67 (v0 : Value) (w : World) (R : Value → World → Prop) (h : Vc67 v0 w R) : HCall Tryz.prog 67 [v0] w R :=
  funP_sound (JL := []) (JC := []) Tcall_ok mixed_ok Tryz.func67 (by kernel_rfl) (by kernel_rfl)
    (((by kernel_rfl : funP Tryz.prog Tcall [] [] Tryz.f67 [v0] w R = Vc67 v0 w R)).mpr h)

-- qanatref01.Take
def Vc71 (v0 : Value) (w : World) (R : Value → World → Prop) : Prop :=
  HLenS v0 fun v8 =>
  HBin .lss v8 (.int .i64 8) fun v9 =>
  HIf v9
  (R (.tuple #[(.slice Option.none 0 0), (.int .i64 0), (.int .i64 2)]) w)
  (HSl 1 v0 none (some (.int .i64 4)) none fun v11 =>
  HCall Tryz.prog 72 [v11] w fun v12 w_1 =>
  HCvI .i64 v12 fun v13 =>
  HBin .gtr v13 (.int .i64 1048576) fun v15 =>
  HIf v15
  (R (.tuple #[(.slice Option.none 0 0), (.int .i64 0), (.int .i64 3)]) w_1)
  (HLenS v0 fun v17 =>
  HBin .sub v17 (.int .i64 8) fun v18 =>
  HBin .lss v18 v13 fun v20 =>
  HIf v20
  (R (.tuple #[(.slice Option.none 0 0), (.int .i64 0), (.int .i64 2)]) w_1)
  (HBin .add (.int .i64 8) v13 fun v23 =>
  HSl 1 v0 (some (.int .i64 8)) (some v23) none fun v24 =>
  HDraw w_1 fun w_2 =>
  HSl 1 v0 none (some (.int .i64 4)) none fun v26 =>
  HSl 1 v0 (some (.int .i64 4)) (some (.int .i64 8)) none fun v32 =>
  HCall Tryz.prog 67 [v26] w_2 fun v27 w_3 =>
  HCall Tryz.prog 66 [v27, v24] w_3 fun v29 w_4 =>
  HCvI .u64 v29 fun v30 =>
  HCall Tryz.prog 72 [v32] w_4 fun v33 w_5 =>
  HBin .neq v30 v33 fun v34 =>
  HIf v34
  (R (.tuple #[(.slice Option.none 0 0), (.int .i64 0), (.int .i64 4)]) w_5)
  (HBldS (zrow [.int .u8 0] 0) [] 5 0 w_5 fun v35 w_6 =>
  HApp 1 1 [.int .u8 0] 5 v35 v24 w_6 fun v37 w_7 =>
  HBin .add (.int .i64 8) v13 fun v39 =>
  R (.tuple #[v37, v39, (.int .i64 0)]) w_7))))
theorem vc71 (v0 : Value) (w : World) (R : Value → World → Prop) (h : Vc71 v0 w R) : HCall Tryz.prog 71 [v0] w R :=
  funP_sound (JL := []) (JC := []) Tcall_ok mixed_ok Tryz.func71 (by kernel_rfl) (by kernel_rfl)
    (((by kernel_rfl : funP Tryz.prog Tcall [] [] Tryz.f71 [v0] w R = Vc71 v0 w R)).mpr h)

-- qanatref01.number
def Vc72 (v0 : Value) (w : World) (R : Value → World → Prop) : Prop :=
  ∃ (I : List Value → World → Prop) (μ : List Value → World → Nat), I [(.int .u64 0), (.int .i64 0)] w ∧
  ∀ (v3 : Value) (v4 : Value) w_1, I [v3, v4] w_1 →
  HLenS v0 fun v7 =>
  HBin .lss v4 v7 fun v8 =>
  HIf v8
  (HBin .shl v3 (.int .u64 8) fun v12 =>
  HIdx 1 v0 v4 fun v15 =>
  HLd v15 w_1 fun v16 =>
  HCvI .u64 v16 fun v17 =>
  HBin .or v12 v17 fun v18 =>
  HBin .add v4 (.int .i64 1) fun v10 =>
  I [v18, v10] w_1 ∧ μ [v18, v10] w_1 < μ [v3, v4] w_1)
  (R v3 w_1)
theorem vc72 (v0 : Value) (w : World) (R : Value → World → Prop) (h : Vc72 v0 w R) : HCall Tryz.prog 72 [v0] w R :=
  funP_sound (JL := [(3, [3, 4], [0])]) (JC := []) Tcall_ok mixed_ok Tryz.func72 (by kernel_rfl) (by kernel_rfl)
    (((by kernel_rfl : funP Tryz.prog Tcall [(3, [3, 4], [0])] [] Tryz.f72 [v0] w R = Vc72 v0 w R)).mpr h)

-- qanatref01.Text
def Vc73 (v0 : Value) (w : World) (R : Value → World → Prop) : Prop :=
  HNew [.int .i64 0, .int .i64 0, .string ⟨#[]⟩] 105 w fun v2 w_1 =>
  HBld [.int .i64 0, .int .i64 0, .string ⟨#[]⟩] [(0, 1, (.int .i64 2)), (2, 1, v0)] fun v4 =>
  HStN 3 v2 v4 w_1 fun w_2 =>
  HLdN 3 v2 w_2 fun r =>
  R r w_2
theorem vc73 (v0 : Value) (w : World) (R : Value → World → Prop) (h : Vc73 v0 w R) : HCall Tryz.prog 73 [v0] w R :=
  funP_sound (JL := []) (JC := []) Tcall_ok mixed_ok Tryz.func73 (by kernel_rfl) (by kernel_rfl)
    (((by kernel_rfl : funP Tryz.prog Tcall [] [] Tryz.f73 [v0] w R = Vc73 v0 w R)).mpr h)

-- qanatref04.Open
def Vc13 (v0 : Value) (v1 : Value) (v2 : Value) (w : World) (R : Value → World → Prop) : Prop :=
  HBin .lss v1 (.int .i64 0) fun v22 =>
  HIf v22
  (R (.tuple #[(.pointer Option.none), (.int .i64 1)]) w)
  (HBin .gtr v1 (.int .i64 12288) fun v25 =>
  HIf v25
  (R (.tuple #[(.pointer Option.none), (.int .i64 1)]) w)
  (HBin .lss v2 (.int .i64 64) fun v29 =>
  HIf v29
  (R (.tuple #[(.pointer Option.none), (.int .i64 1)]) w)
  (HBin .gtr v2 (.int .i64 65536) fun v33 =>
  HIf v33
  (R (.tuple #[(.pointer Option.none), (.int .i64 1)]) w)
  (HNil v0 fun v36 =>
  HFld 2 v36 fun v37 =>
  HLd v37 w fun v38 =>
  HIf v38
  (R (.tuple #[(.pointer Option.none), (.int .i64 8)]) w)
  (HBld [.pointer none, .int .i64 0, .int .i64 0, .slice none 0 0, .int .i64 0] [(0, 1, v0), (1, 1, v1), (2, 1, v2), (4, 1, (.int .i64 (-1)))] fun v42 =>
  ∃ cs : List Value, v42 = .agg cs.toArray ∧ HNew cs 85 w fun v43 w_1 =>
  HCall Tryz.prog 34 [v0, v1] w_1 fun v46 w_2 =>
  ∃ (I : List Value → World → Prop) (μ : List Value → World → Nat), I [(.int .i64 0), (.int .i64 0)] w_2 ∧
  ∀ (v10 : Value) (v11 : Value) w_3, I [v10, v11] w_3 →
  HLenS v46 fun v49 =>
  HBin .lss v11 v49 fun v50 =>
  HIf v50
  (HIdx 3 v46 v11 fun v55 =>
  HLdN 3 v55 w_3 fun v56 =>
  HNew [.int .i64 0, .int .i64 0, .slice none 0 0] 76 w_3 fun v12 w_4 =>
  HStN 3 v12 v56 w_4 fun w_5 =>
  ∃ I_1 : List Value → World → Prop, (HDraw w_5 fun w_6 =>
  HBin .gtr v11 (.int .i64 0) fun v58 =>
  HIf v58
  (HFld 0 v12 fun v60 =>
  HLd v60 w_6 fun v61 =>
  HBin .sub v11 (.int .i64 1) fun v64 =>
  HIdx 3 v46 v64 fun v65 =>
  HFld 0 v65 fun v66 =>
  HLd v66 w_6 fun v67 =>
  HBin .add v67 (.int .i64 1) fun v68 =>
  HBin .neq v61 v68 fun v69 =>
  HIf v69
  (R (.tuple #[(.pointer Option.none), (.int .i64 3)]) w_6)
  (I_1 [] w_6))
  (I_1 [] w_6)) ∧
  ∀ w_7, I_1 [] w_7 →
  HFld 2 v12 fun v72 =>
  HLd v72 w_7 fun v73 =>
  HCall Tryz.prog 35 [v73] w_7 fun v74 w_8 =>
  HExt 0 v74 fun v75 =>
  HExt 1 v74 fun v76 =>
  HExt 2 v74 fun v77 =>
  HExt 3 v74 fun v78 =>
  ∃ I_2 : List Value → World → Prop, (HBin .eql v78 (.int .i64 0) fun v80 =>
  HIf v80
  (HFld 2 v12 fun v83 =>
  HLd v83 w_8 fun v84 =>
  HLenS v84 fun v85 =>
  HBin .eql v77 v85 fun v86 =>
  HIf v86
  (HLenS v76 fun v90 =>
  HBin .gtr v90 (.int .i64 0) fun v91 =>
  I_2 [v91] w_8)
  (I_2 [(.bool false)] w_8))
  (I_2 [(.bool false)] w_8)) ∧
  ∀ (v17 : Value) w_9, I_2 [v17] w_9 →
  ∃ I_3 : List Value → World → Prop, (HLenS v46 fun v95 =>
  HBin .sub v95 (.int .i64 1) fun v96 =>
  HBin .lss v11 v96 fun v97 =>
  HIf v97
  (HNot v17 fun v100 =>
  HIf v100
  (I_3 [(.bool true)] w_9)
  (HBin .eql v78 (.int .i64 0) fun v104 =>
  HIf v104
  (HBin .gtr v11 (.int .i64 0) fun v107 =>
  HIf v107
  (HBin .neq v75 v10 fun v112 =>
  I_3 [v112] w_9)
  (I_3 [(.bool false)] w_9))
  (I_3 [(.bool false)] w_9)))
  (HBin .eql v78 (.int .i64 0) fun v104_1 =>
  HIf v104_1
  (HBin .gtr v11 (.int .i64 0) fun v107_1 =>
  HIf v107_1
  (HBin .neq v75 v10 fun v112_1 =>
  I_3 [v112_1] w_9)
  (I_3 [(.bool false)] w_9))
  (I_3 [(.bool false)] w_9))) ∧
  ∀ (v114 : Value) w_10, I_3 [v114] w_10 →
  HIf v114
  (R (.tuple #[(.pointer Option.none), (.int .i64 3)]) w_10)
  (HBin .neq v78 (.int .i64 0) fun v116 =>
  HIf v116
  (HBin .add v11 (.int .i64 1) fun v52 =>
  I [v10, v52] w_10 ∧ μ [v10, v52] w_10 < μ [v10, v11] w_3)
  (HBin .sub v75 (.int .i64 1) fun v118 =>
  HLenS v76 fun v120 =>
  HBin .add v118 v120 fun v121 =>
  HBin .gtr v121 (.int .i64 1099511627776) fun v122 =>
  HIf v122
  (R (.tuple #[(.pointer Option.none), (.int .i64 3)]) w_10)
  (HLenS v76 fun v125 =>
  HBin .add v75 v125 fun v126 =>
  HDraw w_10 fun w_11 =>
  HNil v43 fun v129 =>
  HFld 3 v129 fun v130 =>
  HLd v130 w_11 fun v131 =>
  HFld 0 v12 fun v132 =>
  HLd v132 w_11 fun v133 =>
  HBld [.int .i64 0, .int .i64 0, .int .i64 0, .slice none 0 0] [(0, 1, v133), (1, 1, v75), (2, 1, v77), (3, 1, v76)] fun v137 =>
  HBldS (zrow [.int .i64 0, .int .i64 0, .int .i64 0, .slice none 0 0] 1) [(0, 4, v137)] 90 1 w_11 fun v138 w_12 =>
  HLd v130 w_12 fun v131_1 =>
  v131_1 = v131 ∧
  HApp 4 48 [.int .i64 0, .int .i64 0, .int .i64 0, .slice none 0 0] 90 v131 v138 w_12 fun v139 w_13 =>
  HNil v43 fun v140 =>
  HFld 3 v140 fun v141 =>
  HSt v141 v139 w_13 fun w_14 =>
  HBin .add v11 (.int .i64 1) fun v52_1 =>
  I [v126, v52_1] w_14 ∧ μ [v126, v52_1] w_14 < μ [v10, v11] w_3))))
  (HLenS v46 fun v143 =>
  HBin .eql v143 (.int .i64 0) fun v144 =>
  HIf v144
  (R (.tuple #[v43, (.int .i64 0)]) w_3)
  (HLenS v46 fun v148 =>
  HBin .sub v148 (.int .i64 1) fun v149 =>
  HIdx 3 v46 v149 fun v150 =>
  HLdN 3 v150 w_3 fun v151 =>
  HNew [.int .i64 0, .int .i64 0, .slice none 0 0] 76 w_3 fun v18 w_15 =>
  HStN 3 v18 v151 w_15 fun w_16 =>
  HNil v43 fun v153 =>
  HFld 3 v153 fun v154 =>
  HLd v154 w_16 fun v155 =>
  HLenS v155 fun v156 =>
  HLenS v46 fun v158 =>
  HBin .lss v156 v158 fun v159 =>
  HIf v159
  (HFld 0 v18 fun v161 =>
  HLd v161 w_16 fun v162 =>
  HCall Tryz.prog 36 [v0, v162] w_16 fun v163 w_17 =>
  HBin .neq v163 (.int .i64 0) fun v165 =>
  HIf v165
  (R (.tuple #[(.pointer Option.none), v163]) w_17)
  (R (.tuple #[v43, (.int .i64 0)]) w_17))
  (HDraw w_16 fun w_18 =>
  HNil v43 fun v168 =>
  HFld 3 v168 fun v169 =>
  HLd v169 w_18 fun v170 =>
  HFld 2 v18 fun v176 =>
  HLd v176 w_18 fun v177 =>
  HLenS v177 fun v178 =>
  HCall Tryz.prog 37 [v43] w_18 fun v172 w_19 =>
  HLd v169 w_19 fun v170_1 =>
  v170_1 = v170 ∧
  HLd v176 w_19 fun v177_1 =>
  v177_1 = v177 ∧
  HIdx 4 v170 v172 fun v173 =>
  HFld 2 v173 fun v174 =>
  HLd v174 w_19 fun v175 =>
  HBin .lss v175 v178 fun v179 =>
  HIf v179
  (HDraw w_19 fun w_20 =>
  HFld 0 v18 fun v181 =>
  HLd v181 w_20 fun v182 =>
  HNil v43 fun v184 =>
  HFld 3 v184 fun v185 =>
  HLd v185 w_20 fun v186 =>
  HCall Tryz.prog 37 [v43] w_20 fun v188 w_21 =>
  HLd v181 w_21 fun v182_1 =>
  v182_1 = v182 ∧
  HLd v185 w_21 fun v186_1 =>
  v186_1 = v186 ∧
  HIdx 4 v186 v188 fun v189 =>
  HFld 2 v189 fun v190 =>
  HLd v190 w_21 fun v191 =>
  HCall Tryz.prog 38 [v0, v182, v191] w_21 fun v192 w_22 =>
  HBin .neq v192 (.int .i64 0) fun v194 =>
  HIf v194
  (R (.tuple #[(.pointer Option.none), v192]) w_22)
  (R (.tuple #[v43, (.int .i64 0)]) w_22))
  (R (.tuple #[v43, (.int .i64 0)]) w_19)))))))))
theorem vc13 (v0 : Value) (v1 : Value) (v2 : Value) (w : World) (R : Value → World → Prop) (h : Vc13 v0 v1 v2 w R) : HCall Tryz.prog 13 [v0, v1, v2] w R :=
  funP_sound (JL := [(9, [10, 11], [0, 8, 9])]) (JC := [(14, [], [0, 8, 9, 10, 11, 12]), (16, [17], [0, 8, 9, 10, 11, 12, 13, 14, 15, 16]), (17, [114], [0, 8, 9, 10, 11, 12, 13, 14, 15, 16])]) Tcall_ok mixed_ok Tryz.func13 (by kernel_rfl) (by kernel_rfl)
    (((by kernel_rfl : funP Tryz.prog Tcall [(9, [10, 11], [0, 8, 9])] [(14, [], [0, 8, 9, 10, 11, 12]), (16, [17], [0, 8, 9, 10, 11, 12, 13, 14, 15, 16]), (17, [114], [0, 8, 9, 10, 11, 12, 13, 14, 15, 16])] Tryz.f13 [v0, v1, v2] w R = Vc13 v0 v1 v2 w R)).mpr h)

-- qanatref04.Head
def Vc22 (v0 : Value) (w : World) (R : Value → World → Prop) : Prop :=
  HBin .lss v0 (.int .i64 1) fun v7 =>
  HIf v7
  (R (.tuple #[(.slice Option.none 0 0), (.int .i64 1)]) w)
  (HBin .gtr v0 (.int .i64 1099511627776) fun v10 =>
  HIf v10
  (R (.tuple #[(.slice Option.none 0 0), (.int .i64 1)]) w)
  (HCall Tryz.prog 51 [v0] w fun v14 w_1 =>
  HBldS (zrow [.int .i64 0, .int .i64 0, .string ⟨#[]⟩] 1) [(0, 3, v14)] 105 1 w_1 fun v15 w_2 =>
  HCall Tryz.prog 50 [v15] w_2 fun v16 w_3 =>
  HExt 0 v16 fun v17 =>
  HExt 1 v16 fun v18 =>
  HCall Tryz.prog 52 [v17] w_3 fun v20 w_4 =>
  HExt 0 v20 fun v21 =>
  HExt 1 v20 fun v22 =>
  R (.tuple #[v21, v22]) w_4))
theorem vc22 (v0 : Value) (w : World) (R : Value → World → Prop) (h : Vc22 v0 w R) : HCall Tryz.prog 22 [v0] w R :=
  funP_sound (JL := []) (JC := []) Tcall_ok mixed_ok Tryz.func22 (by kernel_rfl) (by kernel_rfl)
    (((by kernel_rfl : funP Tryz.prog Tcall [] [] Tryz.f22 [v0] w R = Vc22 v0 w R)).mpr h)

-- qanatref04.own
def Vc34 (v0 : Value) (v1 : Value) (w : World) (R : Value → World → Prop) : Prop :=
  ∃ (I : List Value → World → Prop) (μ : List Value → World → Nat), I [(.slice Option.none 0 0), (.int .i64 0)] w ∧
  ∀ (v5 : Value) (v6 : Value) w_1, I [v5, v6] w_1 →
  HNil v0 fun v9 =>
  HFld 0 v9 fun v10 =>
  HLd v10 w_1 fun v11 =>
  HLenS v11 fun v12 =>
  HBin .lss v6 v12 fun v13 =>
  HIf v13
  (HNil v0 fun v17 =>
  HFld 0 v17 fun v18 =>
  HLd v18 w_1 fun v19 =>
  HIdx 3 v19 v6 fun v21 =>
  HFld 0 v21 fun v22 =>
  HLd v22 w_1 fun v23 =>
  HBin .geq v23 v1 fun v25 =>
  HIf v25
  (HNil v0 fun v28 =>
  HFld 0 v28 fun v29 =>
  HLd v29 w_1 fun v30 =>
  HIdx 3 v30 v6 fun v32 =>
  HFld 0 v32 fun v33 =>
  HLd v33 w_1 fun v34 =>
  HBin .add v1 (.int .i64 4096) fun v36 =>
  HBin .lss v34 v36 fun v37 =>
  HIf v37
  (HNil v0 fun v41 =>
  HFld 0 v41 fun v42 =>
  HLd v42 w_1 fun v43 =>
  HIdx 3 v43 v6 fun v45 =>
  HLdN 3 v45 w_1 fun v46 =>
  HBldS (zrow [.int .i64 0, .int .i64 0, .slice none 0 0] 1) [(0, 3, v46)] 76 1 w_1 fun v47 w_2 =>
  HApp 3 40 [.int .i64 0, .int .i64 0, .slice none 0 0] 76 v5 v47 w_2 fun v48 w_3 =>
  HBin .add v6 (.int .i64 1) fun v15 =>
  I [v48, v15] w_3 ∧ μ [v48, v15] w_3 < μ [v5, v6] w_1)
  (HBin .add v6 (.int .i64 1) fun v15_1 =>
  I [v5, v15_1] w_1 ∧ μ [v5, v15_1] w_1 < μ [v5, v6] w_1))
  (HBin .add v6 (.int .i64 1) fun v15_2 =>
  I [v5, v15_2] w_1 ∧ μ [v5, v15_2] w_1 < μ [v5, v6] w_1))
  (R v5 w_1)
theorem vc34 (v0 : Value) (v1 : Value) (w : World) (R : Value → World → Prop) (h : Vc34 v0 v1 w R) : HCall Tryz.prog 34 [v0, v1] w R :=
  funP_sound (JL := [(3, [5, 6], [0, 1])]) (JC := []) Tcall_ok mixed_ok Tryz.func34 (by kernel_rfl) (by kernel_rfl)
    (((by kernel_rfl : funP Tryz.prog Tcall [(3, [5, 6], [0, 1])] [] Tryz.f34 [v0, v1] w R = Vc34 v0 v1 w R)).mpr h)

-- qanatref04.Read
def Vc35 (v0 : Value) (w : World) (R : Value → World → Prop) : Prop :=
  HCall Tryz.prog 57 [v0] w fun v12 w_1 =>
  HExt 0 v12 fun v13 =>
  HExt 1 v12 fun v14 =>
  HLenS v13 fun v16 =>
  HBin .eql v16 (.int .i64 0) fun v17 =>
  HIf v17
  (R (.tuple #[(.int .i64 0), (.slice Option.none 0 0), (.int .i64 0), (.int .i64 3)]) w_1)
  (HIdx 1 v13 (.int .i64 0) fun v20 =>
  HLd v20 w_1 fun v21 =>
  HCall Tryz.prog 58 [v21] w_1 fun v22 w_2 =>
  HExt 0 v22 fun v23 =>
  HExt 1 v22 fun v24 =>
  HBin .neq v24 (.int .i64 0) fun v26 =>
  HIf v26
  (R (.tuple #[(.int .i64 0), (.slice Option.none 0 0), (.int .i64 0), (.int .i64 3)]) w_2)
  (HLenS v23 fun v29 =>
  HBin .neq v29 (.int .i64 1) fun v30 =>
  HIf v30
  (R (.tuple #[(.int .i64 0), (.slice Option.none 0 0), (.int .i64 0), (.int .i64 3)]) w_2)
  (HIdx 3 v23 (.int .i64 0) fun v34 =>
  HFld 0 v34 fun v35 =>
  HLd v35 w_2 fun v36 =>
  HBin .neq v36 (.int .i64 1) fun v37 =>
  HIf v37
  (R (.tuple #[(.int .i64 0), (.slice Option.none 0 0), (.int .i64 0), (.int .i64 3)]) w_2)
  (HIdx 3 v23 (.int .i64 0) fun v41 =>
  HFld 1 v41 fun v42 =>
  HLd v42 w_2 fun v43 =>
  HBin .lss v43 (.int .i64 1) fun v44 =>
  HIf v44
  (R (.tuple #[(.int .i64 0), (.slice Option.none 0 0), (.int .i64 0), (.int .i64 3)]) w_2)
  (HIdx 3 v23 (.int .i64 0) fun v48 =>
  HFld 1 v48 fun v49 =>
  HLd v49 w_2 fun v50 =>
  HBin .gtr v50 (.int .i64 1099511627776) fun v51 =>
  HIf v51
  (R (.tuple #[(.int .i64 0), (.slice Option.none 0 0), (.int .i64 0), (.int .i64 3)]) w_2)
  (HDraw w_2 fun w_3 =>
  HIdx 3 v23 (.int .i64 0) fun v54 =>
  HFld 1 v54 fun v55 =>
  HLd v55 w_3 fun v56 =>
  HSl 1 v13 (some (.int .i64 1)) none none fun v58 =>
  R (.tuple #[v56, v58, v14, (.int .i64 0)]) w_3))))))
theorem vc35 (v0 : Value) (w : World) (R : Value → World → Prop) (h : Vc35 v0 w R) : HCall Tryz.prog 35 [v0] w R :=
  funP_sound (JL := []) (JC := []) Tcall_ok mixed_ok Tryz.func35 (by kernel_rfl) (by kernel_rfl)
    (((by kernel_rfl : funP Tryz.prog Tcall [] [] Tryz.f35 [v0] w R = Vc35 v0 w R)).mpr h)

-- qanatref04.Log.last
def Vc37 (v0 : Value) (w : World) (R : Value → World → Prop) : Prop :=
  HNil v0 fun v4 =>
  HFld 3 v4 fun v5 =>
  HLd v5 w fun v6 =>
  HLenS v6 fun v7 =>
  HBin .sub v7 (.int .i64 1) fun v8 =>
  R v8 w
theorem vc37 (v0 : Value) (w : World) (R : Value → World → Prop) (h : Vc37 v0 w R) : HCall Tryz.prog 37 [v0] w R :=
  funP_sound (JL := []) (JC := []) Tcall_ok mixed_ok Tryz.func37 (by kernel_rfl) (by kernel_rfl)
    (((by kernel_rfl : funP Tryz.prog Tcall [] [] Tryz.f37 [v0] w R = Vc37 v0 w R)).mpr h)

-- qanatref04.Log.Low
def Vc43 (v0 : Value) (w : World) (R : Value → World → Prop) : Prop :=
  HNil v0 fun v4 =>
  HFld 3 v4 fun v5 =>
  HLd v5 w fun v6 =>
  HLenS v6 fun v7 =>
  HBin .eql v7 (.int .i64 0) fun v8 =>
  HIf v8
  (R (.int .i64 1) w)
  (HNil v0 fun v10 =>
  HFld 3 v10 fun v11 =>
  HLd v11 w fun v12 =>
  HIdx 4 v12 (.int .i64 0) fun v13 =>
  HFld 1 v13 fun v14 =>
  HLd v14 w fun v15 =>
  R v15 w)
theorem vc43 (v0 : Value) (w : World) (R : Value → World → Prop) (h : Vc43 v0 w R) : HCall Tryz.prog 43 [v0] w R :=
  funP_sound (JL := []) (JC := []) Tcall_ok mixed_ok Tryz.func43 (by kernel_rfl) (by kernel_rfl)
    (((by kernel_rfl : funP Tryz.prog Tcall [] [] Tryz.f43 [v0] w R = Vc43 v0 w R)).mpr h)

-- qanatref04.Log.Head
def Vc44 (v0 : Value) (w : World) (R : Value → World → Prop) : Prop :=
  HNil v0 fun v5 =>
  HFld 3 v5 fun v6 =>
  HLd v6 w fun v7 =>
  HLenS v7 fun v8 =>
  HBin .eql v8 (.int .i64 0) fun v9 =>
  HIf v9
  (R (.int .i64 0) w)
  (HDraw w fun w_1 =>
  HNil v0 fun v11 =>
  HFld 3 v11 fun v12 =>
  HLd v12 w_1 fun v13 =>
  (HCall Tryz.prog 37 [v0] w_1 fun v15 w_2 =>
  HLd v12 w_2 fun v13_1 =>
  v13_1 = v13 ∧
  HIdx 4 v13 v15 fun v16 =>
  HLdN 4 v16 w_2 fun v17 =>
  HNew [.int .i64 0, .int .i64 0, .int .i64 0, .slice none 0 0] 90 w_2 fun v3 w_3 =>
  HLd v12 w_3 fun v13_2 =>
  v13_2 = v13 ∧
  HLdN 4 v16 w_3 fun v17_1 =>
  v17_1 = v17 ∧
  HStN 4 v3 v17 w_3 fun w_4 =>
  HFld 1 v3 fun v18 =>
  HLd v18 w_4 fun v19 =>
  HBin .sub v19 (.int .i64 1) fun v20 =>
  HFld 3 v3 fun v21 =>
  HLd v21 w_4 fun v22 =>
  HLenS v22 fun v23 =>
  HBin .add v20 v23 fun v24 =>
  R v24 w_4) ∧
  (HNew [.int .i64 0, .int .i64 0, .int .i64 0, .slice none 0 0] 90 w_1 fun v3_1 w_5 =>
  HLd v12 w_5 fun v13_3 =>
  v13_3 = v13 ∧
  HCall Tryz.prog 37 [v0] w_5 fun v15_1 w_6 =>
  HLd v12 w_6 fun v13_4 =>
  v13_4 = v13 ∧
  HIdx 4 v13 v15_1 fun v16_1 =>
  HLdN 4 v16_1 w_6 fun v17_2 =>
  HStN 4 v3_1 v17_2 w_6 fun w_7 =>
  HFld 1 v3_1 fun v18_1 =>
  HLd v18_1 w_7 fun v19_1 =>
  HBin .sub v19_1 (.int .i64 1) fun v20_1 =>
  HFld 3 v3_1 fun v21_1 =>
  HLd v21_1 w_7 fun v22_1 =>
  HLenS v22_1 fun v23_1 =>
  HBin .add v20_1 v23_1 fun v24_1 =>
  R v24_1 w_7))
theorem vc44 (v0 : Value) (w : World) (R : Value → World → Prop) (h : Vc44 v0 w R) : HCall Tryz.prog 44 [v0] w R :=
  funP_sound (JL := []) (JC := []) Tcall_ok mixed_ok Tryz.func44 (by kernel_rfl) (by kernel_rfl)
    (((by kernel_rfl : funP Tryz.prog Tcall [] [] Tryz.f44 [v0] w R = Vc44 v0 w R)).mpr h)

-- qanatref04.Log.Read
def Vc45 (v0 : Value) (v1 : Value) (w : World) (R : Value → World → Prop) : Prop :=
  HCall Tryz.prog 43 [v0] w fun v10 w_1 =>
  HBin .lss v1 v10 fun v11 =>
  HIf v11
  (R (.tuple #[(.slice Option.none 0 0), (.int .i64 5)]) w_1)
  (HCall Tryz.prog 44 [v0] w_1 fun v15 w_2 =>
  HBin .gtr v1 v15 fun v16 =>
  HIf v16
  (R (.tuple #[(.slice Option.none 0 0), (.int .i64 5)]) w_2)
  (∃ (I : List Value → World → Prop) (μ : List Value → World → Nat), I [(.int .i64 0)] w_2 ∧
  ∀ (v6 : Value) w_3, I [v6] w_3 →
  HNil v0 fun v20 =>
  HFld 3 v20 fun v21 =>
  HLd v21 w_3 fun v22 =>
  HLenS v22 fun v23 =>
  HBin .lss v6 v23 fun v24 =>
  HIf v24
  (HNil v0 fun v29 =>
  HFld 3 v29 fun v30 =>
  HLd v30 w_3 fun v31 =>
  HIdx 4 v31 v6 fun v33 =>
  HFld 1 v33 fun v34 =>
  HLd v34 w_3 fun v35 =>
  HBin .sub v1 v35 fun v36 =>
  HNil v0 fun v39 =>
  HFld 3 v39 fun v40 =>
  HLd v40 w_3 fun v41 =>
  HIdx 4 v41 v6 fun v43 =>
  HFld 3 v43 fun v44 =>
  HLd v44 w_3 fun v45 =>
  HLenS v45 fun v46 =>
  HBin .lss v36 v46 fun v47 =>
  HIf v47
  (HBldS (zrow [.int .u8 0] 0) [] 5 0 w_3 fun v48 w_4 =>
  HNil v0 fun v50 =>
  HFld 3 v50 fun v51 =>
  HLd v51 w_4 fun v52 =>
  HIdx 4 v52 v6 fun v54 =>
  HFld 3 v54 fun v55 =>
  HLd v55 w_4 fun v56 =>
  HIdx 1 v56 v36 fun v58 =>
  HLd v58 w_4 fun v59 =>
  HApp 1 1 [.int .u8 0] 5 v48 v59 w_4 fun v60 w_5 =>
  R (.tuple #[v60, (.int .i64 0)]) w_5)
  (HBin .add v6 (.int .i64 1) fun v26 =>
  I [v26] w_3 ∧ μ [v26] w_3 < μ [v6] w_3))
  (R (.tuple #[(.slice Option.none 0 0), (.int .i64 5)]) w_3)))
theorem vc45 (v0 : Value) (v1 : Value) (w : World) (R : Value → World → Prop) (h : Vc45 v0 v1 w R) : HCall Tryz.prog 45 [v0, v1] w R :=
  funP_sound (JL := [(4, [6], [0, 1])]) (JC := []) Tcall_ok mixed_ok Tryz.func45 (by kernel_rfl) (by kernel_rfl)
    (((by kernel_rfl : funP Tryz.prog Tcall [(4, [6], [0, 1])] [] Tryz.f45 [v0, v1] w R = Vc45 v0 v1 w R)).mpr h)

end Go.Proofs.YtmcglicbolhmfaaGreat
