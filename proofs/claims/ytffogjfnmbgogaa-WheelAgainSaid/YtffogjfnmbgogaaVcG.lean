/-
  What calls of functions ask, printed by a program of mine (gen.py) out of the functions' code; each is checked by the kernel.
-/
import Derived.Test.YtffogjfnmbgogaaTab
namespace Go.Proofs.Ytffogjfnmbgogaa
set_option linter.unusedVariables false
set_option maxRecDepth 100000
open Go.RowKit

-- qanatlaw15.GuardPlays
def Vc3 (v0 : Value) (v1 : Value) (w : World) (R : Value → World → Prop) : Prop :=
  HCall Try.prog 14 [v0, (.int .i64 3)] w fun v14 w_1 =>
  HBin .add (.int .i64 1) v14 fun v15 =>
  HCall Try.prog 15 [v15] w_1 fun v18 w_2 =>
  HExt 0 v18 fun v19 =>
  HExt 1 v18 fun v20 =>
  HCall Try.prog 16 [v15] w_2 fun v22 w_3 =>
  HBin .neq v20 (.int .i64 0) fun v24 =>
  HIf v24
  (R (.bool false) w_3)
  (HEq (.pointer 99) false v19 (.pointer Option.none) fun v27 =>
  HIf v27
  (R (.bool false) w_3)
  (∃ (I : List Value → World → Prop) (μ : List Value → World → Nat), I [(.int .i64 0)] w_3 ∧
  ∀ (v9 : Value) w_4, I [v9] w_4 →
  HLenS v1 fun v31 =>
  HBin .lss v9 v31 fun v32 =>
  HIf v32
  (HBin .lss v9 (.int .i64 20) fun v35 =>
  HIf v35
  (∃ I_1 : List Value → World → Prop, (∃ (I_2 : List Value → World → Prop) (μ_1 : List Value → World → Nat), I_2 [(.slice Option.none 0 0), (.int .i64 0)] w_4 ∧
  ∀ (v10 : Value) (v11 : Value) w_5, I_2 [v10, v11] w_5 →
  HIdx 1 v1 v9 fun v42 =>
  HLd v42 w_5 fun v43 =>
  HLenS v43 fun v44 =>
  HBin .lss v11 v44 fun v45 =>
  HIf v45
  (HBin .lss v11 (.int .i64 20) fun v48 =>
  HIf v48
  (HIdx 1 v1 v9 fun v55 =>
  HLd v55 w_5 fun v56 =>
  HIdx 5 v56 v11 fun v58 =>
  HLdN 5 v58 w_5 fun v59 =>
  HCall Try.prog 17 [v59, v15] w_5 fun v61 w_6 =>
  HBldS (zrow [.int .i64 0, .int .i64 0, .int .i64 0, .bool false, .string ⟨#[]⟩] 1) [(0, 5, v61)] 32 1 w_6 fun v62 w_7 =>
  HApp 5 48 [.int .i64 0, .int .i64 0, .int .i64 0, .bool false, .string ⟨#[]⟩] 32 v10 v62 w_7 fun v63 w_8 =>
  HBin .add v11 (.int .i64 1) fun v51 =>
  I_2 [v63, v51] w_8 ∧ μ_1 [v63, v51] w_8 < μ_1 [v10, v11] w_5)
  (I_1 [v10] w_5))
  (I_1 [v10] w_5)) ∧
  ∀ (v10_1 : Value) w_9, I_1 [v10_1] w_9 →
  HCall Try.prog 18 [v19, v10_1] w_9 fun v66 w_10 =>
  HCall Try.prog 19 [v22, v10_1] w_10 fun v69 w_11 =>
  HBin .neq v66 v69 fun v70 =>
  HIf v70
  (R (.bool false) w_11)
  (∃ (I_3 : List Value → World → Prop) (μ_2 : List Value → World → Nat), I_3 [(.int .i64 (-1))] w_11 ∧
  ∀ (v12 : Value) w_12, I_3 [v12] w_12 →
  HBin .leq v12 v15 fun v73 =>
  HIf v73
  (HCall Try.prog 21 [v19, v12] w_12 fun v78 w_13 =>
  HCall Try.prog 22 [v22, v12] w_13 fun v81 w_14 =>
  HCall Try.prog 20 [v78, v81] w_14 fun v82 w_15 =>
  HNot v82 fun v83 =>
  HIf v83
  (R (.bool false) w_15)
  (HCall Try.prog 24 [v19, v12] w_15 fun v87 w_16 =>
  HCall Try.prog 25 [v22, v12] w_16 fun v90 w_17 =>
  HCall Try.prog 23 [v87, v90] w_17 fun v91 w_18 =>
  HNot v91 fun v92 =>
  HIf v92
  (R (.bool false) w_18)
  (HBin .add v12 (.int .i64 1) fun v75 =>
  I_3 [v75] w_18 ∧ μ_2 [v75] w_18 < μ_2 [v12] w_12)))
  (HBin .add v9 (.int .i64 1) fun v38 =>
  I [v38] w_12 ∧ μ [v38] w_12 < μ [v9] w_4)))
  (HCall Try.prog 26 [] w_4 fun v94 w_19 =>
  HIf v94
  (HCall Try.prog 27 [v19] w_19 fun v97 w_20 =>
  HBin .eql v97 v15 fun v99 =>
  R v99 w_20)
  (R (.bool false) w_19)))
  (HCall Try.prog 26 [] w_4 fun v94_1 w_21 =>
  HIf v94_1
  (HCall Try.prog 27 [v19] w_21 fun v97_1 w_22 =>
  HBin .eql v97_1 v15 fun v99_1 =>
  R v99_1 w_22)
  (R (.bool false) w_21))))
theorem vc3 (v0 : Value) (v1 : Value) (w : World) (R : Value → World → Prop) (h : Vc3 v0 v1 w R) : HCall Try.prog 3 [v0, v1] w R :=
  funP_sound (JL := [(7, [9], [1, 5, 6, 8]), (11, [10, 11], [1, 5, 6, 8, 9]), (17, [12], [1, 5, 6, 8, 9])]) (JC := [(14, [10], [1, 5, 6, 8, 9])]) Tcall_ok mixed_ok Try.func3 (by kernel_rfl) (by kernel_rfl)
    (((by kernel_rfl : funP Try.prog Tcall [(7, [9], [1, 5, 6, 8]), (11, [10, 11], [1, 5, 6, 8, 9]), (17, [12], [1, 5, 6, 8, 9])] [(14, [10], [1, 5, 6, 8, 9])] Try.f3 [v0, v1] w R = Vc3 v0 v1 w R)).mpr h)

-- qanatlaw15.GuardAgain
def Vc4 (v0 : Value) (v1 : Value) (w : World) (R : Value → World → Prop) : Prop :=
  HCall Try.prog 15 [(.int .i64 2)] w fun v15 w_1 =>
  HExt 0 v15 fun v16 =>
  HExt 1 v15 fun v17 =>
  HCall Try.prog 15 [(.int .i64 2)] w_1 fun v19 w_2 =>
  HExt 0 v19 fun v20 =>
  HExt 1 v19 fun v21 =>
  HBin .neq v17 (.int .i64 0) fun v23 =>
  HIf v23
  (R (.bool false) w_2)
  (HBin .neq v21 (.int .i64 0) fun v26 =>
  HIf v26
  (R (.bool false) w_2)
  (HEq (.pointer 99) false v16 (.pointer Option.none) fun v30 =>
  HIf v30
  (R (.bool false) w_2)
  (HEq (.pointer 99) false v20 (.pointer Option.none) fun v34 =>
  HIf v34
  (R (.bool false) w_2)
  (∃ I : List Value → World → Prop, (∃ (I_1 : List Value → World → Prop) (μ : List Value → World → Nat), I_1 [(.slice Option.none 0 0), (.int .i64 0), (.int .i64 0)] w_2 ∧
  ∀ (v9 : Value) (v10 : Value) (v11 : Value) w_3, I_1 [v9, v10, v11] w_3 →
  HLenS v0 fun v38 =>
  HBin .lss v11 v38 fun v39 =>
  HIf v39
  (HBin .lss v11 (.int .i64 60) fun v42 =>
  HIf v42
  (HIdx 5 v0 v11 fun v48 =>
  HLdN 5 v48 w_3 fun v49 =>
  HCall Try.prog 17 [v49, (.int .i64 2)] w_3 fun v50 w_4 =>
  HNew [.int .i64 0, .int .i64 0, .int .i64 0, .bool false, .string ⟨#[]⟩] 32 w_4 fun v12 w_5 =>
  HStN 5 v12 v50 w_5 fun w_6 =>
  HIdx 5 v0 v11 fun v54 =>
  HFld 0 v54 fun v55 =>
  HLd v55 w_6 fun v56 =>
  HCall Try.prog 28 [v56, (.int .i64 3)] w_6 fun v57 w_7 =>
  HBin .add v10 v57 fun v58 =>
  HDraw w_7 fun w_8 =>
  HFld 1 v12 fun v61 =>
  HLd v61 w_8 fun v62 =>
  HFld 2 v12 fun v64 =>
  HLd v64 w_8 fun v65 =>
  HFld 3 v12 fun v66 =>
  HLd v66 w_8 fun v67 =>
  HFld 4 v12 fun v68 =>
  HLd v68 w_8 fun v69 =>
  HCall Try.prog 14 [v62, (.int .i64 2)] w_8 fun v63 w_9 =>
  HLd v64 w_9 fun v65_1 =>
  v65_1 = v65 ∧
  HLd v66 w_9 fun v67_1 =>
  v67_1 = v67 ∧
  HLd v68 w_9 fun v69_1 =>
  v69_1 = v69 ∧
  HBld [.int .i64 0, .int .i64 0, .int .i64 0, .bool false, .string ⟨#[]⟩] [(0, 1, v58), (1, 1, v63), (2, 1, v65), (3, 1, v67), (4, 1, v69)] fun v70 =>
  HBldS (zrow [.int .i64 0, .int .i64 0, .int .i64 0, .bool false, .string ⟨#[]⟩] 1) [(0, 5, v70)] 32 1 w_9 fun v71 w_10 =>
  HApp 5 48 [.int .i64 0, .int .i64 0, .int .i64 0, .bool false, .string ⟨#[]⟩] 32 v9 v71 w_10 fun v72 w_11 =>
  HBin .add v11 (.int .i64 1) fun v45 =>
  I_1 [v72, v58, v45] w_11 ∧ μ [v72, v58, v45] w_11 < μ [v9, v10, v11] w_3)
  (I [v9] w_3))
  (I [v9] w_3)) ∧
  ∀ (v9_1 : Value) w_12, I [v9_1] w_12 →
  HCall Try.prog 18 [v16, v9_1] w_12 fun v75 w_13 =>
  HLenS v9_1 fun v80 =>
  HBin .add v80 (.int .i64 1) fun v81 =>
  HCall Try.prog 14 [v1, v81] w_13 fun v82 w_14 =>
  HSl 5 v9_1 none (some v82) none fun v83 =>
  HCall Try.prog 18 [v20, v83] w_14 fun v84 w_15 =>
  HCall Try.prog 18 [v20, v9_1] w_15 fun v87 w_16 =>
  HCall Try.prog 18 [v20, v9_1] w_16 fun v90 w_17 =>
  HCall Try.prog 26 [] w_17 fun v91 w_18 =>
  HIf v91
  (HLenS v9_1 fun v95 =>
  HBin .eql v75 v95 fun v96 =>
  HIf v96
  (HCall Try.prog 21 [v16, (.int .i64 0)] w_18 fun v100 w_19 =>
  HCall Try.prog 21 [v20, (.int .i64 0)] w_19 fun v102 w_20 =>
  HCall Try.prog 20 [v100, v102] w_20 fun v103 w_21 =>
  HIf v103
  (HCall Try.prog 21 [v16, (.int .i64 1)] w_21 fun v107 w_22 =>
  HCall Try.prog 21 [v20, (.int .i64 1)] w_22 fun v109 w_23 =>
  HCall Try.prog 20 [v107, v109] w_23 fun v110 w_24 =>
  R v110 w_24)
  (R (.bool false) w_21))
  (R (.bool false) w_18))
  (R (.bool false) w_18)))))
theorem vc4 (v0 : Value) (v1 : Value) (w : World) (R : Value → World → Prop) (h : Vc4 v0 v1 w R) : HCall Try.prog 4 [v0, v1] w R :=
  funP_sound (JL := [(8, [9, 10, 11], [0, 1, 5, 7])]) (JC := [(13, [9], [1, 5, 7])]) Tcall_ok mixed_ok Try.func4 (by kernel_rfl) (by kernel_rfl)
    (((by kernel_rfl : funP Try.prog Tcall [(8, [9, 10, 11], [0, 1, 5, 7])] [(13, [9], [1, 5, 7])] Try.f4 [v0, v1] w R = Vc4 v0 v1 w R)).mpr h)

-- qanatlaw15.GuardOlder
def Vc5 (v0 : Value) (v1 : Value) (w : World) (R : Value → World → Prop) : Prop :=
  HCall Try.prog 15 [(.int .i64 1)] w fun v14 w_1 =>
  HExt 0 v14 fun v15 =>
  HExt 1 v14 fun v16 =>
  HBin .neq v16 (.int .i64 0) fun v18 =>
  HIf v18
  (R (.bool false) w_1)
  (HEq (.pointer 99) false v15 (.pointer Option.none) fun v21 =>
  HIf v21
  (R (.bool false) w_1)
  (HLenS v0 fun v24 =>
  HMin v24 (.int .i64 12) fun v25 =>
  HCall Try.prog 16 [(.int .i64 1)] w_1 fun v26 w_2 =>
  ∃ (I : List Value → World → Prop) (μ : List Value → World → Nat), I [(.int .i64 0)] w_2 ∧
  ∀ (v9 : Value) w_3, I [v9] w_3 →
  HBin .lss v9 v25 fun v29 =>
  HIf v29
  (HDraw w_3 fun w_4 =>
  HBin .add v9 (.int .i64 1) fun v34 =>
  HIdx 5 v0 v9 fun v37 =>
  HFld 2 v37 fun v38 =>
  HLd v38 w_4 fun v39 =>
  HIdx 5 v0 v9 fun v43 =>
  HFld 3 v43 fun v44 =>
  HLd v44 w_4 fun v45 =>
  HIdx 5 v0 v9 fun v48 =>
  HFld 4 v48 fun v49 =>
  HLd v49 w_4 fun v50 =>
  HCall Try.prog 28 [v39, (.int .i64 4)] w_4 fun v40 w_5 =>
  HLd v44 w_5 fun v45_1 =>
  v45_1 = v45 ∧
  HLd v49 w_5 fun v50_1 =>
  v50_1 = v50 ∧
  HBld [.int .i64 0, .int .i64 0, .int .i64 0, .bool false, .string ⟨#[]⟩] [(0, 1, v34), (2, 1, v40), (3, 1, v45), (4, 1, v50)] fun v51 =>
  HBldS (zrow [.int .i64 0, .int .i64 0, .int .i64 0, .bool false, .string ⟨#[]⟩] 1) [(0, 5, v51)] 32 1 w_5 fun v52 w_6 =>
  HCall Try.prog 19 [v26, v52] w_6 fun v53 w_7 =>
  HBin .add v9 (.int .i64 1) fun v31 =>
  I [v31] w_7 ∧ μ [v31] w_7 < μ [v9] w_3)
  (HCall Try.prog 14 [v1, (.int .i64 12)] w_3 fun v55 w_8 =>
  HBin .add (.int .i64 1) v55 fun v56 =>
  ∃ (I_1 : List Value → World → Prop) (μ_1 : List Value → World → Nat), I_1 [(.int .i64 0)] w_8 ∧
  ∀ (v11 : Value) w_9, I_1 [v11] w_9 →
  HBin .lss v11 (.int .i64 13) fun v58 =>
  HIf v58
  (HBin .mul v11 v56 fun v63 =>
  HBin .rem v63 (.int .i64 13) fun v64 =>
  HBin .sub v64 (.int .i64 1) fun v65 =>
  HBin .geq v65 (.int .i64 0) fun v67 =>
  HIf v67
  (HBin .lss v65 v25 fun v71 =>
  HIf v71
  (HDraw w_9 fun w_10 =>
  HBin .add v65 (.int .i64 1) fun v75 =>
  HIdx 5 v0 v65 fun v78 =>
  HFld 2 v78 fun v79 =>
  HLd v79 w_10 fun v80 =>
  HIdx 5 v0 v65 fun v84 =>
  HFld 3 v84 fun v85 =>
  HLd v85 w_10 fun v86 =>
  HIdx 5 v0 v65 fun v89 =>
  HFld 4 v89 fun v90 =>
  HLd v90 w_10 fun v91 =>
  HCall Try.prog 28 [v80, (.int .i64 4)] w_10 fun v81 w_11 =>
  HLd v85 w_11 fun v86_1 =>
  v86_1 = v86 ∧
  HLd v90 w_11 fun v91_1 =>
  v91_1 = v91 ∧
  HBld [.int .i64 0, .int .i64 0, .int .i64 0, .bool false, .string ⟨#[]⟩] [(0, 1, v75), (2, 1, v81), (3, 1, v86), (4, 1, v91)] fun v92 =>
  HBldS (zrow [.int .i64 0, .int .i64 0, .int .i64 0, .bool false, .string ⟨#[]⟩] 1) [(0, 5, v92)] 32 1 w_11 fun v93 w_12 =>
  HCall Try.prog 18 [v15, v93] w_12 fun v94 w_13 =>
  HBin .add v11 (.int .i64 1) fun v60 =>
  I_1 [v60] w_13 ∧ μ_1 [v60] w_13 < μ_1 [v11] w_9)
  (HBin .add v11 (.int .i64 1) fun v60_1 =>
  I_1 [v60_1] w_9 ∧ μ_1 [v60_1] w_9 < μ_1 [v11] w_9))
  (HBin .add v11 (.int .i64 1) fun v60_2 =>
  I_1 [v60_2] w_9 ∧ μ_1 [v60_2] w_9 < μ_1 [v11] w_9))
  (HCall Try.prog 26 [] w_9 fun v95 w_14 =>
  HIf v95
  (HCall Try.prog 21 [v15, (.int .i64 0)] w_14 fun v98 w_15 =>
  HCall Try.prog 22 [v26, (.int .i64 0)] w_15 fun v100 w_16 =>
  HCall Try.prog 20 [v98, v100] w_16 fun v101 w_17 =>
  R v101 w_17)
  (R (.bool false) w_14)))))
theorem vc5 (v0 : Value) (v1 : Value) (w : World) (R : Value → World → Prop) (h : Vc5 v0 v1 w R) : HCall Try.prog 5 [v0, v1] w R :=
  funP_sound (JL := [(7, [9], [0, 1, 5, 7, 8]), (12, [11], [0, 5, 7, 8, 10])]) (JC := []) Tcall_ok mixed_ok Try.func5 (by kernel_rfl) (by kernel_rfl)
    (((by kernel_rfl : funP Try.prog Tcall [(7, [9], [0, 1, 5, 7, 8]), (12, [11], [0, 5, 7, 8, 10])] [] Try.f5 [v0, v1] w R = Vc5 v0 v1 w R)).mpr h)

-- qanatlaw15.GuardGone
def Vc6 (v0 : Value) (v1 : Value) (v2 : Value) (v3 : Value) (w : World) (R : Value → World → Prop) : Prop :=
  HCall Try.prog 15 [(.int .i64 1)] w fun v16 w_1 =>
  HExt 0 v16 fun v17 =>
  HExt 1 v16 fun v18 =>
  HBin .neq v18 (.int .i64 0) fun v20 =>
  HIf v20
  (R (.bool false) w_1)
  (HEq (.pointer 99) false v17 (.pointer Option.none) fun v23 =>
  HIf v23
  (R (.bool false) w_1)
  (HBld [.int .i64 0, .int .i64 0, .int .i64 0, .bool false, .string ⟨#[]⟩] [(0, 1, v1), (2, 1, v0), (3, 1, (.bool true)), (4, 1, v3)] fun v29 =>
  HBldS (zrow [.int .i64 0, .int .i64 0, .int .i64 0, .bool false, .string ⟨#[]⟩] 1) [(0, 5, v29)] 32 1 w_1 fun v30 w_2 =>
  HCall Try.prog 18 [v17, v30] w_2 fun v31 w_3 =>
  HBld [.int .i64 0, .int .i64 0, .int .i64 0, .bool false, .string ⟨#[]⟩] [(0, 1, v2), (2, 1, v0), (4, 1, v3)] fun v36 =>
  HBldS (zrow [.int .i64 0, .int .i64 0, .int .i64 0, .bool false, .string ⟨#[]⟩] 1) [(0, 5, v36)] 32 1 w_3 fun v37 w_4 =>
  HCall Try.prog 18 [v17, v37] w_4 fun v38 w_5 =>
  HCall Try.prog 21 [v17, (.int .i64 0)] w_5 fun v40 w_6 =>
  HBin .neq v31 (.int .i64 1) fun v42 =>
  HIf v42
  (R (.bool false) w_6)
  (HLenS v40 fun v45 =>
  HBin .neq v45 (.int .i64 1) fun v46 =>
  HIf v46
  (R (.bool false) w_6)
  (HCall Try.prog 24 [v17, (.int .i64 0)] w_6 fun v50 w_7 =>
  HLenS v50 fun v51 =>
  HBin .neq v51 v38 fun v53 =>
  HIf v53
  (R (.bool false) w_7)
  (HBin .eql v38 (.int .i64 1) fun v57 =>
  HBin .geq v2 v1 fun v60 =>
  HEq .bool true v57 v60 fun v61 =>
  HIf v61
  (R (.bool false) w_7)
  (HBld [.int .i64 0, .int .i64 0, .bool false, .string ⟨#[]⟩] [(0, 1, v0), (1, 1, v1), (2, 1, (.bool true))] fun v65 =>
  HNew [.int .i64 0, .int .i64 0, .bool false, .string ⟨#[]⟩] 38 w_7 fun v14 w_8 =>
  HStN 4 v14 v65 w_8 fun w_9 =>
  HBin .eql v38 (.int .i64 1) fun v67 =>
  HIf v67
  (HBld [.int .i64 0, .int .i64 0, .bool false, .string ⟨#[]⟩] [(0, 1, v0), (1, 1, v2), (3, 1, v3)] fun v71 =>
  HStN 4 v14 v71 w_9 fun w_10 =>
  HDraw w_10 fun w_11 =>
  HCall Try.prog 26 [] w_11 fun v72 w_12 =>
  HIf v72
  (HIdx 4 v40 (.int .i64 0) fun v75 =>
  HLdN 4 v75 w_12 fun v76 =>
  HLdN 4 v14 w_12 fun v77 =>
  HEqG Try.prog 38 false v76 v77 w_12 fun v78 =>
  R v78 w_12)
  (R (.bool false) w_12))
  (HDraw w_9 fun w_13 =>
  HCall Try.prog 26 [] w_13 fun v72_1 w_14 =>
  HIf v72_1
  (HIdx 4 v40 (.int .i64 0) fun v75_1 =>
  HLdN 4 v75_1 w_14 fun v76_1 =>
  HLdN 4 v14 w_14 fun v77_1 =>
  HEqG Try.prog 38 false v76_1 v77_1 w_14 fun v78_1 =>
  R v78_1 w_14)
  (R (.bool false) w_14))))))))
theorem vc6 (v0 : Value) (v1 : Value) (v2 : Value) (v3 : Value) (w : World) (R : Value → World → Prop) (h : Vc6 v0 v1 v2 v3 w R) : HCall Try.prog 6 [v0, v1, v2, v3] w R :=
  funP_sound (JL := []) (JC := []) Tcall_ok mixed_ok Try.func6 (by kernel_rfl) (by kernel_rfl)
    (((by kernel_rfl : funP Try.prog Tcall [] [] Try.f6 [v0, v1, v2, v3] w R = Vc6 v0 v1 v2 v3 w R)).mpr h)

-- qanatplay.Mod
def Vc14 (v0 : Value) (v1 : Value) (w : World) (R : Value → World → Prop) : Prop :=
  HCvI .u64 v0 fun v6 =>
  HCvI .u64 v1 fun v8 =>
  HBin .rem v6 v8 fun v9 =>
  HCvI .i64 v9 fun v10 =>
  R v10 w
theorem vc14 (v0 : Value) (v1 : Value) (w : World) (R : Value → World → Prop) (h : Vc14 v0 v1 w R) : HCall Try.prog 14 [v0, v1] w R :=
  funP_sound (JL := []) (JC := []) Tcall_ok mixed_ok Try.func14 (by kernel_rfl) (by kernel_rfl)
    (((by kernel_rfl : funP Try.prog Tcall [] [] Try.f14 [v0, v1] w R = Vc14 v0 v1 w R)).mpr h)

-- guard.New
def Vc15 (v0 : Value) (w : World) (R : Value → World → Prop) : Prop :=
  HBin .lss v0 (.int .i64 1) fun v6 =>
  HIf v6
  (R (.tuple #[(.pointer Option.none), (.int .i64 1)]) w)
  (HBin .gtr v0 (.int .i64 8) fun v9 =>
  HIf v9
  (R (.tuple #[(.pointer Option.none), (.int .i64 1)]) w)
  (HBld [.slice none 0 0] [] fun v11 =>
  ∃ cs : List Value, v11 = .agg cs.toArray ∧ HNew cs 99 w fun v12 w_1 =>
  ∃ (I : List Value → World → Prop) (μ : List Value → World → Nat), I [(.int .i64 0)] w_1 ∧
  ∀ (v14 : Value) w_2, I [v14] w_2 →
  HBin .lss v14 v0 fun v15 =>
  HIf v15
  (HNil v12 fun v18 =>
  HFld 0 v18 fun v19 =>
  HLd v19 w_2 fun v20 =>
  HBldS (zrow [.map none] 1) [(0, 1, (.map (some w_2.heap.size)))] 100 1 (w_2.alloc (.map #[] 0)) fun v22 w_3 =>
  HApp 1 8 [.map none] 100 v20 v22 w_3 fun v23 w_4 =>
  HNil v12 fun v24 =>
  HFld 0 v24 fun v25 =>
  HSt v25 v23 w_4 fun w_5 =>
  HBin .add v14 (.int .i64 1) fun v26 =>
  I [v26] w_5 ∧ μ [v26] w_5 < μ [v14] w_2)
  (R (.tuple #[v12, (.int .i64 0)]) w_2)))
theorem vc15 (v0 : Value) (w : World) (R : Value → World → Prop) (h : Vc15 v0 w R) : HCall Try.prog 15 [v0] w R :=
  funP_sound (JL := [(5, [14], [4, 13])]) (JC := []) Tcall_ok mixed_ok Try.func15 (by kernel_rfl) (by kernel_rfl)
    (((by kernel_rfl : funP Try.prog Tcall [(5, [14], [4, 13])] [] Try.f15 [v0] w R = Vc15 v0 w R)).mpr h)

-- qanatref13.NewReplica
def Vc16 (v0 : Value) (w : World) (R : Value → World → Prop) : Prop :=
  HBin .lss v0 (.int .i64 1) fun v4 =>
  HIf v4
  (R (.pointer Option.none) w)
  (HBin .gtr v0 (.int .i64 8) fun v7 =>
  HIf v7
  (R (.pointer Option.none) w)
  (HMk [.slice none 0 0] 24 39 v0 v0 w fun v10 w_1 =>
  HBld [.slice none 0 0] [(0, 1, v10)] fun v11 =>
  ∃ cs : List Value, v11 = .agg cs.toArray ∧ HNew cs 103 w_1 fun v12 w_2 =>
  R v12 w_2))
theorem vc16 (v0 : Value) (w : World) (R : Value → World → Prop) (h : Vc16 v0 w R) : HCall Try.prog 16 [v0] w R :=
  funP_sound (JL := []) (JC := []) Tcall_ok mixed_ok Try.func16 (by kernel_rfl) (by kernel_rfl)
    (((by kernel_rfl : funP Try.prog Tcall [] [] Try.f16 [v0] w R = Vc16 v0 w R)).mpr h)

-- qanatlaw15.op
def Vc17 (v0 : Value) (v1 : Value) (w : World) (R : Value → World → Prop) : Prop :=
  ∃ cs : List Value, v0 = .agg cs.toArray ∧ HNew cs 32 w fun v2 w_1 =>
  HNew [.int .i64 0, .int .i64 0, .int .i64 0, .bool false, .string ⟨#[]⟩] 32 w_1 fun v4 w_2 =>
  HFld 1 v2 fun v6 =>
  HLd v6 w_2 fun v7 =>
  HCall Try.prog 14 [v7, (.int .i64 13)] w_2 fun v8 w_3 =>
  HBin .eql v8 (.int .i64 12) fun v9 =>
  HIf v9
  (HLdN 5 v2 w_3 fun v10 =>
  HStN 5 v4 v10 w_3 fun w_4 =>
  HLdN 5 v4 w_4 fun r =>
  R r w_4)
  (HDraw w_3 fun w_5 =>
  HFld 0 v2 fun v11 =>
  HLd v11 w_5 fun v12 =>
  HFld 1 v2 fun v14 =>
  HLd v14 w_5 fun v15 =>
  HFld 2 v2 fun v18 =>
  HLd v18 w_5 fun v19 =>
  HFld 3 v2 fun v21 =>
  HLd v21 w_5 fun v22 =>
  HFld 4 v2 fun v23 =>
  HLd v23 w_5 fun v24 =>
  (HCall Try.prog 28 [v12, (.int .i64 12)] w_5 fun v13 w_6 =>
  HLd v14 w_6 fun v15_1 =>
  v15_1 = v15 ∧
  HLd v18 w_6 fun v19_1 =>
  v19_1 = v19 ∧
  HLd v21 w_6 fun v22_1 =>
  v22_1 = v22 ∧
  HLd v23 w_6 fun v24_1 =>
  v24_1 = v24 ∧
  (HCall Try.prog 14 [v15, v1] w_6 fun v17 w_7 =>
  HLd v18 w_7 fun v19_2 =>
  v19_2 = v19 ∧
  HLd v21 w_7 fun v22_2 =>
  v22_2 = v22 ∧
  HLd v23 w_7 fun v24_2 =>
  v24_2 = v24 ∧
  (HCall Try.prog 28 [v19, (.int .i64 6)] w_7 fun v20 w_8 =>
  HLd v21 w_8 fun v22_3 =>
  v22_3 = v22 ∧
  HLd v23 w_8 fun v24_3 =>
  v24_3 = v24 ∧
  HBld [.int .i64 0, .int .i64 0, .int .i64 0, .bool false, .string ⟨#[]⟩] [(0, 1, v13), (1, 1, v17), (2, 1, v20), (3, 1, v22), (4, 1, v24)] fun v25 =>
  HNew [.int .i64 0, .int .i64 0, .int .i64 0, .bool false, .string ⟨#[]⟩] 32 w_8 fun v5 w_9 =>
  HLd v21 w_9 fun v22_4 =>
  v22_4 = v22 ∧
  HLd v23 w_9 fun v24_4 =>
  v24_4 = v24 ∧
  HStN 5 v5 v25 w_9 fun w_10 =>
  HLdN 5 v5 w_10 fun v26 =>
  HStN 5 v4 v26 w_10 fun w_11 =>
  HLdN 5 v4 w_11 fun r_1 =>
  R r_1 w_11) ∧
  (HNew [.int .i64 0, .int .i64 0, .int .i64 0, .bool false, .string ⟨#[]⟩] 32 w_7 fun v5_1 w_12 =>
  HLd v18 w_12 fun v19_3 =>
  v19_3 = v19 ∧
  HLd v21 w_12 fun v22_5 =>
  v22_5 = v22 ∧
  HLd v23 w_12 fun v24_5 =>
  v24_5 = v24 ∧
  HCall Try.prog 28 [v19, (.int .i64 6)] w_12 fun v20_1 w_13 =>
  HLd v21 w_13 fun v22_6 =>
  v22_6 = v22 ∧
  HLd v23 w_13 fun v24_6 =>
  v24_6 = v24 ∧
  HBld [.int .i64 0, .int .i64 0, .int .i64 0, .bool false, .string ⟨#[]⟩] [(0, 1, v13), (1, 1, v17), (2, 1, v20_1), (3, 1, v22), (4, 1, v24)] fun v25_1 =>
  HStN 5 v5_1 v25_1 w_13 fun w_14 =>
  HLdN 5 v5_1 w_14 fun v26_1 =>
  HStN 5 v4 v26_1 w_14 fun w_15 =>
  HLdN 5 v4 w_15 fun r_2 =>
  R r_2 w_15)) ∧
  (HNew [.int .i64 0, .int .i64 0, .int .i64 0, .bool false, .string ⟨#[]⟩] 32 w_6 fun v5_2 w_16 =>
  HLd v14 w_16 fun v15_2 =>
  v15_2 = v15 ∧
  HLd v18 w_16 fun v19_4 =>
  v19_4 = v19 ∧
  HLd v21 w_16 fun v22_7 =>
  v22_7 = v22 ∧
  HLd v23 w_16 fun v24_7 =>
  v24_7 = v24 ∧
  HCall Try.prog 14 [v15, v1] w_16 fun v17_1 w_17 =>
  HLd v18 w_17 fun v19_5 =>
  v19_5 = v19 ∧
  HLd v21 w_17 fun v22_8 =>
  v22_8 = v22 ∧
  HLd v23 w_17 fun v24_8 =>
  v24_8 = v24 ∧
  HCall Try.prog 28 [v19, (.int .i64 6)] w_17 fun v20_2 w_18 =>
  HLd v21 w_18 fun v22_9 =>
  v22_9 = v22 ∧
  HLd v23 w_18 fun v24_9 =>
  v24_9 = v24 ∧
  HBld [.int .i64 0, .int .i64 0, .int .i64 0, .bool false, .string ⟨#[]⟩] [(0, 1, v13), (1, 1, v17_1), (2, 1, v20_2), (3, 1, v22), (4, 1, v24)] fun v25_2 =>
  HStN 5 v5_2 v25_2 w_18 fun w_19 =>
  HLdN 5 v5_2 w_19 fun v26_2 =>
  HStN 5 v4 v26_2 w_19 fun w_20 =>
  HLdN 5 v4 w_20 fun r_3 =>
  R r_3 w_20)) ∧
  (HNew [.int .i64 0, .int .i64 0, .int .i64 0, .bool false, .string ⟨#[]⟩] 32 w_5 fun v5_3 w_21 =>
  HLd v11 w_21 fun v12_1 =>
  v12_1 = v12 ∧
  HLd v14 w_21 fun v15_3 =>
  v15_3 = v15 ∧
  HLd v18 w_21 fun v19_6 =>
  v19_6 = v19 ∧
  HLd v21 w_21 fun v22_10 =>
  v22_10 = v22 ∧
  HLd v23 w_21 fun v24_10 =>
  v24_10 = v24 ∧
  HCall Try.prog 28 [v12, (.int .i64 12)] w_21 fun v13_1 w_22 =>
  HLd v14 w_22 fun v15_4 =>
  v15_4 = v15 ∧
  HLd v18 w_22 fun v19_7 =>
  v19_7 = v19 ∧
  HLd v21 w_22 fun v22_11 =>
  v22_11 = v22 ∧
  HLd v23 w_22 fun v24_11 =>
  v24_11 = v24 ∧
  HCall Try.prog 14 [v15, v1] w_22 fun v17_2 w_23 =>
  HLd v18 w_23 fun v19_8 =>
  v19_8 = v19 ∧
  HLd v21 w_23 fun v22_12 =>
  v22_12 = v22 ∧
  HLd v23 w_23 fun v24_12 =>
  v24_12 = v24 ∧
  HCall Try.prog 28 [v19, (.int .i64 6)] w_23 fun v20_3 w_24 =>
  HLd v21 w_24 fun v22_13 =>
  v22_13 = v22 ∧
  HLd v23 w_24 fun v24_13 =>
  v24_13 = v24 ∧
  HBld [.int .i64 0, .int .i64 0, .int .i64 0, .bool false, .string ⟨#[]⟩] [(0, 1, v13_1), (1, 1, v17_2), (2, 1, v20_3), (3, 1, v22), (4, 1, v24)] fun v25_3 =>
  HStN 5 v5_3 v25_3 w_24 fun w_25 =>
  HLdN 5 v5_3 w_25 fun v26_3 =>
  HStN 5 v4 v26_3 w_25 fun w_26 =>
  HLdN 5 v4 w_26 fun r_4 =>
  R r_4 w_26))
theorem vc17 (v0 : Value) (v1 : Value) (w : World) (R : Value → World → Prop) (h : Vc17 v0 v1 w R) : HCall Try.prog 17 [v0, v1] w R :=
  funP_sound (JL := []) (JC := []) Tcall_ok mixed_ok Try.func17 (by kernel_rfl) (by kernel_rfl)
    (((by kernel_rfl : funP Try.prog Tcall [] [] Try.f17 [v0, v1] w R = Vc17 v0 v1 w R)).mpr h)

-- guard.Replica.Put
def Vc18 (v0 : Value) (v1 : Value) (w : World) (R : Value → World → Prop) : Prop :=
  HLenS v1 fun v9 =>
  ∃ (I : List Value → World → Prop) (μ : List Value → World → Nat), I [(.int .i64 0), (.int .i64 0)] w ∧
  ∀ (v5 : Value) (v10 : Value) w_1, I [v5, v10] w_1 →
  HBin .lss v10 v9 fun v11 =>
  HIf v11
  (HIdx 5 v1 v10 fun v12 =>
  HLdN 5 v12 w_1 fun v13 =>
  HNew [.int .i64 0, .int .i64 0, .int .i64 0, .bool false, .string ⟨#[]⟩] 32 w_1 fun v7 w_2 =>
  HStN 5 v7 v13 w_2 fun w_3 =>
  HDraw w_3 fun w_4 =>
  HNil v0 fun v15 =>
  HFld 0 v15 fun v16 =>
  HLd v16 w_4 fun v17 =>
  HLdN 5 v7 w_4 fun v18 =>
  HCall Try.prog 55 [v17, v18] w_4 fun v19 w_5 =>
  HIf v19
  (HBin .add v5 (.int .i64 1) fun v21 =>
  HBin .add v10 (.int .i64 1) fun v22 =>
  I [v21, v22] w_5 ∧ μ [v21, v22] w_5 < μ [v5, v10] w_1)
  (HBin .add v10 (.int .i64 1) fun v22_1 =>
  I [v5, v22_1] w_5 ∧ μ [v5, v22_1] w_5 < μ [v5, v10] w_1))
  (R v5 w_1)
theorem vc18 (v0 : Value) (v1 : Value) (w : World) (R : Value → World → Prop) (h : Vc18 v0 v1 w R) : HCall Try.prog 18 [v0, v1] w R :=
  funP_sound (JL := [(3, [5, 10], [0, 8, 9])]) (JC := []) Tcall_ok mixed_ok Try.func18 (by kernel_rfl) (by kernel_rfl)
    (((by kernel_rfl : funP Try.prog Tcall [(3, [5, 10], [0, 8, 9])] [] Try.f18 [v0, v1] w R = Vc18 v0 v1 w R)).mpr h)

-- qanatref13.Replica.Put
def Vc19 (v0 : Value) (v1 : Value) (w : World) (R : Value → World → Prop) : Prop :=
  ∃ (I : List Value → World → Prop) (μ : List Value → World → Nat), I [(.int .i64 0), (.int .i64 0)] w ∧
  ∀ (v5 : Value) (v6 : Value) w_1, I [v5, v6] w_1 →
  HLenS v1 fun v15 =>
  HBin .lss v6 v15 fun v16 =>
  HIf v16
  (HIdx 5 v1 v6 fun v21 =>
  HLdN 5 v21 w_1 fun v22 =>
  HNew [.int .i64 0, .int .i64 0, .int .i64 0, .bool false, .string ⟨#[]⟩] 32 w_1 fun v7 w_2 =>
  HStN 5 v7 v22 w_2 fun w_3 =>
  HDraw w_3 fun w_4 =>
  HFld 1 v7 fun v23 =>
  HLd v23 w_4 fun v24 =>
  HBin .lss v24 (.int .i64 0) fun v25 =>
  HIf v25
  (HBin .add v6 (.int .i64 1) fun v18 =>
  I [v5, v18] w_4 ∧ μ [v5, v18] w_4 < μ [v5, v6] w_1)
  (HFld 1 v7 fun v27 =>
  HLd v27 w_4 fun v28 =>
  HNil v0 fun v30 =>
  HFld 0 v30 fun v31 =>
  HLd v31 w_4 fun v32 =>
  HLenS v32 fun v33 =>
  HBin .geq v28 v33 fun v34 =>
  HIf v34
  (HBin .add v6 (.int .i64 1) fun v18_1 =>
  I [v5, v18_1] w_4 ∧ μ [v5, v18_1] w_4 < μ [v5, v6] w_1)
  (HDraw w_4 fun w_5 =>
  HNil v0 fun v37 =>
  HFld 0 v37 fun v38 =>
  HLd v38 w_5 fun v39 =>
  HFld 1 v7 fun v40 =>
  HLd v40 w_5 fun v41 =>
  HIdx 1 v39 v41 fun v42 =>
  HLd v42 w_5 fun v43 =>
  ∃ I_1 : List Value → World → Prop, (∃ (I_2 : List Value → World → Prop) (μ_1 : List Value → World → Nat), I_2 [(.int .i64 0)] w_5 ∧
  ∀ (v9 : Value) w_6, I_2 [v9] w_6 →
  HDraw w_6 fun w_7 =>
  HLenS v43 fun v46 =>
  HBin .lss v9 v46 fun v47 =>
  HIf v47
  (HIdx 4 v43 v9 fun v51 =>
  HFld 0 v51 fun v52 =>
  HLd v52 w_7 fun v53 =>
  HFld 2 v7 fun v54 =>
  HLd v54 w_7 fun v55 =>
  HBin .lss v53 v55 fun v56 =>
  HIf v56
  (HBin .add v9 (.int .i64 1) fun v59 =>
  I_2 [v59] w_7 ∧ μ_1 [v59] w_7 < μ_1 [v9] w_6)
  (I_1 [v9] w_7))
  (I_1 [v9] w_7)) ∧
  ∀ (v9_1 : Value) w_8, I_1 [v9_1] w_8 →
  ∃ I_3 : List Value → World → Prop, (HDraw w_8 fun w_9 =>
  HLenS v43 fun v62 =>
  HBin .lss v9_1 v62 fun v63 =>
  HIf v63
  (HIdx 4 v43 v9_1 fun v67 =>
  HFld 0 v67 fun v68 =>
  HLd v68 w_9 fun v69 =>
  HFld 2 v7 fun v70 =>
  HLd v70 w_9 fun v71 =>
  HBin .eql v69 v71 fun v72 =>
  I_3 [v72] w_9)
  (I_3 [(.bool false)] w_9)) ∧
  ∀ (v10 : Value) w_10, I_3 [v10] w_10 →
  ∃ I_4 : List Value → World → Prop, (HDraw w_10 fun w_11 =>
  HIf v10
  (HIdx 4 v43 v9_1 fun v78 =>
  HFld 1 v78 fun v79 =>
  HLd v79 w_11 fun v80 =>
  HFld 0 v7 fun v81 =>
  HLd v81 w_11 fun v82 =>
  HBin .gtr v80 v82 fun v83 =>
  HIf v83
  (HBin .add v6 (.int .i64 1) fun v18_2 =>
  I [v5, v18_2] w_11 ∧ μ [v5, v18_2] w_11 < μ [v5, v6] w_1)
  (I_4 [] w_11))
  (I_4 [] w_11)) ∧
  ∀ w_12, I_4 [] w_12 →
  HFld 2 v7 fun v85 =>
  HLd v85 w_12 fun v86 =>
  HFld 0 v7 fun v87 =>
  HLd v87 w_12 fun v88 =>
  HFld 3 v7 fun v89 =>
  HLd v89 w_12 fun v90 =>
  HFld 4 v7 fun v91 =>
  HLd v91 w_12 fun v92 =>
  HBld [.int .i64 0, .int .i64 0, .bool false, .string ⟨#[]⟩] [(0, 1, v86), (1, 1, v88), (2, 1, v90), (3, 1, v92)] fun v93 =>
  HNew [.int .i64 0, .int .i64 0, .bool false, .string ⟨#[]⟩] 38 w_12 fun v11 w_13 =>
  HStN 4 v11 v93 w_13 fun w_14 =>
  ∃ I_5 : List Value → World → Prop, (HFld 3 v7 fun v94 =>
  HLd v94 w_14 fun v95 =>
  HIf v95
  (HFld 3 v11 fun v96 =>
  HSt v96 (.string { data := #[] }) w_14 fun w_15 =>
  I_5 [] w_15)
  (I_5 [] w_14)) ∧
  ∀ w_16, I_5 [] w_16 →
  ∃ I_6 : List Value → World → Prop, (HDraw w_16 fun w_17 =>
  HSl 4 v43 none (some v9_1) none fun v100 =>
  HLdN 4 v11 w_17 fun v102 =>
  (HBldS (zrow [.int .i64 0, .int .i64 0, .bool false, .string ⟨#[]⟩] 0) [] 38 0 w_17 fun v97 w_18 =>
  HLdN 4 v11 w_18 fun v102_1 =>
  v102_1 = v102 ∧
  (HApp 4 40 [.int .i64 0, .int .i64 0, .bool false, .string ⟨#[]⟩] 38 v97 v100 w_18 fun v101 w_19 =>
  HLdN 4 v11 w_19 fun v102_2 =>
  v102_2 = v102 ∧
  HBldS (zrow [.int .i64 0, .int .i64 0, .bool false, .string ⟨#[]⟩] 1) [(0, 4, v102)] 38 1 w_19 fun v103 w_20 =>
  HApp 4 40 [.int .i64 0, .int .i64 0, .bool false, .string ⟨#[]⟩] 38 v101 v103 w_20 fun v104 w_21 =>
  I_6 [v104] w_21) ∧
  (HBldS (zrow [.int .i64 0, .int .i64 0, .bool false, .string ⟨#[]⟩] 1) [(0, 4, v102)] 38 1 w_18 fun v103_1 w_22 =>
  HApp 4 40 [.int .i64 0, .int .i64 0, .bool false, .string ⟨#[]⟩] 38 v97 v100 w_22 fun v101_1 w_23 =>
  HApp 4 40 [.int .i64 0, .int .i64 0, .bool false, .string ⟨#[]⟩] 38 v101_1 v103_1 w_23 fun v104_1 w_24 =>
  I_6 [v104_1] w_24)) ∧
  (HBldS (zrow [.int .i64 0, .int .i64 0, .bool false, .string ⟨#[]⟩] 1) [(0, 4, v102)] 38 1 w_17 fun v103_2 w_25 =>
  HBldS (zrow [.int .i64 0, .int .i64 0, .bool false, .string ⟨#[]⟩] 0) [] 38 0 w_25 fun v97_1 w_26 =>
  HApp 4 40 [.int .i64 0, .int .i64 0, .bool false, .string ⟨#[]⟩] 38 v97_1 v100 w_26 fun v101_2 w_27 =>
  HApp 4 40 [.int .i64 0, .int .i64 0, .bool false, .string ⟨#[]⟩] 38 v101_2 v103_2 w_27 fun v104_2 w_28 =>
  I_6 [v104_2] w_28)) ∧
  ∀ (v12 : Value) w_29, I_6 [v12] w_29 →
  ∃ I_7 : List Value → World → Prop, (HIf v10
  (HBin .add v9_1 (.int .i64 1) fun v107 =>
  I_7 [v107] w_29)
  (I_7 [v9_1] w_29)) ∧
  ∀ (v9_2 : Value) w_30, I_7 [v9_2] w_30 →
  HDraw w_30 fun w_31 =>
  HNil v0 fun v109 =>
  HFld 0 v109 fun v110 =>
  HLd v110 w_31 fun v111 =>
  HFld 1 v7 fun v112 =>
  HLd v112 w_31 fun v113 =>
  HSl 4 v43 (some v9_2) none none fun v117 =>
  HApp 4 40 [.int .i64 0, .int .i64 0, .bool false, .string ⟨#[]⟩] 38 v12 v117 w_31 fun v118 w_32 =>
  HLd v110 w_32 fun v111_1 =>
  v111_1 = v111 ∧
  HLd v112 w_32 fun v113_1 =>
  v113_1 = v113 ∧
  HIdx 1 v111 v113 fun v119 =>
  HSt v119 v118 w_32 fun w_33 =>
  HBin .add v5 (.int .i64 1) fun v121 =>
  HBin .add v6 (.int .i64 1) fun v18_3 =>
  I [v121, v18_3] w_33 ∧ μ [v121, v18_3] w_33 < μ [v5, v6] w_1)))
  (R v5 w_1)
theorem vc19 (v0 : Value) (v1 : Value) (w : World) (R : Value → World → Prop) (h : Vc19 v0 v1 w R) : HCall Try.prog 19 [v0, v1] w R :=
  funP_sound (JL := [(3, [5, 6], [0, 1]), (9, [9], [0, 1, 5, 6, 7, 8])]) (JC := [(11, [9], [0, 1, 5, 6, 7, 8]), (12, [10], [0, 1, 5, 6, 7, 8, 9]), (13, [], [0, 1, 5, 6, 7, 8, 9, 10]), (16, [], [0, 1, 5, 6, 7, 8, 9, 10, 11]), (17, [12], [0, 1, 5, 6, 7, 8, 9, 10]), (19, [9], [0, 1, 5, 6, 7, 8, 12])]) Tcall_ok mixed_ok Try.func19 (by kernel_rfl) (by kernel_rfl)
    (((by kernel_rfl : funP Try.prog Tcall [(3, [5, 6], [0, 1]), (9, [9], [0, 1, 5, 6, 7, 8])] [(11, [9], [0, 1, 5, 6, 7, 8]), (12, [10], [0, 1, 5, 6, 7, 8, 9]), (13, [], [0, 1, 5, 6, 7, 8, 9, 10]), (16, [], [0, 1, 5, 6, 7, 8, 9, 10, 11]), (17, [12], [0, 1, 5, 6, 7, 8, 9, 10]), (19, [9], [0, 1, 5, 6, 7, 8, 12])] Try.f19 [v0, v1] w R = Vc19 v0 v1 w R)).mpr h)

-- qanathelp.Plain[api.Cell]
def Vc20 (v0 : Value) (v1 : Value) (w : World) (R : Value → World → Prop) : Prop :=
  HCall Try.prog 56 [v0, v1, (.func (.func 57) #[] #[])] w fun v7 w_1 =>
  R v7 w_1
theorem vc20 (v0 : Value) (v1 : Value) (w : World) (R : Value → World → Prop) (h : Vc20 v0 v1 w R) : HCall Try.prog 20 [v0, v1] w R :=
  funP_sound (JL := []) (JC := []) Tcall_ok mixed_ok Try.func20 (by kernel_rfl) (by kernel_rfl)
    (((by kernel_rfl : funP Try.prog Tcall [] [] Try.f20 [v0, v1] w R = Vc20 v0 v1 w R)).mpr h)

-- guard.Replica.Cells
def Vc21 (v0 : Value) (v1 : Value) (w : World) (R : Value → World → Prop) : Prop :=
  HNil v0 fun v9 =>
  HFld 0 v9 fun v10 =>
  HLd v10 w fun v11 =>
  HCall Try.prog 58 [v11, v1] w fun v13 w_1 =>
  HNot v13 fun v14 =>
  HIf v14
  (R (.slice Option.none 0 0) w_1)
  (HNil v0 fun v16 =>
  HFld 0 v16 fun v17 =>
  HLd v17 w_1 fun v18 =>
  HIdx 1 v18 v1 fun v20 =>
  HLd v20 w_1 fun v21 =>
  HCall Try.prog 60 [v21] w_1 fun v22 w_2 =>
  HCall Try.prog 59 [v22] w_2 fun v23 w_3 =>
  HLenS v23 fun v24 =>
  ∃ (I : List Value → World → Prop) (μ : List Value → World → Nat), I [(.slice Option.none 0 0), (.int .i64 0)] w_3 ∧
  ∀ (v5 : Value) (v25 : Value) w_4, I [v5, v25] w_4 →
  HBin .lss v25 v24 fun v26 =>
  HIf v26
  (HIdx 1 v23 v25 fun v27 =>
  HLd v27 w_4 fun v28 =>
  HNil v0 fun v31 =>
  HFld 0 v31 fun v32 =>
  HLd v32 w_4 fun v33 =>
  HIdx 1 v33 v1 fun v35 =>
  HLd v35 w_4 fun v36 =>
  HRq Try.prog (Instr.lookup 100 v36 v28 false) w_4 fun v38 =>
  HBldS (zrow [.int .i64 0, .int .i64 0, .bool false, .string ⟨#[]⟩] 1) [(0, 4, v38)] 38 1 w_4 fun v39 w_5 =>
  HApp 4 40 [.int .i64 0, .int .i64 0, .bool false, .string ⟨#[]⟩] 38 v5 v39 w_5 fun v40 w_6 =>
  HBin .add v25 (.int .i64 1) fun v41 =>
  I [v40, v41] w_6 ∧ μ [v40, v41] w_6 < μ [v5, v25] w_4)
  (R v5 w_4))
theorem vc21 (v0 : Value) (v1 : Value) (w : World) (R : Value → World → Prop) (h : Vc21 v0 v1 w R) : HCall Try.prog 21 [v0, v1] w R :=
  funP_sound (JL := [(5, [5, 25], [0, 1, 23, 24])]) (JC := []) Tcall_ok mixed_ok Try.func21 (by kernel_rfl) (by kernel_rfl)
    (((by kernel_rfl : funP Try.prog Tcall [(5, [5, 25], [0, 1, 23, 24])] [] Try.f21 [v0, v1] w R = Vc21 v0 v1 w R)).mpr h)

-- qanatref13.Replica.Cells
def Vc22 (v0 : Value) (v1 : Value) (w : World) (R : Value → World → Prop) : Prop :=
  HBin .lss v1 (.int .i64 0) fun v6 =>
  HIf v6
  (R (.slice Option.none 0 0) w)
  (HNil v0 fun v10 =>
  HFld 0 v10 fun v11 =>
  HLd v11 w fun v12 =>
  HLenS v12 fun v13 =>
  HBin .geq v1 v13 fun v14 =>
  HIf v14
  (R (.slice Option.none 0 0) w)
  (HBldS (zrow [.int .i64 0, .int .i64 0, .bool false, .string ⟨#[]⟩] 0) [] 38 0 w fun v16 w_1 =>
  HNil v0 fun v18 =>
  HFld 0 v18 fun v19 =>
  HLd v19 w_1 fun v20 =>
  HIdx 1 v20 v1 fun v22 =>
  HLd v22 w_1 fun v23 =>
  HApp 4 40 [.int .i64 0, .int .i64 0, .bool false, .string ⟨#[]⟩] 38 v16 v23 w_1 fun v24 w_2 =>
  R v24 w_2))
theorem vc22 (v0 : Value) (v1 : Value) (w : World) (R : Value → World → Prop) (h : Vc22 v0 v1 w R) : HCall Try.prog 22 [v0, v1] w R :=
  funP_sound (JL := []) (JC := []) Tcall_ok mixed_ok Try.func22 (by kernel_rfl) (by kernel_rfl)
    (((by kernel_rfl : funP Try.prog Tcall [] [] Try.f22 [v0, v1] w R = Vc22 v0 v1 w R)).mpr h)

-- qanathelp.Plain[api.Row]
def Vc23 (v0 : Value) (v1 : Value) (w : World) (R : Value → World → Prop) : Prop :=
  HCall Try.prog 61 [v0, v1, (.func (.func 62) #[] #[])] w fun v7 w_1 =>
  R v7 w_1
theorem vc23 (v0 : Value) (v1 : Value) (w : World) (R : Value → World → Prop) (h : Vc23 v0 v1 w R) : HCall Try.prog 23 [v0, v1] w R :=
  funP_sound (JL := []) (JC := []) Tcall_ok mixed_ok Try.func23 (by kernel_rfl) (by kernel_rfl)
    (((by kernel_rfl : funP Try.prog Tcall [] [] Try.f23 [v0, v1] w R = Vc23 v0 v1 w R)).mpr h)

-- guard.Replica.Rows
def Vc24 (v0 : Value) (v1 : Value) (w : World) (R : Value → World → Prop) : Prop :=
  HCall Try.prog 21 [v0, v1] w fun v10 w_1 =>
  HLenS v10 fun v11 =>
  ∃ (I : List Value → World → Prop) (μ : List Value → World → Nat), I [(.slice Option.none 0 0), (.int .i64 0)] w_1 ∧
  ∀ (v5 : Value) (v12 : Value) w_2, I [v5, v12] w_2 →
  HBin .lss v12 v11 fun v13 =>
  HIf v13
  (HIdx 4 v10 v12 fun v14 =>
  HLdN 4 v14 w_2 fun v15 =>
  HNew [.int .i64 0, .int .i64 0, .bool false, .string ⟨#[]⟩] 38 w_2 fun v7 w_3 =>
  HStN 4 v7 v15 w_3 fun w_4 =>
  HFld 2 v7 fun v16 =>
  HLd v16 w_4 fun v17 =>
  HNot v17 fun v18 =>
  HIf v18
  (HFld 0 v7 fun v20 =>
  HLd v20 w_4 fun v21 =>
  HFld 3 v7 fun v22 =>
  HLd v22 w_4 fun v23 =>
  HBld [.int .i64 0, .string ⟨#[]⟩] [(0, 1, v21), (1, 1, v23)] fun v24 =>
  HBldS (zrow [.int .i64 0, .string ⟨#[]⟩] 1) [(0, 2, v24)] 43 1 w_4 fun v25 w_5 =>
  HApp 2 24 [.int .i64 0, .string ⟨#[]⟩] 43 v5 v25 w_5 fun v26 w_6 =>
  HBin .add v12 (.int .i64 1) fun v27 =>
  I [v26, v27] w_6 ∧ μ [v26, v27] w_6 < μ [v5, v12] w_2)
  (HBin .add v12 (.int .i64 1) fun v27_1 =>
  I [v5, v27_1] w_4 ∧ μ [v5, v27_1] w_4 < μ [v5, v12] w_2))
  (R v5 w_2)
theorem vc24 (v0 : Value) (v1 : Value) (w : World) (R : Value → World → Prop) (h : Vc24 v0 v1 w R) : HCall Try.prog 24 [v0, v1] w R :=
  funP_sound (JL := [(3, [5, 12], [10, 11])]) (JC := []) Tcall_ok mixed_ok Try.func24 (by kernel_rfl) (by kernel_rfl)
    (((by kernel_rfl : funP Try.prog Tcall [(3, [5, 12], [10, 11])] [] Try.f24 [v0, v1] w R = Vc24 v0 v1 w R)).mpr h)

-- qanatref13.Replica.Rows
def Vc25 (v0 : Value) (v1 : Value) (w : World) (R : Value → World → Prop) : Prop :=
  HCall Try.prog 22 [v0, v1] w fun v10 w_1 =>
  ∃ (I : List Value → World → Prop) (μ : List Value → World → Nat), I [(.slice Option.none 0 0), (.int .i64 0)] w_1 ∧
  ∀ (v5 : Value) (v7 : Value) w_2, I [v5, v7] w_2 →
  HLenS v10 fun v13 =>
  HBin .lss v7 v13 fun v14 =>
  HIf v14
  (HIdx 4 v10 v7 fun v19 =>
  HFld 2 v19 fun v20 =>
  HLd v20 w_2 fun v21 =>
  HNot v21 fun v22 =>
  HIf v22
  (HDraw w_2 fun w_3 =>
  HIdx 4 v10 v7 fun v26 =>
  HFld 0 v26 fun v27 =>
  HLd v27 w_3 fun v28 =>
  HIdx 4 v10 v7 fun v31 =>
  HFld 3 v31 fun v32 =>
  HLd v32 w_3 fun v33 =>
  HBld [.int .i64 0, .string ⟨#[]⟩] [(0, 1, v28), (1, 1, v33)] fun v34 =>
  HBldS (zrow [.int .i64 0, .string ⟨#[]⟩] 1) [(0, 2, v34)] 43 1 w_3 fun v35 w_4 =>
  HApp 2 24 [.int .i64 0, .string ⟨#[]⟩] 43 v5 v35 w_4 fun v36 w_5 =>
  HBin .add v7 (.int .i64 1) fun v16 =>
  I [v36, v16] w_5 ∧ μ [v36, v16] w_5 < μ [v5, v7] w_2)
  (HBin .add v7 (.int .i64 1) fun v16_1 =>
  I [v5, v16_1] w_2 ∧ μ [v5, v16_1] w_2 < μ [v5, v7] w_2))
  (R v5 w_2)
theorem vc25 (v0 : Value) (v1 : Value) (w : World) (R : Value → World → Prop) (h : Vc25 v0 v1 w R) : HCall Try.prog 25 [v0, v1] w R :=
  funP_sound (JL := [(4, [5, 7], [6])]) (JC := []) Tcall_ok mixed_ok Try.func25 (by kernel_rfl) (by kernel_rfl)
    (((by kernel_rfl : funP Try.prog Tcall [(4, [5, 7], [6])] [] Try.f25 [v0, v1] w R = Vc25 v0 v1 w R)).mpr h)

-- qanatlaw15.awake
def Vc26 (w : World) (R : Value → World → Prop) : Prop :=
  HCall Try.prog 15 [(.int .i64 1)] w fun v7 w_1 =>
  HExt 0 v7 fun v8 =>
  HExt 1 v7 fun v9 =>
  HCall Try.prog 15 [(.int .i64 9)] w_1 fun v11 w_2 =>
  HExt 0 v11 fun v12 =>
  HExt 1 v11 fun v13 =>
  HBin .neq v9 (.int .i64 0) fun v15 =>
  HIf v15
  (R (.bool false) w_2)
  (HEq (.pointer 99) false v8 (.pointer Option.none) fun v18 =>
  HIf v18
  (R (.bool false) w_2)
  (HBin .neq v13 (.int .i64 1) fun v22 =>
  HIf v22
  (R (.bool false) w_2)
  (HBld [.int .i64 0, .int .i64 0, .int .i64 0, .bool false, .string ⟨#[]⟩] [(0, 1, (.int .i64 5)), (2, 1, (.int .i64 1)), (4, 1, (.string { data := #[97] }))] fun v25 =>
  HBld [.int .i64 0, .int .i64 0, .int .i64 0, .bool false, .string ⟨#[]⟩] [(0, 1, (.int .i64 4)), (2, 1, (.int .i64 1)), (3, 1, (.bool true))] fun v26 =>
  HBldS (zrow [.int .i64 0, .int .i64 0, .int .i64 0, .bool false, .string ⟨#[]⟩] 2) [(0, 5, v25), (5, 5, v26)] 32 2 w_2 fun v27 w_3 =>
  HCall Try.prog 18 [v8, v27] w_3 fun v28 w_4 =>
  HBin .eql v28 (.int .i64 1) fun v30 =>
  HIf v30
  (HCall Try.prog 24 [v8, (.int .i64 0)] w_4 fun v33 w_5 =>
  HBld [.int .i64 0, .string ⟨#[]⟩] [(0, 1, (.int .i64 1)), (1, 1, (.string { data := #[97] }))] fun v34 =>
  HBldS (zrow [.int .i64 0, .string ⟨#[]⟩] 1) [(0, 2, v34)] 43 1 w_5 fun v35 w_6 =>
  HCall Try.prog 23 [v33, v35] w_6 fun v36 w_7 =>
  HIf v36
  (HCall Try.prog 21 [v8, (.int .i64 0)] w_7 fun v40 w_8 =>
  HLenS v40 fun v41 =>
  HBin .eql v41 (.int .i64 1) fun v42 =>
  HIf v42
  (HCall Try.prog 27 [v8] w_8 fun v46 w_9 =>
  HBin .eql v46 (.int .i64 1) fun v47 =>
  R v47 w_9)
  (R (.bool false) w_8))
  (R (.bool false) w_7))
  (R (.bool false) w_4))))
theorem vc26 (w : World) (R : Value → World → Prop) (h : Vc26 w R) : HCall Try.prog 26 [] w R :=
  funP_sound (JL := []) (JC := []) Tcall_ok mixed_ok Try.func26 (by kernel_rfl) (by kernel_rfl)
    (((by kernel_rfl : funP Try.prog Tcall [] [] Try.f26 [] w R = Vc26 w R)).mpr h)

-- guard.Replica.Tables
def Vc27 (v0 : Value) (w : World) (R : Value → World → Prop) : Prop :=
  HNil v0 fun v4 =>
  HFld 0 v4 fun v5 =>
  HLd v5 w fun v6 =>
  HLenS v6 fun v7 =>
  R v7 w
theorem vc27 (v0 : Value) (w : World) (R : Value → World → Prop) (h : Vc27 v0 w R) : HCall Try.prog 27 [v0] w R :=
  funP_sound (JL := []) (JC := []) Tcall_ok mixed_ok Try.func27 (by kernel_rfl) (by kernel_rfl)
    (((by kernel_rfl : funP Try.prog Tcall [] [] Try.f27 [v0] w R = Vc27 v0 w R)).mpr h)

-- qanatplay.Big
def Vc28 (v0 : Value) (v1 : Value) (w : World) (R : Value → World → Prop) : Prop :=
  HCvI .u64 v0 fun v6 =>
  HCvI .u64 v1 fun v8 =>
  HBin .rem v6 v8 fun v9 =>
  HCvI .i64 v9 fun v10 =>
  R v10 w
theorem vc28 (v0 : Value) (v1 : Value) (w : World) (R : Value → World → Prop) (h : Vc28 v0 v1 w R) : HCall Try.prog 28 [v0, v1] w R :=
  funP_sound (JL := []) (JC := []) Tcall_ok mixed_ok Try.func28 (by kernel_rfl) (by kernel_rfl)
    (((by kernel_rfl : funP Try.prog Tcall [] [] Try.f28 [v0, v1] w R = Vc28 v0 v1 w R)).mpr h)

-- guard.tables.put
def Vc55 (v0 : Value) (v1 : Value) (w : World) (R : Value → World → Prop) : Prop :=
  ∃ cs : List Value, v1 = .agg cs.toArray ∧ HNew cs 32 w fun v3 w_1 =>
  HFld 1 v3 fun v9 =>
  HLd v9 w_1 fun v10 =>
  HCall Try.prog 58 [v0, v10] w_1 fun v11 w_2 =>
  HNot v11 fun v12 =>
  HIf v12
  (R (.bool false) w_2)
  (∃ I : List Value → World → Prop, (HDraw w_2 fun w_3 =>
  HFld 1 v3 fun v15 =>
  HLd v15 w_3 fun v16 =>
  HIdx 1 v0 v16 fun v17 =>
  HLd v17 w_3 fun v18 =>
  HFld 2 v3 fun v19 =>
  HLd v19 w_3 fun v20 =>
  HRq Try.prog (Instr.lookup 100 v18 v20 true) w_3 fun v21 =>
  HExt 0 v21 fun v22 =>
  HExt 1 v21 fun v23 =>
  HNew [.int .i64 0, .int .i64 0, .bool false, .string ⟨#[]⟩] 38 w_3 fun v5 w_4 =>
  HLd v15 w_4 fun v16_1 =>
  v16_1 = v16 ∧
  HLd v17 w_4 fun v18_1 =>
  v18_1 = v18 ∧
  HLd v19 w_4 fun v20_1 =>
  v20_1 = v20 ∧
  HRq Try.prog (Instr.lookup 100 v18 v20 true) w_4 fun v21_1 =>
  v21_1 = v21 ∧
  HStN 4 v5 v22 w_4 fun w_5 =>
  HIf v23
  (HFld 1 v5 fun v26 =>
  HLd v26 w_5 fun v27 =>
  HFld 0 v3 fun v28 =>
  HLd v28 w_5 fun v29 =>
  HBin .gtr v27 v29 fun v30 =>
  HIf v30
  (R (.bool false) w_5)
  (I [] w_5))
  (I [] w_5)) ∧
  ∀ w_6, I [] w_6 →
  HFld 2 v3 fun v32 =>
  HLd v32 w_6 fun v33 =>
  HFld 0 v3 fun v34 =>
  HLd v34 w_6 fun v35 =>
  HFld 3 v3 fun v36 =>
  HLd v36 w_6 fun v37 =>
  HFld 4 v3 fun v38 =>
  HLd v38 w_6 fun v39 =>
  HBld [.int .i64 0, .int .i64 0, .bool false, .string ⟨#[]⟩] [(0, 1, v33), (1, 1, v35), (2, 1, v37), (3, 1, v39)] fun v40 =>
  HNew [.int .i64 0, .int .i64 0, .bool false, .string ⟨#[]⟩] 38 w_6 fun v7 w_7 =>
  HStN 4 v7 v40 w_7 fun w_8 =>
  ∃ I_1 : List Value → World → Prop, (HFld 3 v3 fun v41 =>
  HLd v41 w_8 fun v42 =>
  HIf v42
  (HFld 3 v7 fun v43 =>
  HSt v43 (.string { data := #[] }) w_8 fun w_9 =>
  I_1 [] w_9)
  (I_1 [] w_8)) ∧
  ∀ w_10, I_1 [] w_10 →
  HDraw w_10 fun w_11 =>
  HFld 1 v3 fun v45 =>
  HLd v45 w_11 fun v46 =>
  HIdx 1 v0 v46 fun v47 =>
  HLd v47 w_11 fun v48 =>
  HFld 2 v3 fun v49 =>
  HLd v49 w_11 fun v50 =>
  HLdN 4 v7 w_11 fun v51 =>
  HRun Try.prog (do Instr.mapUpdate 100 v48 v50 v51; pure undef) w_11 fun u w_12 =>
  R (.bool true) w_12)
theorem vc55 (v0 : Value) (v1 : Value) (w : World) (R : Value → World → Prop) (h : Vc55 v0 v1 w R) : HCall Try.prog 55 [v0, v1] w R :=
  funP_sound (JL := []) (JC := [(6, [], [0, 3]), (9, [], [0, 3, 7])]) Tcall_ok mixed_ok Try.func55 (by kernel_rfl) (by kernel_rfl)
    (((by kernel_rfl : funP Try.prog Tcall [] [(6, [], [0, 3]), (9, [], [0, 3, 7])] Try.f55 [v0, v1] w R = Vc55 v0 v1 w R)).mpr h)

-- qanathelp.Same[api.Cell]
def Vc56 (v0 : Value) (v1 : Value) (v2 : Value) (w : World) (R : Value → World → Prop) : Prop :=
  HLenS v0 fun v9 =>
  HLenS v1 fun v11 =>
  HBin .neq v9 v11 fun v12 =>
  HIf v12
  (R (.bool false) w)
  (∃ (I : List Value → World → Prop) (μ : List Value → World → Nat), I [(.int .i64 0)] w ∧
  ∀ (v7 : Value) w_1, I [v7] w_1 →
  HLenS v0 fun v15 =>
  HBin .lss v7 v15 fun v16 =>
  HIf v16
  (HDraw w_1 fun w_2 =>
  HIdx 4 v0 v7 fun v22 =>
  HLdN 4 v22 w_2 fun v23 =>
  HIdx 4 v1 v7 fun v26 =>
  HLdN 4 v26 w_2 fun v27 =>
  HCallV Try.prog Tcall v2 [v23, v27] w_2 fun v28 w_3 =>
  HNot v28 fun v29 =>
  HIf v29
  (R (.bool false) w_3)
  (HBin .add v7 (.int .i64 1) fun v18 =>
  I [v18] w_3 ∧ μ [v18] w_3 < μ [v7] w_1))
  (R (.bool true) w_1))
theorem vc56 (v0 : Value) (v1 : Value) (v2 : Value) (w : World) (R : Value → World → Prop) (h : Vc56 v0 v1 v2 w R) : HCall Try.prog 56 [v0, v1, v2] w R :=
  funP_sound (JL := [(4, [7], [0, 1, 2])]) (JC := []) Tcall_ok mixed_ok Try.func56 (by kernel_rfl) (by kernel_rfl)
    (((by kernel_rfl : funP Try.prog Tcall [(4, [7], [0, 1, 2])] [] Try.f56 [v0, v1, v2] w R = Vc56 v0 v1 v2 w R)).mpr h)

-- qanathelp.Plain[api.Cell]$1
def Vc57 (v0 : Value) (v1 : Value) (w : World) (R : Value → World → Prop) : Prop :=
  ∃ cs : List Value, v0 = .agg cs.toArray ∧ HNew cs 38 w fun v2 w_1 =>
  ∃ cs_1 : List Value, v1 = .agg cs_1.toArray ∧ HNew cs_1 38 w_1 fun v3 w_2 =>
  HLdN 4 v2 w_2 fun v5 =>
  HLdN 4 v3 w_2 fun v6 =>
  HEqG Try.prog 38 false v5 v6 w_2 fun v7 =>
  R v7 w_2
theorem vc57 (v0 : Value) (v1 : Value) (w : World) (R : Value → World → Prop) (h : Vc57 v0 v1 w R) : HCall Try.prog 57 [v0, v1] w R :=
  funP_sound (JL := []) (JC := []) Tcall_ok mixed_ok Try.func57 (by kernel_rfl) (by kernel_rfl)
    (((by kernel_rfl : funP Try.prog Tcall [] [] Try.f57 [v0, v1] w R = Vc57 v0 v1 w R)).mpr h)

-- guard.tables.has
def Vc58 (v0 : Value) (v1 : Value) (w : World) (R : Value → World → Prop) : Prop :=
  HBin .geq v1 (.int .i64 0) fun v6 =>
  HIf v6
  (HLenS v0 fun v10 =>
  HBin .lss v1 v10 fun v11 =>
  R v11 w)
  (R (.bool false) w)
theorem vc58 (v0 : Value) (v1 : Value) (w : World) (R : Value → World → Prop) (h : Vc58 v0 v1 w R) : HCall Try.prog 58 [v0, v1] w R :=
  funP_sound (JL := []) (JC := []) Tcall_ok mixed_ok Try.func58 (by kernel_rfl) (by kernel_rfl)
    (((by kernel_rfl : funP Try.prog Tcall [] [] Try.f58 [v0, v1] w R = Vc58 v0 v1 w R)).mpr h)

-- qanathelp.Same[api.Row]
def Vc61 (v0 : Value) (v1 : Value) (v2 : Value) (w : World) (R : Value → World → Prop) : Prop :=
  HLenS v0 fun v9 =>
  HLenS v1 fun v11 =>
  HBin .neq v9 v11 fun v12 =>
  HIf v12
  (R (.bool false) w)
  (∃ (I : List Value → World → Prop) (μ : List Value → World → Nat), I [(.int .i64 0)] w ∧
  ∀ (v7 : Value) w_1, I [v7] w_1 →
  HLenS v0 fun v15 =>
  HBin .lss v7 v15 fun v16 =>
  HIf v16
  (HDraw w_1 fun w_2 =>
  HIdx 2 v0 v7 fun v22 =>
  HLdN 2 v22 w_2 fun v23 =>
  HIdx 2 v1 v7 fun v26 =>
  HLdN 2 v26 w_2 fun v27 =>
  HCallV Try.prog Tcall v2 [v23, v27] w_2 fun v28 w_3 =>
  HNot v28 fun v29 =>
  HIf v29
  (R (.bool false) w_3)
  (HBin .add v7 (.int .i64 1) fun v18 =>
  I [v18] w_3 ∧ μ [v18] w_3 < μ [v7] w_1))
  (R (.bool true) w_1))
theorem vc61 (v0 : Value) (v1 : Value) (v2 : Value) (w : World) (R : Value → World → Prop) (h : Vc61 v0 v1 v2 w R) : HCall Try.prog 61 [v0, v1, v2] w R :=
  funP_sound (JL := [(4, [7], [0, 1, 2])]) (JC := []) Tcall_ok mixed_ok Try.func61 (by kernel_rfl) (by kernel_rfl)
    (((by kernel_rfl : funP Try.prog Tcall [(4, [7], [0, 1, 2])] [] Try.f61 [v0, v1, v2] w R = Vc61 v0 v1 v2 w R)).mpr h)

-- qanathelp.Plain[api.Row]$1
def Vc62 (v0 : Value) (v1 : Value) (w : World) (R : Value → World → Prop) : Prop :=
  ∃ cs : List Value, v0 = .agg cs.toArray ∧ HNew cs 43 w fun v2 w_1 =>
  ∃ cs_1 : List Value, v1 = .agg cs_1.toArray ∧ HNew cs_1 43 w_1 fun v3 w_2 =>
  HLdN 2 v2 w_2 fun v5 =>
  HLdN 2 v3 w_2 fun v6 =>
  HEqG Try.prog 43 false v5 v6 w_2 fun v7 =>
  R v7 w_2
theorem vc62 (v0 : Value) (v1 : Value) (w : World) (R : Value → World → Prop) (h : Vc62 v0 v1 w R) : HCall Try.prog 62 [v0, v1] w R :=
  funP_sound (JL := []) (JC := []) Tcall_ok mixed_ok Try.func62 (by kernel_rfl) (by kernel_rfl)
    (((by kernel_rfl : funP Try.prog Tcall [] [] Try.f62 [v0, v1] w R = Vc62 v0 v1 w R)).mpr h)

end Go.Proofs.Ytffogjfnmbgogaa
