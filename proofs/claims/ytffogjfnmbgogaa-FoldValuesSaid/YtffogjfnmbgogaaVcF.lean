/-
  What calls of functions ask, printed by a program of mine (gen.py) out of the functions' code; each is checked by the kernel.
-/
import Derived.Test.YtffogjfnmbgogaaTab
namespace Go.Proofs.Ytffogjfnmbgogaa
set_option linter.unusedVariables false
set_option maxRecDepth 100000
open Go.RowKit

-- qanatlaw11.FoldAll
def Vc7 (v0 : Value) (v1 : Value) (v2 : Value) (w : World) (R : Value → World → Prop) : Prop :=
  HCall Try.prog 29 [v1] w fun v10 w_1 =>
  HNot v10 fun v11 =>
  HIf v11
  (HCall Try.prog 30 [] w_1 fun v12 w_2 =>
  R v12 w_2)
  (HCall Try.prog 14 [v0, (.int .i64 10)] w_1 fun v14 w_3 =>
  HCall Try.prog 31 [v1, (.int .i64 8), (.int .i64 30)] w_3 fun v16 w_4 =>
  HCall Try.prog 30 [] w_4 fun v17 w_5 =>
  HIf v17
  (HCall Try.prog 33 [v0, v1, v2] w_5 fun v22 w_6 =>
  HCall Try.prog 34 [v0, v1, v2] w_6 fun v26 w_7 =>
  HCall Try.prog 32 [v22, v26] w_7 fun v27 w_8 =>
  HIf v27
  (HCall Try.prog 33 [v14, v16, v2] w_8 fun v33 w_9 =>
  HCall Try.prog 34 [v14, v16, v2] w_9 fun v37 w_10 =>
  HCall Try.prog 32 [v33, v37] w_10 fun v38 w_11 =>
  HIf v38
  (HCall Try.prog 14 [v2, (.int .i64 31)] w_11 fun v44 w_12 =>
  HCall Try.prog 33 [v14, v16, v44] w_12 fun v45 w_13 =>
  HCall Try.prog 14 [v2, (.int .i64 31)] w_13 fun v49 w_14 =>
  HCall Try.prog 34 [v14, v16, v49] w_14 fun v50 w_15 =>
  HCall Try.prog 32 [v45, v50] w_15 fun v51 w_16 =>
  R v51 w_16)
  (R (.bool false) w_11))
  (R (.bool false) w_8))
  (R (.bool false) w_5))
theorem vc7 (v0 : Value) (v1 : Value) (v2 : Value) (w : World) (R : Value → World → Prop) (h : Vc7 v0 v1 v2 w R) : HCall Try.prog 7 [v0, v1, v2] w R :=
  funP_sound (JL := []) (JC := []) Tcall_ok mixed_ok Try.func7 (by kernel_rfl) (by kernel_rfl)
    (((by kernel_rfl : funP Try.prog Tcall [] [] Try.f7 [v0, v1, v2] w R = Vc7 v0 v1 v2 w R)).mpr h)

-- qanatlaw11.FoldValues
def Vc8 (v0 : Value) (v1 : Value) (v2 : Value) (v3 : Value) (v4 : Value) (v5 : Value) (w : World) (R : Value → World → Prop) : Prop :=
  HCall Try.prog 29 [v0] w fun v31 w_1 =>
  HNot v31 fun v32 =>
  HIf v32
  (HCall Try.prog 30 [] w_1 fun v33 w_2 =>
  R v33 w_2)
  (HCall Try.prog 31 [v0, (.int .i64 3), (.int .i64 30)] w_1 fun v35 w_3 =>
  HLenS v35 fun v38 =>
  HBin .add v38 (.int .i64 2) fun v39 =>
  HCall Try.prog 14 [v1, v39] w_3 fun v40 w_4 =>
  HBin .sub v40 (.int .i64 1) fun v41 =>
  HLenS v35 fun v44 =>
  HBin .add v44 (.int .i64 2) fun v45 =>
  HCall Try.prog 14 [v2, v45] w_4 fun v46 w_5 =>
  HBin .sub v46 (.int .i64 1) fun v47 =>
  HCall Try.prog 28 [v4, (.int .i64 12)] w_5 fun v49 w_6 =>
  HBin .add (.int .i64 1) v49 fun v50 =>
  HCall Try.prog 14 [v3, (.int .i64 3)] w_6 fun v55 w_7 =>
  HCall Try.prog 35 [v35, v41, v55, v50] w_7 fun v57 w_8 =>
  HExt 0 v57 fun v58 =>
  HExt 1 v57 fun v59 =>
  HCall Try.prog 14 [v3, (.int .i64 3)] w_8 fun v64 w_9 =>
  HCall Try.prog 36 [v35, v41, v64, v50] w_9 fun v66 w_10 =>
  HExt 0 v66 fun v67 =>
  HExt 1 v66 fun v68 =>
  HCall Try.prog 35 [v0, v1, v3, v4] w_10 fun v74 w_11 =>
  HExt 0 v74 fun v75 =>
  HExt 1 v74 fun v76 =>
  HCall Try.prog 36 [v0, v1, v3, v4] w_11 fun v82 w_12 =>
  HExt 0 v82 fun v83 =>
  HExt 1 v82 fun v84 =>
  HBin .neq v58 v67 fun v87 =>
  HIf v87
  (R (.bool false) w_12)
  (HEq .bool true v59 v68 fun v91 =>
  HIf v91
  (R (.bool false) w_12)
  (HBin .neq v75 v83 fun v96 =>
  HIf v96
  (R (.bool false) w_12)
  (HEq .bool true v76 v84 fun v101 =>
  HIf v101
  (R (.bool false) w_12)
  (HCall Try.prog 14 [v3, (.int .i64 3)] w_12 fun v107 w_13 =>
  HCall Try.prog 36 [v35, v47, v107, v50] w_13 fun v109 w_14 =>
  HExt 0 v109 fun v110 =>
  HExt 1 v109 fun v111 =>
  HBldS (zrow [.string ⟨#[]⟩] 3) [(0, 1, v5), (1, 1, v110), (2, 1, v67)] 9 3 w_14 fun v115 w_15 =>
  HLenS v115 fun v116 =>
  ∃ (I : List Value → World → Prop) (μ : List Value → World → Nat), I [(.int .i64 0)] w_15 ∧
  ∀ (v117 : Value) w_16, I [v117] w_16 →
  HBin .lss v117 v116 fun v118 =>
  HIf v118
  (HIdx 1 v115 v117 fun v119 =>
  HLd v119 w_16 fun v120 =>
  HBld [.int .i64 0, .string ⟨#[]⟩] [(0, 1, v50), (1, 1, v120)] fun v123 =>
  HNew [.int .i64 0, .string ⟨#[]⟩] 43 w_16 fun v29 w_17 =>
  HStN 2 v29 v123 w_17 fun w_18 =>
  HDraw w_18 fun w_19 =>
  HLdN 2 v29 w_19 fun v129 =>
  HLdN 2 v29 w_19 fun v136 =>
  HCall Try.prog 14 [v3, (.int .i64 3)] w_19 fun v128 w_20 =>
  HLdN 2 v29 w_20 fun v129_1 =>
  v129_1 = v129 ∧
  HLdN 2 v29 w_20 fun v136_1 =>
  v136_1 = v136 ∧
  HCall Try.prog 37 [v35, v41, v47, v128, v129] w_20 fun v130 w_21 =>
  HLdN 2 v29 w_21 fun v136_2 =>
  v136_2 = v136 ∧
  HCall Try.prog 14 [v3, (.int .i64 3)] w_21 fun v135 w_22 =>
  HLdN 2 v29 w_22 fun v136_3 =>
  v136_3 = v136 ∧
  HCall Try.prog 38 [v35, v41, v47, v135, v136] w_22 fun v137 w_23 =>
  HEq .bool true v130 v137 fun v138 =>
  HIf v138
  (R (.bool false) w_23)
  (HBin .add v117 (.int .i64 1) fun v139 =>
  I [v139] w_23 ∧ μ [v139] w_23 < μ [v117] w_16))
  (HCall Try.prog 30 [] w_16 fun v140 w_24 =>
  HIf v140
  (HBld [.int .i64 0, .string ⟨#[]⟩] [(0, 1, v4), (1, 1, v5)] fun v148 =>
  HCall Try.prog 37 [v0, v1, v2, v3, v148] w_24 fun v149 w_25 =>
  HBld [.int .i64 0, .string ⟨#[]⟩] [(0, 1, v4), (1, 1, v5)] fun v156 =>
  HCall Try.prog 38 [v0, v1, v2, v3, v156] w_25 fun v157 w_26 =>
  HEq .bool false v149 v157 fun v158 =>
  R v158 w_26)
  (R (.bool false) w_24)))))))
theorem vc8 (v0 : Value) (v1 : Value) (v2 : Value) (v3 : Value) (v4 : Value) (v5 : Value) (w : World) (R : Value → World → Prop) (h : Vc8 v0 v1 v2 v3 v4 v5 w R) : HCall Try.prog 8 [v0, v1, v2, v3, v4, v5] w R :=
  funP_sound (JL := [(14, [117], [0, 1, 2, 3, 4, 5, 13, 14, 15, 16, 115, 116])]) (JC := []) Tcall_ok mixed_ok Try.func8 (by kernel_rfl) (by kernel_rfl)
    (((by kernel_rfl : funP Try.prog Tcall [(14, [117], [0, 1, 2, 3, 4, 5, 13, 14, 15, 16, 115, 116])] [] Try.f8 [v0, v1, v2, v3, v4, v5] w R = Vc8 v0 v1 v2 v3 v4 v5 w R)).mpr h)

-- qanatlaw11.FoldSteps
def Vc9 (v0 : Value) (v1 : Value) (w : World) (R : Value → World → Prop) : Prop :=
  HCall Try.prog 31 [v0, (.int .i64 2), (.int .i64 30)] w fun v14 w_1 =>
  HLenS v14 fun v16 =>
  HBin .eql v16 (.int .i64 0) fun v17 =>
  HIf v17
  (HCall Try.prog 30 [] w_1 fun v18 w_2 =>
  R v18 w_2)
  (HLenS v14 fun v21 =>
  HCall Try.prog 14 [v1, v21] w_1 fun v22 w_3 =>
  HCall Try.prog 33 [(.int .i64 2), v14, v22] w_3 fun v25 w_4 =>
  HBin .add v22 (.int .i64 1) fun v28 =>
  HCall Try.prog 33 [(.int .i64 2), v14, v28] w_4 fun v29 w_5 =>
  HCall Try.prog 30 [] w_5 fun v30 w_6 =>
  HNot v30 fun v31 =>
  HIf v31
  (R (.bool false) w_6)
  (HLenS v25 fun v34 =>
  HBin .neq v34 (.int .i64 2) fun v35 =>
  HIf v35
  (R (.bool false) w_6)
  (HLenS v29 fun v39 =>
  HBin .neq v39 (.int .i64 2) fun v40 =>
  HIf v40
  (R (.bool false) w_6)
  (∃ (I : List Value → World → Prop) (μ : List Value → World → Nat), I [(.int .i64 0)] w_6 ∧
  ∀ (v9 : Value) w_7, I [v9] w_7 →
  HBin .lss v9 (.int .i64 2) fun v43 =>
  HIf v43
  (HIdx 1 v25 v9 fun v48 =>
  HLd v48 w_7 fun v49 =>
  HIdx 5 v14 v22 fun v52 =>
  HFld 2 v52 fun v53 =>
  HLd v53 w_7 fun v54 =>
  HLenS v54 fun v55 =>
  ∃ (I_1 : List Value → World → Prop) (μ_1 : List Value → World → Nat), I_1 [v49, (.int .i64 0)] w_7 ∧
  ∀ (v10 : Value) (v56 : Value) w_8, I_1 [v10, v56] w_8 →
  HBin .lss v56 v55 fun v57 =>
  HIf v57
  (HIdx 4 v54 v56 fun v58 =>
  HLdN 4 v58 w_8 fun v59 =>
  HNew [.int .i64 0, .int .i64 0, .bool false, .string ⟨#[]⟩] 68 w_8 fun v12 w_9 =>
  HStN 4 v12 v59 w_9 fun w_10 =>
  ∃ I_2 : List Value → World → Prop, (HFld 0 v12 fun v60 =>
  HLd v60 w_10 fun v61 =>
  HBin .eql v61 v9 fun v63 =>
  HIf v63
  (HFld 2 v12 fun v65 =>
  HLd v65 w_10 fun v66 =>
  HIf v66
  (HFld 1 v12 fun v70 =>
  HLd v70 w_10 fun v71 =>
  HCall Try.prog 39 [v10, v71] w_10 fun v72 w_11 =>
  HExt 0 v72 fun v73 =>
  HExt 1 v72 fun v74 =>
  I_2 [v73] w_11)
  (I_2 [v10] w_10))
  (I_2 [v10] w_10)) ∧
  ∀ (v10_1 : Value) w_12, I_2 [v10_1] w_12 →
  HFld 0 v12 fun v75 =>
  HLd v75 w_12 fun v76 =>
  HBin .eql v76 v9 fun v78 =>
  HIf v78
  (HFld 2 v12 fun v80 =>
  HLd v80 w_12 fun v81 =>
  HNot v81 fun v82 =>
  HIf v82
  (HFld 1 v12 fun v86 =>
  HLd v86 w_12 fun v87 =>
  HFld 3 v12 fun v88 =>
  HLd v88 w_12 fun v89 =>
  HCall Try.prog 40 [v10_1, v87, v89] w_12 fun v90 w_13 =>
  HExt 0 v90 fun v91 =>
  HExt 1 v90 fun v92 =>
  HBin .add v56 (.int .i64 1) fun v93 =>
  I_1 [v91, v93] w_13 ∧ μ_1 [v91, v93] w_13 < μ_1 [v10, v56] w_8)
  (HBin .add v56 (.int .i64 1) fun v93_1 =>
  I_1 [v10_1, v93_1] w_12 ∧ μ_1 [v10_1, v93_1] w_12 < μ_1 [v10, v56] w_8))
  (HBin .add v56 (.int .i64 1) fun v93_2 =>
  I_1 [v10_1, v93_2] w_12 ∧ μ_1 [v10_1, v93_2] w_12 < μ_1 [v10, v56] w_8))
  (HIdx 1 v29 v9 fun v97 =>
  HLd v97 w_8 fun v98 =>
  HCall Try.prog 23 [v10, v98] w_8 fun v99 w_14 =>
  HNot v99 fun v100 =>
  HIf v100
  (R (.bool false) w_14)
  (HBin .add v9 (.int .i64 1) fun v45 =>
  I [v45] w_14 ∧ μ [v45] w_14 < μ [v9] w_7)))
  (R (.bool true) w_7)))))
theorem vc9 (v0 : Value) (v1 : Value) (w : World) (R : Value → World → Prop) (h : Vc9 v0 v1 w R) : HCall Try.prog 9 [v0, v1] w R :=
  funP_sound (JL := [(9, [9], [5, 6, 7, 8]), (13, [10, 56], [5, 6, 7, 8, 9, 54, 55])]) (JC := [(17, [10], [5, 6, 7, 8, 9, 12, 54, 55, 56])]) Tcall_ok mixed_ok Try.func9 (by kernel_rfl) (by kernel_rfl)
    (((by kernel_rfl : funP Try.prog Tcall [(9, [9], [5, 6, 7, 8]), (13, [10, 56], [5, 6, 7, 8, 9, 54, 55])] [(17, [10], [5, 6, 7, 8, 9, 12, 54, 55, 56])] Try.f9 [v0, v1] w R = Vc9 v0 v1 w R)).mpr h)

-- qanatlaw11.FoldRows
def Vc10 (v0 : Value) (v1 : Value) (w : World) (R : Value → World → Prop) : Prop :=
  HCall Try.prog 31 [v0, (.int .i64 2), (.int .i64 30)] w fun v14 w_1 =>
  HLenS v14 fun v17 =>
  HBin .add v17 (.int .i64 1) fun v18 =>
  HCall Try.prog 14 [v1, v18] w_1 fun v19 w_2 =>
  HCall Try.prog 33 [(.int .i64 2), v14, v19] w_2 fun v22 w_3 =>
  HCall Try.prog 30 [] w_3 fun v23 w_4 =>
  HNot v23 fun v24 =>
  HIf v24
  (R (.bool false) w_4)
  (HLenS v22 fun v27 =>
  HBin .neq v27 (.int .i64 2) fun v28 =>
  HIf v28
  (R (.bool false) w_4)
  (∃ (I : List Value → World → Prop) (μ : List Value → World → Nat), I [(.int .i64 0)] w_4 ∧
  ∀ (v8 : Value) w_5, I [v8] w_5 →
  HBin .lss v8 (.int .i64 2) fun v31 =>
  HIf v31
  (∃ (I_1 : List Value → World → Prop) (μ_1 : List Value → World → Nat), I_1 [(.int .i64 0), (.int .i64 1)] w_5 ∧
  ∀ (v9 : Value) (v10 : Value) w_6, I_1 [v9, v10] w_6 →
  HBin .leq v10 (.int .i64 12) fun v35 =>
  HIf v35
  (HCall Try.prog 35 [v14, v19, v8, v10] w_6 fun v43 w_7 =>
  HExt 0 v43 fun v44 =>
  HExt 1 v43 fun v45 =>
  HIf v45
  (HIdx 1 v22 v8 fun v50 =>
  HLd v50 w_7 fun v51 =>
  HLenS v51 fun v52 =>
  HBin .geq v9 v52 fun v53 =>
  HIf v53
  (R (.bool false) w_7)
  (HIdx 1 v22 v8 fun v57 =>
  HLd v57 w_7 fun v58 =>
  HIdx 2 v58 v9 fun v60 =>
  HLdN 2 v60 w_7 fun v61 =>
  HBld [.int .i64 0, .string ⟨#[]⟩] [(0, 1, v10), (1, 1, v44)] fun v64 =>
  HEqG Try.prog 43 true v61 v64 w_7 fun v65 =>
  HIf v65
  (R (.bool false) w_7)
  (HIdx 1 v22 v8 fun v74 =>
  HLd v74 w_7 fun v75 =>
  HIdx 2 v75 v9 fun v77 =>
  HLdN 2 v77 w_7 fun v78 =>
  HCall Try.prog 37 [v14, v19, v19, v8, v78] w_7 fun v79 w_8 =>
  HNot v79 fun v80 =>
  HIf v80
  (R (.bool false) w_8)
  (HBin .add v9 (.int .i64 1) fun v83 =>
  HBin .add v10 (.int .i64 1) fun v37 =>
  I_1 [v83, v37] w_8 ∧ μ_1 [v83, v37] w_8 < μ_1 [v9, v10] w_6))))
  (HBin .add v10 (.int .i64 1) fun v37_1 =>
  I_1 [v9, v37_1] w_7 ∧ μ_1 [v9, v37_1] w_7 < μ_1 [v9, v10] w_6))
  (∃ (I_2 : List Value → World → Prop) (μ_2 : List Value → World → Nat), I_2 [v9] w_6 ∧
  ∀ (v9_1 : Value) w_9, I_2 [v9_1] w_9 →
  HIdx 1 v22 v8 fun v87 =>
  HLd v87 w_9 fun v88 =>
  HLenS v88 fun v89 =>
  HBin .lss v9_1 v89 fun v90 =>
  HIf v90
  (HIdx 1 v22 v8 fun v94 =>
  HLd v94 w_9 fun v95 =>
  HIdx 2 v95 v9_1 fun v97 =>
  HFld 0 v97 fun v98 =>
  HLd v98 w_9 fun v99 =>
  HBin .gtr v99 (.int .i64 12) fun v100 =>
  HIf v100
  (HBin .add v9_1 (.int .i64 1) fun v103 =>
  I_2 [v103] w_9 ∧ μ_2 [v103] w_9 < μ_2 [v9_1] w_9)
  (HIdx 1 v22 v8 fun v107 =>
  HLd v107 w_9 fun v108 =>
  HLenS v108 fun v109 =>
  HBin .neq v9_1 v109 fun v110 =>
  HIf v110
  (R (.bool false) w_9)
  (HBin .add v8 (.int .i64 1) fun v33 =>
  I [v33] w_9 ∧ μ [v33] w_9 < μ [v8] w_5)))
  (HIdx 1 v22 v8 fun v107_1 =>
  HLd v107_1 w_9 fun v108_1 =>
  HLenS v108_1 fun v109_1 =>
  HBin .neq v9_1 v109_1 fun v110_1 =>
  HIf v110_1
  (R (.bool false) w_9)
  (HBin .add v8 (.int .i64 1) fun v33_1 =>
  I [v33_1] w_9 ∧ μ [v33_1] w_9 < μ [v8] w_5))))
  (R (.bool true) w_5)))
theorem vc10 (v0 : Value) (v1 : Value) (w : World) (R : Value → World → Prop) (h : Vc10 v0 v1 w R) : HCall Try.prog 10 [v0, v1] w R :=
  funP_sound (JL := [(7, [8], [5, 6, 7]), (11, [9, 10], [5, 6, 7, 8]), (18, [9], [5, 6, 7, 8])]) (JC := []) Tcall_ok mixed_ok Try.func10 (by kernel_rfl) (by kernel_rfl)
    (((by kernel_rfl : funP Try.prog Tcall [(7, [8], [5, 6, 7]), (11, [9, 10], [5, 6, 7, 8]), (18, [9], [5, 6, 7, 8])] [] Try.f10 [v0, v1] w R = Vc10 v0 v1 w R)).mpr h)

-- qanatlaw11.few
def Vc29 (v0 : Value) (w : World) (R : Value → World → Prop) : Prop :=
  HLenS v0 fun v6 =>
  ∃ (I : List Value → World → Prop) (μ : List Value → World → Nat), I [v6, (.int .i64 0)] w ∧
  ∀ (v3 : Value) (v4 : Value) w_1, I [v3, v4] w_1 →
  HLenS v0 fun v9 =>
  HBin .lss v4 v9 fun v10 =>
  HIf v10
  (HBin .lss v3 (.int .i64 400) fun v13 =>
  HIf v13
  (HIdx 5 v0 v4 fun v20 =>
  HFld 2 v20 fun v21 =>
  HLd v21 w_1 fun v22 =>
  HLenS v22 fun v23 =>
  HBin .add v3 v23 fun v24 =>
  HBin .add v4 (.int .i64 1) fun v16 =>
  I [v24, v16] w_1 ∧ μ [v24, v16] w_1 < μ [v3, v4] w_1)
  (HBin .lss v3 (.int .i64 400) fun v26 =>
  R v26 w_1))
  (HBin .lss v3 (.int .i64 400) fun v26_1 =>
  R v26_1 w_1)
theorem vc29 (v0 : Value) (w : World) (R : Value → World → Prop) (h : Vc29 v0 w R) : HCall Try.prog 29 [v0] w R :=
  funP_sound (JL := [(3, [3, 4], [0])]) (JC := []) Tcall_ok mixed_ok Try.func29 (by kernel_rfl) (by kernel_rfl)
    (((by kernel_rfl : funP Try.prog Tcall [(3, [3, 4], [0])] [] Try.f29 [v0] w R = Vc29 v0 w R)).mpr h)

-- qanatlaw11.awake
def Vc30 (w : World) (R : Value → World → Prop) : Prop :=
  HBld [.int .i64 0, .int .i64 0, .bool false, .string ⟨#[]⟩] [(1, 1, (.int .i64 5)), (3, 1, (.string { data := #[97] }))] fun v6 =>
  HBldS (zrow [.int .i64 0, .int .i64 0, .bool false, .string ⟨#[]⟩] 1) [(0, 4, v6)] 68 1 w fun v7 w_1 =>
  HBld [.int .i64 0, .int .i64 0, .slice none 0 0, .slice none 0 0, .int .i64 0] [(0, 1, (.int .i64 1)), (1, 1, (.int .i64 1)), (2, 1, v7)] fun v8 =>
  HBld [.int .i64 0, .int .i64 0, .bool false, .string ⟨#[]⟩] [(1, 1, (.int .i64 5)), (2, 1, (.bool true))] fun v9 =>
  HBldS (zrow [.int .i64 0, .int .i64 0, .bool false, .string ⟨#[]⟩] 1) [(0, 4, v9)] 68 1 w_1 fun v10 w_2 =>
  HBld [.int .i64 0, .int .i64 0, .slice none 0 0, .slice none 0 0, .int .i64 0] [(0, 1, (.int .i64 2)), (1, 1, (.int .i64 1)), (2, 1, v10)] fun v11 =>
  HBldS (zrow [.int .i64 0, .int .i64 0, .slice none 0 0, .slice none 0 0, .int .i64 0] 2) [(0, 5, v8), (5, 5, v11)] 66 2 w_2 fun v12 w_3 =>
  HCall Try.prog 33 [(.int .i64 1), v12, (.int .i64 1)] w_3 fun v14 w_4 =>
  HCall Try.prog 33 [(.int .i64 1), v12, (.int .i64 2)] w_4 fun v16 w_5 =>
  HCall Try.prog 35 [v12, (.int .i64 1), (.int .i64 0), (.int .i64 5)] w_5 fun v19 w_6 =>
  HExt 0 v19 fun v20 =>
  HExt 1 v19 fun v21 =>
  HLenS v14 fun v23 =>
  HBin .eql v23 (.int .i64 1) fun v24 =>
  HIf v24
  (HIdx 1 v14 (.int .i64 0) fun v27 =>
  HLd v27 w_6 fun v28 =>
  HLenS v28 fun v29 =>
  HBin .eql v29 (.int .i64 1) fun v30 =>
  HIf v30
  (HIdx 1 v14 (.int .i64 0) fun v34 =>
  HLd v34 w_6 fun v35 =>
  HIdx 2 v35 (.int .i64 0) fun v36 =>
  HLdN 2 v36 w_6 fun v37 =>
  HBld [.int .i64 0, .string ⟨#[]⟩] [(0, 1, (.int .i64 5)), (1, 1, (.string { data := #[97] }))] fun v38 =>
  HEqG Try.prog 43 false v37 v38 w_6 fun v39 =>
  HIf v39
  (HLenS v16 fun v43 =>
  HBin .eql v43 (.int .i64 1) fun v44 =>
  HIf v44
  (HIdx 1 v16 (.int .i64 0) fun v48 =>
  HLd v48 w_6 fun v49 =>
  HLenS v49 fun v50 =>
  HBin .eql v50 (.int .i64 0) fun v51 =>
  HIf v51
  (HBin .eql v20 (.string { data := #[97] }) fun v55 =>
  HIf v55
  (HIf v21
  (HBld [.int .i64 0, .string ⟨#[]⟩] [(0, 1, (.int .i64 5)), (1, 1, (.string { data := #[97] }))] fun v62 =>
  HCall Try.prog 37 [v12, (.int .i64 0), (.int .i64 2), (.int .i64 0), v62] w_6 fun v63 w_7 =>
  R v63 w_7)
  (R (.bool false) w_6))
  (R (.bool false) w_6))
  (R (.bool false) w_6))
  (R (.bool false) w_6))
  (R (.bool false) w_6))
  (R (.bool false) w_6))
  (R (.bool false) w_6)
theorem vc30 (w : World) (R : Value → World → Prop) (h : Vc30 w R) : HCall Try.prog 30 [] w R :=
  funP_sound (JL := []) (JC := []) Tcall_ok mixed_ok Try.func30 (by kernel_rfl) (by kernel_rfl)
    (((by kernel_rfl : funP Try.prog Tcall [] [] Try.f30 [] w R = Vc30 w R)).mpr h)

-- qanatplay.Txns
def Vc31 (v0 : Value) (v1 : Value) (v2 : Value) (w : World) (R : Value → World → Prop) : Prop :=
  ∃ (I : List Value → World → Prop) (μ : List Value → World → Nat), I [(.slice Option.none 0 0), (.int .i64 0)] w ∧
  ∀ (v7 : Value) (v8 : Value) w_1, I [v7, v8] w_1 →
  HLenS v0 fun v12 =>
  HBin .lss v8 v12 fun v13 =>
  HIf v13
  (HBin .lss v8 v2 fun v17 =>
  HIf v17
  (HBin .add v8 (.int .i64 1) fun v22 =>
  HBld [.int .i64 0, .int .i64 0, .slice none 0 0, .slice none 0 0, .int .i64 0] [(0, 1, v22), (1, 1, (.int .i64 1))] fun v23 =>
  HNew [.int .i64 0, .int .i64 0, .slice none 0 0, .slice none 0 0, .int .i64 0] 66 w_1 fun v9 w_2 =>
  HStN 5 v9 v23 w_2 fun w_3 =>
  ∃ I_1 : List Value → World → Prop, (HIdx 5 v0 v8 fun v26 =>
  HFld 1 v26 fun v27 =>
  HLd v27 w_3 fun v28 =>
  HCall Try.prog 14 [v28, (.int .i64 9)] w_3 fun v29 w_4 =>
  HBin .eql v29 (.int .i64 8) fun v30 =>
  HIf v30
  (HIdx 5 v0 v8 fun v33 =>
  HFld 1 v33 fun v34 =>
  HLd v34 w_4 fun v35 =>
  HBin .quo v35 (.int .i64 9) fun v36 =>
  HCall Try.prog 14 [v36, (.int .i64 2)] w_4 fun v37 w_5 =>
  HBin .add (.int .i64 2) v37 fun v38 =>
  HFld 1 v9 fun v39 =>
  HSt v39 v38 w_5 fun w_6 =>
  HIdx 5 v0 v8 fun v42 =>
  HFld 4 v42 fun v43 =>
  HLd v43 w_6 fun v44 =>
  HCall Try.prog 28 [v44, (.int .i64 20)] w_6 fun v45 w_7 =>
  HBin .add (.int .i64 1) v45 fun v46 =>
  HFld 4 v9 fun v47 =>
  HSt v47 v46 w_7 fun w_8 =>
  I_1 [] w_8)
  (HIdx 5 v0 v8 fun v50 =>
  HFld 2 v50 fun v51 =>
  HLd v51 w_4 fun v52 =>
  HCall Try.prog 63 [v52, v1, (.int .i64 5)] w_4 fun v54 w_9 =>
  HFld 2 v9 fun v55 =>
  HSt v55 v54 w_9 fun w_10 =>
  HIdx 5 v0 v8 fun v58 =>
  HFld 3 v58 fun v59 =>
  HLd v59 w_10 fun v60 =>
  HCall Try.prog 64 [v60, v1, (.int .i64 2)] w_10 fun v62 w_11 =>
  HFld 3 v9 fun v63 =>
  HSt v63 v62 w_11 fun w_12 =>
  I_1 [] w_12)) ∧
  ∀ w_13, I_1 [] w_13 →
  HLdN 5 v9 w_13 fun v65 =>
  HBldS (zrow [.int .i64 0, .int .i64 0, .slice none 0 0, .slice none 0 0, .int .i64 0] 1) [(0, 5, v65)] 66 1 w_13 fun v66 w_14 =>
  HApp 5 72 [.int .i64 0, .int .i64 0, .slice none 0 0, .slice none 0 0, .int .i64 0] 66 v7 v66 w_14 fun v67 w_15 =>
  HBin .add v8 (.int .i64 1) fun v20 =>
  I [v67, v20] w_15 ∧ μ [v67, v20] w_15 < μ [v7, v8] w_1)
  (R v7 w_1))
  (R v7 w_1)
theorem vc31 (v0 : Value) (v1 : Value) (v2 : Value) (w : World) (R : Value → World → Prop) (h : Vc31 v0 v1 v2 w R) : HCall Try.prog 31 [v0, v1, v2] w R :=
  funP_sound (JL := [(3, [7, 8], [0, 1, 2])]) (JC := [(11, [], [0, 1, 2, 7, 8, 9])]) Tcall_ok mixed_ok Try.func31 (by kernel_rfl) (by kernel_rfl)
    (((by kernel_rfl : funP Try.prog Tcall [(3, [7, 8], [0, 1, 2])] [(11, [], [0, 1, 2, 7, 8, 9])] Try.f31 [v0, v1, v2] w R = Vc31 v0 v1 v2 w R)).mpr h)

-- qanathelp.Tables
def Vc32 (v0 : Value) (v1 : Value) (w : World) (R : Value → World → Prop) : Prop :=
  HCall Try.prog 65 [v0, v1, (.func (.func 23) #[] #[])] w fun v7 w_1 =>
  R v7 w_1
theorem vc32 (v0 : Value) (v1 : Value) (w : World) (R : Value → World → Prop) (h : Vc32 v0 v1 w R) : HCall Try.prog 32 [v0, v1] w R :=
  funP_sound (JL := []) (JC := []) Tcall_ok mixed_ok Try.func32 (by kernel_rfl) (by kernel_rfl)
    (((by kernel_rfl : funP Try.prog Tcall [] [] Try.f32 [v0, v1] w R = Vc32 v0 v1 w R)).mpr h)

-- fold.Fold
def Vc33 (v0 : Value) (v1 : Value) (v2 : Value) (w : World) (R : Value → World → Prop) : Prop :=
  HBin .lss v0 (.int .i64 1) fun v11 =>
  HIf v11
  (R (.slice Option.none 0 0) w)
  (HBin .gtr v0 (.int .i64 8) fun v14 =>
  HIf v14
  (R (.slice Option.none 0 0) w)
  (∃ (I : List Value → World → Prop) (μ : List Value → World → Nat), I [(.slice Option.none 0 0), (.int .i64 0)] w ∧
  ∀ (v7 : Value) (v17 : Value) w_1, I [v7, v17] w_1 →
  HBin .lss v17 v0 fun v18 =>
  HIf v18
  (HCall Try.prog 66 [v1, v17] w_1 fun v22 w_2 =>
  HLenS v1 fun v26 =>
  HCall Try.prog 68 [v2, v26] w_2 fun v27 w_3 =>
  HCall Try.prog 67 [v22, v27] w_3 fun v28 w_4 =>
  HCall Try.prog 69 [v22] w_4 fun v31 w_5 =>
  HBldS (zrow [.slice none 0 0] 1) [(0, 1, v31)] 44 1 w_5 fun v32 w_6 =>
  HApp 1 24 [.slice none 0 0] 44 v7 v32 w_6 fun v33 w_7 =>
  HBin .add v17 (.int .i64 1) fun v34 =>
  I [v33, v34] w_7 ∧ μ [v33, v34] w_7 < μ [v7, v17] w_1)
  (R v7 w_1)))
theorem vc33 (v0 : Value) (v1 : Value) (v2 : Value) (w : World) (R : Value → World → Prop) (h : Vc33 v0 v1 v2 w R) : HCall Try.prog 33 [v0, v1, v2] w R :=
  funP_sound (JL := [(5, [7, 17], [1, 2, 16])]) (JC := []) Tcall_ok mixed_ok Try.func33 (by kernel_rfl) (by kernel_rfl)
    (((by kernel_rfl : funP Try.prog Tcall [(5, [7, 17], [1, 2, 16])] [] Try.f33 [v0, v1, v2] w R = Vc33 v0 v1 v2 w R)).mpr h)

-- qanatref07.Fold
def Vc34 (v0 : Value) (v1 : Value) (v2 : Value) (w : World) (R : Value → World → Prop) : Prop :=
  HCall Try.prog 70 [v0] w fun v12 w_1 =>
  HEq (.pointer 125) false v12 (.pointer Option.none) fun v14 =>
  HIf v14
  (R (.slice Option.none 0 0) w_1)
  (∃ (I : List Value → World → Prop) (μ : List Value → World → Nat), I [(.int .i64 0)] w_1 ∧
  ∀ (v8 : Value) w_2, I [v8] w_2 →
  HLenS v1 fun v18 =>
  HCall Try.prog 71 [v2, v18] w_2 fun v19 w_3 =>
  HBin .lss v8 v19 fun v20 =>
  HIf v20
  (∃ (I_1 : List Value → World → Prop) (μ_1 : List Value → World → Nat), I_1 [(.int .i64 0)] w_3 ∧
  ∀ (v9 : Value) w_4, I_1 [v9] w_4 →
  HIdx 5 v1 v8 fun v26 =>
  HFld 2 v26 fun v27 =>
  HLd v27 w_4 fun v28 =>
  HLenS v28 fun v29 =>
  HBin .lss v9 v29 fun v30 =>
  HIf v30
  (HIdx 5 v1 v8 fun v35 =>
  HFld 2 v35 fun v36 =>
  HLd v36 w_4 fun v37 =>
  HIdx 4 v37 v9 fun v39 =>
  HLdN 4 v39 w_4 fun v40 =>
  HNew [.int .i64 0, .int .i64 0, .bool false, .string ⟨#[]⟩] 68 w_4 fun v10 w_5 =>
  HStN 4 v10 v40 w_5 fun w_6 =>
  HFld 0 v10 fun v42 =>
  HLd v42 w_6 fun v43 =>
  HCall Try.prog 72 [v12, v43] w_6 fun v44 w_7 =>
  HIf v44
  (HLdN 4 v10 w_7 fun v46 =>
  HBldS (zrow [.int .i64 0, .int .i64 0, .bool false, .string ⟨#[]⟩] 1) [(0, 4, v46)] 68 1 w_7 fun v47 w_8 =>
  HCall Try.prog 73 [v12, v47] w_8 fun v48 w_9 =>
  HBin .add v9 (.int .i64 1) fun v32 =>
  I_1 [v32] w_9 ∧ μ_1 [v32] w_9 < μ_1 [v9] w_4)
  (HBin .add v9 (.int .i64 1) fun v32_1 =>
  I_1 [v32_1] w_7 ∧ μ_1 [v32_1] w_7 < μ_1 [v9] w_4))
  (HBin .add v8 (.int .i64 1) fun v22 =>
  I [v22] w_4 ∧ μ [v22] w_4 < μ [v8] w_2))
  (HNil v12 fun v50 =>
  HFld 0 v50 fun v51 =>
  HLd v51 w_3 fun v52 =>
  R v52 w_3))
theorem vc34 (v0 : Value) (v1 : Value) (v2 : Value) (w : World) (R : Value → World → Prop) (h : Vc34 v0 v1 v2 w R) : HCall Try.prog 34 [v0, v1, v2] w R :=
  funP_sound (JL := [(5, [8], [1, 2, 7]), (8, [9], [1, 2, 7, 8])]) (JC := []) Tcall_ok mixed_ok Try.func34 (by kernel_rfl) (by kernel_rfl)
    (((by kernel_rfl : funP Try.prog Tcall [(5, [8], [1, 2, 7]), (8, [9], [1, 2, 7, 8])] [] Try.f34 [v0, v1, v2] w R = Vc34 v0 v1 v2 w R)).mpr h)

-- fold.Value
def Vc35 (v0 : Value) (v1 : Value) (v2 : Value) (v3 : Value) (w : World) (R : Value → World → Prop) : Prop :=
  HCall Try.prog 66 [v0, v2] w fun v15 w_1 =>
  HLenS v0 fun v19 =>
  HCall Try.prog 68 [v1, v19] w_1 fun v20 w_2 =>
  HCall Try.prog 67 [v15, v20] w_2 fun v21 w_3 =>
  HNil v15 fun v24 =>
  HFld 3 v24 fun v25 =>
  HLd v25 w_3 fun v26 =>
  HRq Try.prog (Instr.lookup 128 v26 v3 true) w_3 fun v28 =>
  HExt 0 v28 fun v29 =>
  HExt 1 v28 fun v30 =>
  R (.tuple #[v29, v30]) w_3
theorem vc35 (v0 : Value) (v1 : Value) (v2 : Value) (v3 : Value) (w : World) (R : Value → World → Prop) (h : Vc35 v0 v1 v2 v3 w R) : HCall Try.prog 35 [v0, v1, v2, v3] w R :=
  funP_sound (JL := []) (JC := []) Tcall_ok mixed_ok Try.func35 (by kernel_rfl) (by kernel_rfl)
    (((by kernel_rfl : funP Try.prog Tcall [] [] Try.f35 [v0, v1, v2, v3] w R = Vc35 v0 v1 v2 v3 w R)).mpr h)

-- qanatref07.Value
def Vc36 (v0 : Value) (v1 : Value) (v2 : Value) (v3 : Value) (w : World) (R : Value → World → Prop) : Prop :=
  ∃ (I : List Value → World → Prop) (μ : List Value → World → Nat), I [(.string { data := #[] }), (.bool false), (.int .i64 0)] w ∧
  ∀ (v10 : Value) (v11 : Value) (v12 : Value) w_1, I [v10, v11, v12] w_1 →
  HLenS v0 fun v18 =>
  HCall Try.prog 71 [v1, v18] w_1 fun v19 w_2 =>
  HBin .lss v12 v19 fun v20 =>
  HIf v20
  (∃ (I_1 : List Value → World → Prop) (μ_1 : List Value → World → Nat), I_1 [v10, v11, (.int .i64 0)] w_2 ∧
  ∀ (v10_1 : Value) (v11_1 : Value) (v13 : Value) w_3, I_1 [v10_1, v11_1, v13] w_3 →
  HIdx 5 v0 v12 fun v26 =>
  HFld 2 v26 fun v27 =>
  HLd v27 w_3 fun v28 =>
  HLenS v28 fun v29 =>
  HBin .lss v13 v29 fun v30 =>
  HIf v30
  (HIdx 5 v0 v12 fun v35 =>
  HFld 2 v35 fun v36 =>
  HLd v36 w_3 fun v37 =>
  HIdx 4 v37 v13 fun v39 =>
  HLdN 4 v39 w_3 fun v40 =>
  HNew [.int .i64 0, .int .i64 0, .bool false, .string ⟨#[]⟩] 68 w_3 fun v14 w_4 =>
  HStN 4 v14 v40 w_4 fun w_5 =>
  HFld 0 v14 fun v41 =>
  HLd v41 w_5 fun v42 =>
  HBin .eql v42 v2 fun v44 =>
  HIf v44
  (HFld 1 v14 fun v46 =>
  HLd v46 w_5 fun v47 =>
  HBin .eql v47 v3 fun v49 =>
  HIf v49
  (HDraw w_5 fun w_6 =>
  HFld 3 v14 fun v51 =>
  HLd v51 w_6 fun v52 =>
  HFld 2 v14 fun v53 =>
  HLd v53 w_6 fun v54 =>
  HNot v54 fun v55 =>
  HLd v53 w_6 fun v54_1 =>
  v54_1 = v54 ∧
  HFld 2 v14 fun v56 =>
  HLd v56 w_6 fun v57 =>
  HIf v57
  (HBin .add v13 (.int .i64 1) fun v32 =>
  I_1 [(.string { data := #[] }), v55, v32] w_6 ∧ μ_1 [(.string { data := #[] }), v55, v32] w_6 < μ_1 [v10_1, v11_1, v13] w_3)
  (HBin .add v13 (.int .i64 1) fun v32_1 =>
  I_1 [v52, v55, v32_1] w_6 ∧ μ_1 [v52, v55, v32_1] w_6 < μ_1 [v10_1, v11_1, v13] w_3))
  (HBin .add v13 (.int .i64 1) fun v32_2 =>
  I_1 [v10_1, v11_1, v32_2] w_5 ∧ μ_1 [v10_1, v11_1, v32_2] w_5 < μ_1 [v10_1, v11_1, v13] w_3))
  (HBin .add v13 (.int .i64 1) fun v32_3 =>
  I_1 [v10_1, v11_1, v32_3] w_5 ∧ μ_1 [v10_1, v11_1, v32_3] w_5 < μ_1 [v10_1, v11_1, v13] w_3))
  (HBin .add v12 (.int .i64 1) fun v22 =>
  I [v10_1, v11_1, v22] w_3 ∧ μ [v10_1, v11_1, v22] w_3 < μ [v10, v11, v12] w_1))
  (R (.tuple #[v10, v11]) w_2)
theorem vc36 (v0 : Value) (v1 : Value) (v2 : Value) (v3 : Value) (w : World) (R : Value → World → Prop) (h : Vc36 v0 v1 v2 v3 w R) : HCall Try.prog 36 [v0, v1, v2, v3] w R :=
  funP_sound (JL := [(3, [10, 11, 12], [0, 1, 2, 3]), (6, [10, 11, 13], [0, 1, 2, 3, 12])]) (JC := []) Tcall_ok mixed_ok Try.func36 (by kernel_rfl) (by kernel_rfl)
    (((by kernel_rfl : funP Try.prog Tcall [(3, [10, 11, 12], [0, 1, 2, 3]), (6, [10, 11, 13], [0, 1, 2, 3, 12])] [] Try.f36 [v0, v1, v2, v3] w R = Vc36 v0 v1 v2 v3 w R)).mpr h)

-- fold.Between
def Vc37 (v0 : Value) (v1 : Value) (v2 : Value) (v3 : Value) (v4 : Value) (w : World) (R : Value → World → Prop) : Prop :=
  ∃ cs : List Value, v4 = .agg cs.toArray ∧ HNew cs 43 w fun v9 w_1 =>
  HCall Try.prog 66 [v0, v3] w_1 fun v17 w_2 =>
  HLenS v0 fun v20 =>
  HCall Try.prog 68 [v1, v20] w_2 fun v21 w_3 =>
  ∃ (I : List Value → World → Prop) (μ : List Value → World → Nat), I [v21] w_3 ∧
  ∀ (v12 : Value) w_4, I [v12] w_4 →
  HLenS v0 fun v25 =>
  HCall Try.prog 68 [v2, v25] w_4 fun v26 w_5 =>
  HBin .leq v12 v26 fun v27 =>
  HIf v27
  (HCall Try.prog 67 [v17, v12] w_5 fun v32 w_6 =>
  HDraw w_6 fun w_7 =>
  HNil v17 fun v35 =>
  HFld 3 v35 fun v36 =>
  HLd v36 w_7 fun v37 =>
  HFld 0 v9 fun v38 =>
  HLd v38 w_7 fun v39 =>
  HRq Try.prog (Instr.lookup 128 v37 v39 true) w_7 fun v40 =>
  HExt 0 v40 fun v41 =>
  HExt 1 v40 fun v42 =>
  HIf v42
  (HFld 1 v9 fun v46 =>
  HLd v46 w_7 fun v47 =>
  HBin .eql v41 v47 fun v48 =>
  HIf v48
  (R (.bool true) w_7)
  (HBin .add v12 (.int .i64 1) fun v29 =>
  I [v29] w_7 ∧ μ [v29] w_7 < μ [v12] w_4))
  (HBin .add v12 (.int .i64 1) fun v29_1 =>
  I [v29_1] w_7 ∧ μ [v29_1] w_7 < μ [v12] w_4))
  (R (.bool false) w_5)
theorem vc37 (v0 : Value) (v1 : Value) (v2 : Value) (v3 : Value) (v4 : Value) (w : World) (R : Value → World → Prop) (h : Vc37 v0 v1 v2 v3 v4 w R) : HCall Try.prog 37 [v0, v1, v2, v3, v4] w R :=
  funP_sound (JL := [(3, [12], [0, 2, 9, 11])]) (JC := []) Tcall_ok mixed_ok Try.func37 (by kernel_rfl) (by kernel_rfl)
    (((by kernel_rfl : funP Try.prog Tcall [(3, [12], [0, 2, 9, 11])] [] Try.f37 [v0, v1, v2, v3, v4] w R = Vc37 v0 v1 v2 v3 v4 w R)).mpr h)

-- qanatref07.Between
def Vc38 (v0 : Value) (v1 : Value) (v2 : Value) (v3 : Value) (v4 : Value) (w : World) (R : Value → World → Prop) : Prop :=
  ∃ cs : List Value, v4 = .agg cs.toArray ∧ HNew cs 43 w fun v9 w_1 =>
  HLenS v0 fun v16 =>
  HCall Try.prog 71 [v1, v16] w_1 fun v17 w_2 =>
  ∃ (I : List Value → World → Prop) (μ : List Value → World → Nat), I [v17] w_2 ∧
  ∀ (v11 : Value) w_3, I [v11] w_3 →
  HLenS v0 fun v21 =>
  HCall Try.prog 71 [v2, v21] w_3 fun v22 w_4 =>
  HBin .leq v11 v22 fun v23 =>
  HIf v23
  (HFld 0 v9 fun v30 =>
  HLd v30 w_4 fun v31 =>
  HCall Try.prog 36 [v0, v11, v3, v31] w_4 fun v32 w_5 =>
  HExt 0 v32 fun v33 =>
  HExt 1 v32 fun v34 =>
  HIf v34
  (HFld 1 v9 fun v38 =>
  HLd v38 w_5 fun v39 =>
  HBin .eql v33 v39 fun v40 =>
  HIf v40
  (R (.bool true) w_5)
  (HBin .add v11 (.int .i64 1) fun v25 =>
  I [v25] w_5 ∧ μ [v25] w_5 < μ [v11] w_3))
  (HBin .add v11 (.int .i64 1) fun v25_1 =>
  I [v25_1] w_5 ∧ μ [v25_1] w_5 < μ [v11] w_3))
  (R (.bool false) w_4)
theorem vc38 (v0 : Value) (v1 : Value) (v2 : Value) (v3 : Value) (v4 : Value) (w : World) (R : Value → World → Prop) (h : Vc38 v0 v1 v2 v3 v4 w R) : HCall Try.prog 38 [v0, v1, v2, v3, v4] w R :=
  funP_sound (JL := [(2, [11], [0, 2, 3, 9])]) (JC := []) Tcall_ok mixed_ok Try.func38 (by kernel_rfl) (by kernel_rfl)
    (((by kernel_rfl : funP Try.prog Tcall [(2, [11], [0, 2, 3, 9])] [] Try.f38 [v0, v1, v2, v3, v4] w R = Vc38 v0 v1 v2 v3 v4 w R)).mpr h)

-- qanatref07.Del
def Vc39 (v0 : Value) (v1 : Value) (w : World) (R : Value → World → Prop) : Prop :=
  ∃ (I : List Value → World → Prop) (μ : List Value → World → Nat), I [(.int .i64 0)] w ∧
  ∀ (v6 : Value) w_1, I [v6] w_1 →
  HLenS v0 fun v9 =>
  HBin .lss v6 v9 fun v10 =>
  HIf v10
  (HIdx 2 v0 v6 fun v15 =>
  HFld 0 v15 fun v16 =>
  HLd v16 w_1 fun v17 =>
  HBin .eql v17 v1 fun v19 =>
  HIf v19
  (HDraw w_1 fun w_2 =>
  HSl 2 v0 none (some v6) none fun v23 =>
  HBin .add v6 (.int .i64 1) fun v27 =>
  HSl 2 v0 (some v27) none none fun v28 =>
  HBldS (zrow [.int .i64 0, .string ⟨#[]⟩] 0) [] 43 0 w_2 fun v20 w_3 =>
  HApp 2 24 [.int .i64 0, .string ⟨#[]⟩] 43 v20 v23 w_3 fun v24 w_4 =>
  HApp 2 24 [.int .i64 0, .string ⟨#[]⟩] 43 v24 v28 w_4 fun v29 w_5 =>
  R (.tuple #[v29, (.bool true)]) w_5)
  (HBin .add v6 (.int .i64 1) fun v12 =>
  I [v12] w_1 ∧ μ [v12] w_1 < μ [v6] w_1))
  (R (.tuple #[v0, (.bool false)]) w_1)
theorem vc39 (v0 : Value) (v1 : Value) (w : World) (R : Value → World → Prop) (h : Vc39 v0 v1 w R) : HCall Try.prog 39 [v0, v1] w R :=
  funP_sound (JL := [(2, [6], [0, 1])]) (JC := []) Tcall_ok mixed_ok Try.func39 (by kernel_rfl) (by kernel_rfl)
    (((by kernel_rfl : funP Try.prog Tcall [(2, [6], [0, 1])] [] Try.f39 [v0, v1] w R = Vc39 v0 v1 w R)).mpr h)

-- qanatref07.Put
def Vc40 (v0 : Value) (v1 : Value) (v2 : Value) (w : World) (R : Value → World → Prop) : Prop :=
  ∃ I : List Value → World → Prop, (∃ (I_1 : List Value → World → Prop) (μ : List Value → World → Nat), I_1 [(.int .i64 0)] w ∧
  ∀ (v8 : Value) w_1, I_1 [v8] w_1 →
  HLenS v0 fun v12 =>
  HBin .lss v8 v12 fun v13 =>
  HIf v13
  (HIdx 2 v0 v8 fun v17 =>
  HFld 0 v17 fun v18 =>
  HLd v18 w_1 fun v19 =>
  HBin .lss v19 v1 fun v21 =>
  HIf v21
  (HBin .add v8 (.int .i64 1) fun v24 =>
  I_1 [v24] w_1 ∧ μ [v24] w_1 < μ [v8] w_1)
  (I [v8] w_1))
  (I [v8] w_1)) ∧
  ∀ (v8_1 : Value) w_2, I [v8_1] w_2 →
  HBldS (zrow [.int .i64 0, .string ⟨#[]⟩] 0) [] 43 0 w_2 fun v25 w_3 =>
  HSl 2 v0 none (some v8_1) none fun v28 =>
  HApp 2 24 [.int .i64 0, .string ⟨#[]⟩] 43 v25 v28 w_3 fun v29 w_4 =>
  HBld [.int .i64 0, .string ⟨#[]⟩] [(0, 1, v1), (1, 1, v2)] fun v33 =>
  HBldS (zrow [.int .i64 0, .string ⟨#[]⟩] 1) [(0, 2, v33)] 43 1 w_4 fun v34 w_5 =>
  HApp 2 24 [.int .i64 0, .string ⟨#[]⟩] 43 v29 v34 w_5 fun v35 w_6 =>
  HLenS v0 fun v38 =>
  HBin .lss v8_1 v38 fun v39 =>
  HIf v39
  (HIdx 2 v0 v8_1 fun v43 =>
  HFld 0 v43 fun v44 =>
  HLd v44 w_6 fun v45 =>
  HBin .eql v45 v1 fun v47 =>
  HIf v47
  (HBin .add v8_1 (.int .i64 1) fun v52 =>
  HSl 2 v0 (some v52) none none fun v53 =>
  HApp 2 24 [.int .i64 0, .string ⟨#[]⟩] 43 v35 v53 w_6 fun v54 w_7 =>
  R (.tuple #[v54, (.bool false)]) w_7)
  (HSl 2 v0 (some v8_1) none none fun v58 =>
  HApp 2 24 [.int .i64 0, .string ⟨#[]⟩] 43 v35 v58 w_6 fun v59 w_8 =>
  R (.tuple #[v59, (.bool true)]) w_8))
  (HSl 2 v0 (some v8_1) none none fun v58_1 =>
  HApp 2 24 [.int .i64 0, .string ⟨#[]⟩] 43 v35 v58_1 w_6 fun v59_1 w_9 =>
  R (.tuple #[v59_1, (.bool true)]) w_9)
theorem vc40 (v0 : Value) (v1 : Value) (v2 : Value) (w : World) (R : Value → World → Prop) (h : Vc40 v0 v1 v2 w R) : HCall Try.prog 40 [v0, v1, v2] w R :=
  funP_sound (JL := [(2, [8], [0, 1, 2])]) (JC := [(4, [8], [0, 1, 2])]) Tcall_ok mixed_ok Try.func40 (by kernel_rfl) (by kernel_rfl)
    (((by kernel_rfl : funP Try.prog Tcall [(2, [8], [0, 1, 2])] [(4, [8], [0, 1, 2])] Try.f40 [v0, v1, v2] w R = Vc40 v0 v1 v2 w R)).mpr h)

-- qanatplay.Changes
def Vc63 (v0 : Value) (v1 : Value) (v2 : Value) (w : World) (R : Value → World → Prop) : Prop :=
  ∃ (I : List Value → World → Prop) (μ : List Value → World → Nat), I [(.slice Option.none 0 0), (.int .i64 0)] w ∧
  ∀ (v7 : Value) (v8 : Value) w_1, I [v7, v8] w_1 →
  HLenS v0 fun v11 =>
  HBin .lss v8 v11 fun v12 =>
  HIf v12
  (HBin .lss v8 v2 fun v16 =>
  HIf v16
  (HIdx 4 v0 v8 fun v23 =>
  HLdN 4 v23 w_1 fun v24 =>
  HCall Try.prog 89 [v24, v1] w_1 fun v26 w_2 =>
  HBldS (zrow [.int .i64 0, .int .i64 0, .bool false, .string ⟨#[]⟩] 1) [(0, 4, v26)] 68 1 w_2 fun v27 w_3 =>
  HApp 4 40 [.int .i64 0, .int .i64 0, .bool false, .string ⟨#[]⟩] 68 v7 v27 w_3 fun v28 w_4 =>
  HBin .add v8 (.int .i64 1) fun v19 =>
  I [v28, v19] w_4 ∧ μ [v28, v19] w_4 < μ [v7, v8] w_1)
  (R v7 w_1))
  (R v7 w_1)
theorem vc63 (v0 : Value) (v1 : Value) (v2 : Value) (w : World) (R : Value → World → Prop) (h : Vc63 v0 v1 v2 w R) : HCall Try.prog 63 [v0, v1, v2] w R :=
  funP_sound (JL := [(3, [7, 8], [0, 1, 2])]) (JC := []) Tcall_ok mixed_ok Try.func63 (by kernel_rfl) (by kernel_rfl)
    (((by kernel_rfl : funP Try.prog Tcall [(3, [7, 8], [0, 1, 2])] [] Try.f63 [v0, v1, v2] w R = Vc63 v0 v1 v2 w R)).mpr h)

-- qanatplay.Signals
def Vc64 (v0 : Value) (v1 : Value) (v2 : Value) (w : World) (R : Value → World → Prop) : Prop :=
  ∃ (I : List Value → World → Prop) (μ : List Value → World → Nat), I [(.slice Option.none 0 0), (.int .i64 0)] w ∧
  ∀ (v7 : Value) (v8 : Value) w_1, I [v7, v8] w_1 →
  HLenS v0 fun v11 =>
  HBin .lss v8 v11 fun v12 =>
  HIf v12
  (HBin .lss v8 v2 fun v16 =>
  HIf v16
  (HIdx 1 v0 v8 fun v23 =>
  HLd v23 w_1 fun v24 =>
  HCall Try.prog 90 [v24, v1] w_1 fun v26 w_2 =>
  HBldS (zrow [.string ⟨#[]⟩] 1) [(0, 1, v26)] 9 1 w_2 fun v27 w_3 =>
  HApp 1 16 [.string ⟨#[]⟩] 9 v7 v27 w_3 fun v28 w_4 =>
  HBin .add v8 (.int .i64 1) fun v19 =>
  I [v28, v19] w_4 ∧ μ [v28, v19] w_4 < μ [v7, v8] w_1)
  (R v7 w_1))
  (R v7 w_1)
theorem vc64 (v0 : Value) (v1 : Value) (v2 : Value) (w : World) (R : Value → World → Prop) (h : Vc64 v0 v1 v2 w R) : HCall Try.prog 64 [v0, v1, v2] w R :=
  funP_sound (JL := [(3, [7, 8], [0, 1, 2])]) (JC := []) Tcall_ok mixed_ok Try.func64 (by kernel_rfl) (by kernel_rfl)
    (((by kernel_rfl : funP Try.prog Tcall [(3, [7, 8], [0, 1, 2])] [] Try.f64 [v0, v1, v2] w R = Vc64 v0 v1 v2 w R)).mpr h)

-- qanathelp.Same[[]api.Row]
def Vc65 (v0 : Value) (v1 : Value) (v2 : Value) (w : World) (R : Value → World → Prop) : Prop :=
  HLenS v0 fun v9 =>
  HLenS v1 fun v11 =>
  HBin .neq v9 v11 fun v12 =>
  HIf v12
  (R (.bool false) w)
  (∃ (I : List Value → World → Prop) (μ : List Value → World → Nat), I [(.int .i64 0)] w ∧
  ∀ (v7 : Value) w_1, I [v7] w_1 →
  HLenS v0 fun v15 =>
  HBin .lss v7 v15 fun v16 =>
  HIf v16
  (HDraw w_1 fun w_2 =>
  HIdx 1 v0 v7 fun v22 =>
  HLd v22 w_2 fun v23 =>
  HIdx 1 v1 v7 fun v26 =>
  HLd v26 w_2 fun v27 =>
  HCallV Try.prog Tcall v2 [v23, v27] w_2 fun v28 w_3 =>
  HNot v28 fun v29 =>
  HIf v29
  (R (.bool false) w_3)
  (HBin .add v7 (.int .i64 1) fun v18 =>
  I [v18] w_3 ∧ μ [v18] w_3 < μ [v7] w_1))
  (R (.bool true) w_1))
theorem vc65 (v0 : Value) (v1 : Value) (v2 : Value) (w : World) (R : Value → World → Prop) (h : Vc65 v0 v1 v2 w R) : HCall Try.prog 65 [v0, v1, v2] w R :=
  funP_sound (JL := [(4, [7], [0, 1, 2])]) (JC := []) Tcall_ok mixed_ok Try.func65 (by kernel_rfl) (by kernel_rfl)
    (((by kernel_rfl : funP Try.prog Tcall [(4, [7], [0, 1, 2])] [] Try.f65 [v0, v1, v2] w R = Vc65 v0 v1 v2 w R)).mpr h)

-- fold.begin
def Vc66 (v0 : Value) (v1 : Value) (w : World) (R : Value → World → Prop) : Prop :=
  HBld [.int .i64 0, .slice none 0 0, .int .i64 0, .map none] [(1, 1, v0), (2, 1, v1), (3, 1, (.map (some w.heap.size)))] fun v8 =>
  ∃ cs : List Value, v8 = .agg cs.toArray ∧ HNew cs 130 (w.alloc (.map #[] 0)) fun v9 w_1 =>
  R v9 w_1
theorem vc66 (v0 : Value) (v1 : Value) (w : World) (R : Value → World → Prop) (h : Vc66 v0 v1 w R) : HCall Try.prog 66 [v0, v1] w R :=
  funP_sound (JL := []) (JC := []) Tcall_ok mixed_ok Try.func66 (by kernel_rfl) (by kernel_rfl)
    (((by kernel_rfl : funP Try.prog Tcall [] [] Try.f66 [v0, v1] w R = Vc66 v0 v1 w R)).mpr h)

-- fold.walk.to
def Vc67 (v0 : Value) (v1 : Value) (w : World) (R : Value → World → Prop) : Prop :=
  ∃ (I : List Value → World → Prop) (μ : List Value → World → Nat), I [] w ∧
  ∀ w_1, I [] w_1 →
  HNil v0 fun v7 =>
  HFld 0 v7 fun v8 =>
  HFld 0 v8 fun v9 =>
  HLd v9 w_1 fun v10 =>
  HBin .lss v10 v1 fun v12 =>
  HIf v12
  (HDraw w_1 fun w_2 =>
  HNil v0 fun v14 =>
  HFld 1 v14 fun v15 =>
  HLd v15 w_2 fun v16 =>
  HNil v0 fun v18 =>
  HFld 0 v18 fun v19 =>
  HFld 0 v19 fun v20 =>
  HLd v20 w_2 fun v21 =>
  HIdx 5 v16 v21 fun v22 =>
  HFld 2 v22 fun v23 =>
  HLd v23 w_2 fun v24 =>
  HLenS v24 fun v25 =>
  ∃ (I_1 : List Value → World → Prop) (μ_1 : List Value → World → Nat), I_1 [(.int .i64 0)] w_2 ∧
  ∀ (v26 : Value) w_3, I_1 [v26] w_3 →
  HBin .lss v26 v25 fun v27 =>
  HIf v27
  (HIdx 4 v24 v26 fun v28 =>
  HLdN 4 v28 w_3 fun v29 =>
  HNew [.int .i64 0, .int .i64 0, .bool false, .string ⟨#[]⟩] 68 w_3 fun v5 w_4 =>
  HStN 4 v5 v29 w_4 fun w_5 =>
  HDraw w_5 fun w_6 =>
  HFld 0 v5 fun v39 =>
  HLd v39 w_6 fun v40 =>
  HNil v0 fun v42 =>
  HFld 2 v42 fun v43 =>
  HLd v43 w_6 fun v44 =>
  HBin .neq v40 v44 fun v45 =>
  HIf v45
  (HBin .add v26 (.int .i64 1) fun v55 =>
  I_1 [v55] w_6 ∧ μ_1 [v55] w_6 < μ_1 [v26] w_3)
  (HFld 2 v5 fun v47 =>
  HLd v47 w_6 fun v48 =>
  HIf v48
  (HDraw w_6 fun w_7 =>
  HNil v0 fun v50 =>
  HFld 3 v50 fun v51 =>
  HLd v51 w_7 fun v52 =>
  HFld 1 v5 fun v53 =>
  HLd v53 w_7 fun v54 =>
  HRun Try.prog (Builtin.delete_ #[128, 2] 0 [v52, v54].toArray) w_7 fun u w_8 =>
  HBin .add v26 (.int .i64 1) fun v55_1 =>
  I_1 [v55_1] w_8 ∧ μ_1 [v55_1] w_8 < μ_1 [v26] w_3)
  (HDraw w_6 fun w_9 =>
  HNil v0 fun v31 =>
  HFld 3 v31 fun v32 =>
  HLd v32 w_9 fun v33 =>
  HFld 1 v5 fun v34 =>
  HLd v34 w_9 fun v35 =>
  HFld 3 v5 fun v36 =>
  HLd v36 w_9 fun v37 =>
  HRun Try.prog (do Instr.mapUpdate 128 v33 v35 v37; pure undef) w_9 fun u_1 w_10 =>
  HBin .add v26 (.int .i64 1) fun v55_2 =>
  I_1 [v55_2] w_10 ∧ μ_1 [v55_2] w_10 < μ_1 [v26] w_3)))
  (HNil v0 fun v57 =>
  HFld 0 v57 fun v58 =>
  HCall Try.prog 91 [v58] w_3 fun v59 w_11 =>
  I [] w_11 ∧ μ [] w_11 < μ [] w_1))
  (R (.tuple #[]) w_1)
theorem vc67 (v0 : Value) (v1 : Value) (w : World) (R : Value → World → Prop) (h : Vc67 v0 v1 w R) : HCall Try.prog 67 [v0, v1] w R :=
  funP_sound (JL := [(0, [], [0, 1]), (2, [26], [0, 1, 24, 25])]) (JC := []) Tcall_ok mixed_ok Try.func67 (by kernel_rfl) (by kernel_rfl)
    (((by kernel_rfl : funP Try.prog Tcall [(0, [], [0, 1]), (2, [26], [0, 1, 24, 25])] [] Try.f67 [v0, v1] w R = Vc67 v0 v1 w R)).mpr h)

-- fold.held
def Vc68 (v0 : Value) (v1 : Value) (w : World) (R : Value → World → Prop) : Prop :=
  HMax v0 (.int .i64 0) fun v6 =>
  HMin v6 v1 fun v8 =>
  R v8 w
theorem vc68 (v0 : Value) (v1 : Value) (w : World) (R : Value → World → Prop) (h : Vc68 v0 v1 w R) : HCall Try.prog 68 [v0, v1] w R :=
  funP_sound (JL := []) (JC := []) Tcall_ok mixed_ok Try.func68 (by kernel_rfl) (by kernel_rfl)
    (((by kernel_rfl : funP Try.prog Tcall [] [] Try.f68 [v0, v1] w R = Vc68 v0 v1 w R)).mpr h)

-- fold.walk.all
def Vc69 (v0 : Value) (w : World) (R : Value → World → Prop) : Prop :=
  HNil v0 fun v7 =>
  HFld 3 v7 fun v8 =>
  HLd v8 w fun v9 =>
  HCall Try.prog 92 [v9] w fun v10 w_1 =>
  HCall Try.prog 59 [v10] w_1 fun v11 w_2 =>
  HLenS v11 fun v12 =>
  ∃ (I : List Value → World → Prop) (μ : List Value → World → Nat), I [(.slice Option.none 0 0), (.int .i64 0)] w_2 ∧
  ∀ (v3 : Value) (v13 : Value) w_3, I [v3, v13] w_3 →
  HBin .lss v13 v12 fun v14 =>
  HIf v14
  (HIdx 1 v11 v13 fun v15 =>
  HLd v15 w_3 fun v16 =>
  HNil v0 fun v20 =>
  HFld 3 v20 fun v21 =>
  HLd v21 w_3 fun v22 =>
  HRq Try.prog (Instr.lookup 128 v22 v16 false) w_3 fun v24 =>
  HBld [.int .i64 0, .string ⟨#[]⟩] [(0, 1, v16), (1, 1, v24)] fun v25 =>
  HBldS (zrow [.int .i64 0, .string ⟨#[]⟩] 1) [(0, 2, v25)] 43 1 w_3 fun v26 w_4 =>
  HApp 2 24 [.int .i64 0, .string ⟨#[]⟩] 43 v3 v26 w_4 fun v27 w_5 =>
  HBin .add v13 (.int .i64 1) fun v28 =>
  I [v27, v28] w_5 ∧ μ [v27, v28] w_5 < μ [v3, v13] w_3)
  (R v3 w_3)
theorem vc69 (v0 : Value) (w : World) (R : Value → World → Prop) (h : Vc69 v0 w R) : HCall Try.prog 69 [v0] w R :=
  funP_sound (JL := [(3, [3, 13], [0, 11, 12])]) (JC := []) Tcall_ok mixed_ok Try.func69 (by kernel_rfl) (by kernel_rfl)
    (((by kernel_rfl : funP Try.prog Tcall [(3, [3, 13], [0, 11, 12])] [] Try.f69 [v0] w R = Vc69 v0 w R)).mpr h)

-- qanatref07.NewSet
def Vc70 (v0 : Value) (w : World) (R : Value → World → Prop) : Prop :=
  HBin .lss v0 (.int .i64 1) fun v4 =>
  HIf v4
  (R (.pointer Option.none) w)
  (HBin .gtr v0 (.int .i64 8) fun v7 =>
  HIf v7
  (R (.pointer Option.none) w)
  (HMk [.slice none 0 0] 24 44 v0 v0 w fun v10 w_1 =>
  HBld [.slice none 0 0] [(0, 1, v10)] fun v11 =>
  ∃ cs : List Value, v11 = .agg cs.toArray ∧ HNew cs 125 w_1 fun v12 w_2 =>
  R v12 w_2))
theorem vc70 (v0 : Value) (w : World) (R : Value → World → Prop) (h : Vc70 v0 w R) : HCall Try.prog 70 [v0] w R :=
  funP_sound (JL := []) (JC := []) Tcall_ok mixed_ok Try.func70 (by kernel_rfl) (by kernel_rfl)
    (((by kernel_rfl : funP Try.prog Tcall [] [] Try.f70 [v0] w R = Vc70 v0 w R)).mpr h)

-- qanatref07.Held
def Vc71 (v0 : Value) (v1 : Value) (w : World) (R : Value → World → Prop) : Prop :=
  HMin v0 v1 fun v7 =>
  HMax (.int .i64 0) v7 fun v8 =>
  R v8 w
theorem vc71 (v0 : Value) (v1 : Value) (w : World) (R : Value → World → Prop) (h : Vc71 v0 v1 w R) : HCall Try.prog 71 [v0, v1] w R :=
  funP_sound (JL := []) (JC := []) Tcall_ok mixed_ok Try.func71 (by kernel_rfl) (by kernel_rfl)
    (((by kernel_rfl : funP Try.prog Tcall [] [] Try.f71 [v0, v1] w R = Vc71 v0 v1 w R)).mpr h)

-- qanatref07.Set.Is
def Vc72 (v0 : Value) (v1 : Value) (w : World) (R : Value → World → Prop) : Prop :=
  HBin .geq v1 (.int .i64 0) fun v6 =>
  HIf v6
  (HNil v0 fun v10 =>
  HFld 0 v10 fun v11 =>
  HLd v11 w fun v12 =>
  HLenS v12 fun v13 =>
  HBin .lss v1 v13 fun v14 =>
  R v14 w)
  (R (.bool false) w)
theorem vc72 (v0 : Value) (v1 : Value) (w : World) (R : Value → World → Prop) (h : Vc72 v0 v1 w R) : HCall Try.prog 72 [v0, v1] w R :=
  funP_sound (JL := []) (JC := []) Tcall_ok mixed_ok Try.func72 (by kernel_rfl) (by kernel_rfl)
    (((by kernel_rfl : funP Try.prog Tcall [] [] Try.f72 [v0, v1] w R = Vc72 v0 v1 w R)).mpr h)

-- qanatref07.Set.Apply
def Vc73 (v0 : Value) (v1 : Value) (w : World) (R : Value → World → Prop) : Prop :=
  ∃ (I : List Value → World → Prop) (μ : List Value → World → Nat), I [(.int .i64 0)] w ∧
  ∀ (v5 : Value) w_1, I [v5] w_1 →
  HLenS v1 fun v10 =>
  HBin .lss v5 v10 fun v11 =>
  HIf v11
  (HIdx 4 v1 v5 fun v17 =>
  HFld 0 v17 fun v18 =>
  HLd v18 w_1 fun v19 =>
  HCall Try.prog 72 [v0, v19] w_1 fun v20 w_2 =>
  HNot v20 fun v21 =>
  HIf v21
  (R (.bool false) w_2)
  (HBin .add v5 (.int .i64 1) fun v13 =>
  I [v13] w_2 ∧ μ [v13] w_2 < μ [v5] w_1))
  (∃ (I_1 : List Value → World → Prop) (μ_1 : List Value → World → Nat), I_1 [(.int .i64 0)] w_1 ∧
  ∀ (v6 : Value) w_3, I_1 [v6] w_3 →
  HLenS v1 fun v24 =>
  HBin .lss v6 v24 fun v25 =>
  HIf v25
  (HIdx 4 v1 v6 fun v30 =>
  HFld 0 v30 fun v31 =>
  HLd v31 w_3 fun v32 =>
  HIdx 4 v1 v6 fun v35 =>
  HFld 2 v35 fun v36 =>
  HLd v36 w_3 fun v37 =>
  HIf v37
  (HDraw w_3 fun w_4 =>
  HNil v0 fun v40 =>
  HFld 0 v40 fun v41 =>
  HLd v41 w_4 fun v42 =>
  HNil v0 fun v45 =>
  HFld 0 v45 fun v46 =>
  HLd v46 w_4 fun v47 =>
  HIdx 1 v47 v32 fun v49 =>
  HLd v49 w_4 fun v50 =>
  HIdx 4 v1 v6 fun v53 =>
  HFld 1 v53 fun v54 =>
  HLd v54 w_4 fun v55 =>
  HCall Try.prog 39 [v50, v55] w_4 fun v56 w_5 =>
  HLd v41 w_5 fun v42_1 =>
  v42_1 = v42 ∧
  HExt 0 v56 fun v57 =>
  HExt 1 v56 fun v58 =>
  HIdx 1 v42 v32 fun v59 =>
  HSt v59 v57 w_5 fun w_6 =>
  HBin .add v6 (.int .i64 1) fun v27 =>
  I_1 [v27] w_6 ∧ μ_1 [v27] w_6 < μ_1 [v6] w_3)
  (HDraw w_3 fun w_7 =>
  HNil v0 fun v62 =>
  HFld 0 v62 fun v63 =>
  HLd v63 w_7 fun v64 =>
  HNil v0 fun v67 =>
  HFld 0 v67 fun v68 =>
  HLd v68 w_7 fun v69 =>
  HIdx 1 v69 v32 fun v71 =>
  HLd v71 w_7 fun v72 =>
  HIdx 4 v1 v6 fun v75 =>
  HFld 1 v75 fun v76 =>
  HLd v76 w_7 fun v77 =>
  HIdx 4 v1 v6 fun v80 =>
  HFld 3 v80 fun v81 =>
  HLd v81 w_7 fun v82 =>
  HCall Try.prog 40 [v72, v77, v82] w_7 fun v83 w_8 =>
  HLd v63 w_8 fun v64_1 =>
  v64_1 = v64 ∧
  HExt 0 v83 fun v84 =>
  HExt 1 v83 fun v85 =>
  HIdx 1 v64 v32 fun v86 =>
  HSt v86 v84 w_8 fun w_9 =>
  HBin .add v6 (.int .i64 1) fun v27_1 =>
  I_1 [v27_1] w_9 ∧ μ_1 [v27_1] w_9 < μ_1 [v6] w_3))
  (R (.bool true) w_3))
theorem vc73 (v0 : Value) (v1 : Value) (w : World) (R : Value → World → Prop) (h : Vc73 v0 v1 w R) : HCall Try.prog 73 [v0, v1] w R :=
  funP_sound (JL := [(2, [5], [0, 1]), (7, [6], [0, 1])]) (JC := []) Tcall_ok mixed_ok Try.func73 (by kernel_rfl) (by kernel_rfl)
    (((by kernel_rfl : funP Try.prog Tcall [(2, [5], [0, 1]), (7, [6], [0, 1])] [] Try.f73 [v0, v1] w R = Vc73 v0 v1 w R)).mpr h)

-- qanatplay.Change
def Vc89 (v0 : Value) (v1 : Value) (w : World) (R : Value → World → Prop) : Prop :=
  ∃ cs : List Value, v0 = .agg cs.toArray ∧ HNew cs 68 w fun v2 w_1 =>
  HNew [.int .i64 0, .int .i64 0, .bool false, .string ⟨#[]⟩] 68 w_1 fun v4 w_2 =>
  ∃ I : List Value → World → Prop, (HDraw w_2 fun w_3 =>
  HFld 0 v2 fun v6 =>
  HLd v6 w_3 fun v7 =>
  HFld 1 v2 fun v10 =>
  HLd v10 w_3 fun v11 =>
  HFld 2 v2 fun v14 =>
  HLd v14 w_3 fun v15 =>
  (HCall Try.prog 14 [v7, v1] w_3 fun v9 w_4 =>
  HLd v10 w_4 fun v11_1 =>
  v11_1 = v11 ∧
  HLd v14 w_4 fun v15_1 =>
  v15_1 = v15 ∧
  (HCall Try.prog 28 [v11, (.int .i64 12)] w_4 fun v12 w_5 =>
  HLd v14 w_5 fun v15_2 =>
  v15_2 = v15 ∧
  HBin .add (.int .i64 1) v12 fun v13 =>
  HBld [.int .i64 0, .int .i64 0, .bool false, .string ⟨#[]⟩] [(0, 1, v9), (1, 1, v13), (2, 1, v15)] fun v16 =>
  HNew [.int .i64 0, .int .i64 0, .bool false, .string ⟨#[]⟩] 68 w_5 fun v5 w_6 =>
  HLd v14 w_6 fun v15_3 =>
  v15_3 = v15 ∧
  HStN 4 v5 v16 w_6 fun w_7 =>
  I [v5] w_7) ∧
  (HNew [.int .i64 0, .int .i64 0, .bool false, .string ⟨#[]⟩] 68 w_4 fun v5_1 w_8 =>
  HLd v10 w_8 fun v11_2 =>
  v11_2 = v11 ∧
  HLd v14 w_8 fun v15_4 =>
  v15_4 = v15 ∧
  HCall Try.prog 28 [v11, (.int .i64 12)] w_8 fun v12_1 w_9 =>
  HLd v14 w_9 fun v15_5 =>
  v15_5 = v15 ∧
  HBin .add (.int .i64 1) v12_1 fun v13_1 =>
  HBld [.int .i64 0, .int .i64 0, .bool false, .string ⟨#[]⟩] [(0, 1, v9), (1, 1, v13_1), (2, 1, v15)] fun v16_1 =>
  HStN 4 v5_1 v16_1 w_9 fun w_10 =>
  I [v5_1] w_10)) ∧
  (HNew [.int .i64 0, .int .i64 0, .bool false, .string ⟨#[]⟩] 68 w_3 fun v5_2 w_11 =>
  HLd v6 w_11 fun v7_1 =>
  v7_1 = v7 ∧
  HLd v10 w_11 fun v11_3 =>
  v11_3 = v11 ∧
  HLd v14 w_11 fun v15_6 =>
  v15_6 = v15 ∧
  HCall Try.prog 14 [v7, v1] w_11 fun v9_1 w_12 =>
  HLd v10 w_12 fun v11_4 =>
  v11_4 = v11 ∧
  HLd v14 w_12 fun v15_7 =>
  v15_7 = v15 ∧
  HCall Try.prog 28 [v11, (.int .i64 12)] w_12 fun v12_2 w_13 =>
  HLd v14 w_13 fun v15_8 =>
  v15_8 = v15 ∧
  HBin .add (.int .i64 1) v12_2 fun v13_2 =>
  HBld [.int .i64 0, .int .i64 0, .bool false, .string ⟨#[]⟩] [(0, 1, v9_1), (1, 1, v13_2), (2, 1, v15)] fun v16_2 =>
  HStN 4 v5_2 v16_2 w_13 fun w_14 =>
  I [v5_2] w_14)) ∧
  ∀ (v5_3 : Value) w_15, I [v5_3] w_15 →
  ∃ I_1 : List Value → World → Prop, (HFld 1 v2 fun v17 =>
  HLd v17 w_15 fun v18 =>
  HCall Try.prog 28 [v18, (.int .i64 31)] w_15 fun v19 w_16 =>
  HBin .eql v19 (.int .i64 30) fun v20 =>
  HIf v20
  (HFld 1 v2 fun v21 =>
  HLd v21 w_16 fun v22 =>
  HCall Try.prog 28 [v22, (.int .i64 1099511627776)] w_16 fun v23 w_17 =>
  HBin .add (.int .i64 1) v23 fun v24 =>
  HFld 1 v5_3 fun v25 =>
  HSt v25 v24 w_17 fun w_18 =>
  I_1 [] w_18)
  (I_1 [] w_16)) ∧
  ∀ w_19, I_1 [] w_19 →
  HFld 2 v2 fun v26 =>
  HLd v26 w_19 fun v27 =>
  HNot v27 fun v28 =>
  HIf v28
  (HFld 3 v2 fun v29 =>
  HLd v29 w_19 fun v30 =>
  HCall Try.prog 101 [v30, (.int .i64 32)] w_19 fun v31 w_20 =>
  HFld 3 v5_3 fun v32 =>
  HSt v32 v31 w_20 fun w_21 =>
  HLdN 4 v5_3 w_21 fun v33 =>
  HStN 4 v4 v33 w_21 fun w_22 =>
  HLdN 4 v4 w_22 fun r =>
  R r w_22)
  (HLdN 4 v5_3 w_19 fun v33_1 =>
  HStN 4 v4 v33_1 w_19 fun w_23 =>
  HLdN 4 v4 w_23 fun r_1 =>
  R r_1 w_23)
theorem vc89 (v0 : Value) (v1 : Value) (w : World) (R : Value → World → Prop) (h : Vc89 v0 v1 w R) : HCall Try.prog 89 [v0, v1] w R :=
  funP_sound (JL := []) (JC := [(2, [5], [2, 4]), (4, [], [2, 4, 5])]) Tcall_ok mixed_ok Try.func89 (by kernel_rfl) (by kernel_rfl)
    (((by kernel_rfl : funP Try.prog Tcall [] [(2, [5], [2, 4]), (4, [], [2, 4, 5])] Try.f89 [v0, v1] w R = Vc89 v0 v1 w R)).mpr h)

-- qanatplay.Signal
def Vc90 (v0 : Value) (v1 : Value) (w : World) (R : Value → World → Prop) : Prop :=
  HBin .eql v0 (.string { data := #[] }) fun v8 =>
  HIf v8
  (R (.string { data := #[115, 110, 97, 112, 115, 104, 111, 116, 32, 48] }) w)
  (HRq Try.prog (Instr.index 9 v0 (.int .i64 0)) w fun v10 =>
  HCvI .i64 v10 fun v11 =>
  HBin .rem v11 (.int .i64 4) fun v13 =>
  HBin .eql v13 (.int .i64 3) fun v14 =>
  HIf v14
  (HCall Try.prog 101 [v0, (.int .i64 40)] w fun v16 w_1 =>
  R v16 w_1)
  (HBin .quo v11 (.int .i64 4) fun v18 =>
  HBin .rem v18 v1 fun v20 =>
  HBin .add (.int .i64 48) v20 fun v21 =>
  HCvI .u8 v21 fun v22 =>
  HBldS (zrow [.int .u8 0] 1) [(0, 1, v22)] 5 1 w fun v23 w_2 =>
  HRq Try.prog (convert 160 9 v23) w_2 fun v24 =>
  HBin .add (.string { data := #[115, 110, 97, 112, 115, 104, 111, 116, 32] }) v24 fun v25 =>
  HBin .rem v11 (.int .i64 4) fun v27 =>
  HBin .gtr v27 (.int .i64 0) fun v28 =>
  HIf v28
  (HBin .add v25 (.string { data := #[32] }) fun v30 =>
  HBin .quo v11 (.int .i64 16) fun v32 =>
  HBin .rem v32 (.int .i64 8) fun v33 =>
  HBin .add (.int .i64 49) v33 fun v34 =>
  HCvI .u8 v34 fun v35 =>
  HBldS (zrow [.int .u8 0] 1) [(0, 1, v35)] 5 1 w_2 fun v36 w_3 =>
  HRq Try.prog (convert 160 9 v36) w_3 fun v37 =>
  HBin .add v30 v37 fun v38 =>
  R v38 w_3)
  (R v25 w_2)))
theorem vc90 (v0 : Value) (v1 : Value) (w : World) (R : Value → World → Prop) (h : Vc90 v0 v1 w R) : HCall Try.prog 90 [v0, v1] w R :=
  funP_sound (JL := []) (JC := []) Tcall_ok mixed_ok Try.func90 (by kernel_rfl) (by kernel_rfl)
    (((by kernel_rfl : funP Try.prog Tcall [] [] Try.f90 [v0, v1] w R = Vc90 v0 v1 w R)).mpr h)

-- fold.place.step
def Vc91 (v0 : Value) (w : World) (R : Value → World → Prop) : Prop :=
  HNil v0 fun v3 =>
  HFld 0 v3 fun v4 =>
  HLd v4 w fun v5 =>
  HBin .add v5 (.int .i64 1) fun v6 =>
  HNil v0 fun v7 =>
  HFld 0 v7 fun v8 =>
  HSt v8 v6 w fun w_1 =>
  R (.tuple #[]) w_1
theorem vc91 (v0 : Value) (w : World) (R : Value → World → Prop) (h : Vc91 v0 w R) : HCall Try.prog 91 [v0] w R :=
  funP_sound (JL := []) (JC := []) Tcall_ok mixed_ok Try.func91 (by kernel_rfl) (by kernel_rfl)
    (((by kernel_rfl : funP Try.prog Tcall [] [] Try.f91 [v0] w R = Vc91 v0 w R)).mpr h)

-- qanatplay.Cut
def Vc101 (v0 : Value) (v1 : Value) (w : World) (R : Value → World → Prop) : Prop :=
  HLenT v0 fun v7 =>
  HMin v7 v1 fun v9 =>
  HSlS v0 none (some v9) fun v10 =>
  R v10 w
theorem vc101 (v0 : Value) (v1 : Value) (w : World) (R : Value → World → Prop) (h : Vc101 v0 v1 w R) : HCall Try.prog 101 [v0, v1] w R :=
  funP_sound (JL := []) (JC := []) Tcall_ok mixed_ok Try.func101 (by kernel_rfl) (by kernel_rfl)
    (((by kernel_rfl : funP Try.prog Tcall [] [] Try.f101 [v0, v1] w R = Vc101 v0 v1 w R)).mpr h)

end Go.Proofs.Ytffogjfnmbgogaa
