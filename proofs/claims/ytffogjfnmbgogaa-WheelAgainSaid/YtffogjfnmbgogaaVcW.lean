/-
  What calls of functions ask, printed by a program of mine (gen.py) out of the functions' code; each is checked by the kernel.
-/
import Derived.Test.YtffogjfnmbgogaaTab
namespace Go.Proofs.Ytffogjfnmbgogaa
set_option linter.unusedVariables false
set_option maxRecDepth 100000
open Go.RowKit

-- qanatlaw24.WheelTimes
def Vc11 (v0 : Value) (v1 : Value) (w : World) (R : Value → World → Prop) : Prop :=
  HCall Try.prog 41 [(.int .i64 0)] w fun v15 w_1 =>
  HEq (.pointer 134) false v15 (.pointer Option.none) fun v17 =>
  HIf v17
  (R (.bool false) w_1)
  (HLenS v0 fun v19 =>
  HMin v19 (.int .i64 60) fun v20 =>
  HMk [.int .i64 0] 8 2 v20 v20 w_1 fun v22 w_2 =>
  ∃ (I : List Value → World → Prop) (μ : List Value → World → Nat), I [(.int .i64 0)] w_2 ∧
  ∀ (v8 : Value) w_3, I [v8] w_3 →
  HBin .lss v8 v20 fun v25 =>
  HIf v25
  (HIdx 1 v0 v8 fun v32 =>
  HLd v32 w_3 fun v33 =>
  HCall Try.prog 28 [v33, (.int .i64 500)] w_3 fun v34 w_4 =>
  HIdx 1 v22 v8 fun v35 =>
  HSt v35 v34 w_4 fun w_5 =>
  HIdx 1 v22 v8 fun v40 =>
  HLd v40 w_5 fun v41 =>
  HCall Try.prog 42 [v15, v8, v41] w_5 fun v42 w_6 =>
  HBin .add v8 (.int .i64 1) fun v27 =>
  I [v27] w_6 ∧ μ [v27] w_6 < μ [v8] w_3)
  (HCall Try.prog 28 [v1, (.int .i64 120)] w_3 fun v44 w_7 =>
  HBin .add (.int .i64 1) v44 fun v45 =>
  ∃ (I_1 : List Value → World → Prop) (μ_1 : List Value → World → Nat), I_1 [(.int .i64 0), (.int .i64 0), (.int .i64 0)] w_7 ∧
  ∀ (v10 : Value) (v11 : Value) (v12 : Value) w_8, I_1 [v10, v11, v12] w_8 →
  HBin .lss v12 (.int .i64 700) fun v47 =>
  HIf v47
  (HCall Try.prog 43 [v15, v12] w_8 fun v53 w_9 =>
  ∃ (I_2 : List Value → World → Prop) (μ_2 : List Value → World → Nat), I_2 [v10, v11, (.int .i64 0)] w_9 ∧
  ∀ (v10_1 : Value) (v11_1 : Value) (v14 : Value) w_10, I_2 [v10_1, v11_1, v14] w_10 →
  HLenS v53 fun v56 =>
  HBin .lss v14 v56 fun v57 =>
  HIf v57
  (∃ I_3 : List Value → World → Prop, (HIdx 1 v53 v14 fun v62 =>
  HLd v62 w_10 fun v63 =>
  HBin .lss v63 (.int .i64 0) fun v64 =>
  HIf v64
  (R (.bool false) w_10)
  (HIdx 1 v53 v14 fun v68 =>
  HLd v68 w_10 fun v69 =>
  HBin .geq v69 v20 fun v71 =>
  HIf v71
  (R (.bool false) w_10)
  (HIdx 1 v53 v14 fun v77 =>
  HLd v77 w_10 fun v78 =>
  HIdx 1 v22 v78 fun v79 =>
  HLd v79 w_10 fun v80 =>
  HBin .gtr v80 v12 fun v82 =>
  HIf v82
  (R (.bool false) w_10)
  (HBin .gtr v12 (.int .i64 0) fun v86 =>
  HIf v86
  (HIdx 1 v53 v14 fun v91 =>
  HLd v91 w_10 fun v92 =>
  HIdx 1 v22 v92 fun v93 =>
  HLd v93 w_10 fun v94 =>
  HBin .sub v12 v45 fun v97 =>
  HBin .leq v94 v97 fun v98 =>
  HIf v98
  (R (.bool false) w_10)
  (HIdx 1 v53 v14 fun v105 =>
  HLd v105 w_10 fun v106 =>
  HIdx 1 v22 v106 fun v107 =>
  HLd v107 w_10 fun v108 =>
  HBin .lss v108 v11_1 fun v110 =>
  HIf v110
  (R (.bool false) w_10)
  (I_3 [] w_10)))
  (HIdx 1 v53 v14 fun v105_1 =>
  HLd v105_1 w_10 fun v106_1 =>
  HIdx 1 v22 v106_1 fun v107_1 =>
  HLd v107_1 w_10 fun v108_1 =>
  HBin .lss v108_1 v11_1 fun v110_1 =>
  HIf v110_1
  (R (.bool false) w_10)
  (I_3 [] w_10)))))) ∧
  ∀ w_11, I_3 [] w_11 →
  HDraw w_11 fun w_12 =>
  HBin .gtr v14 (.int .i64 0) fun v113 =>
  HIf v113
  (HBin .sub v14 (.int .i64 1) fun v118 =>
  HIdx 1 v53 v118 fun v119 =>
  HLd v119 w_12 fun v120 =>
  HIdx 1 v22 v120 fun v121 =>
  HLd v121 w_12 fun v122 =>
  HIdx 1 v53 v14 fun v126 =>
  HLd v126 w_12 fun v127 =>
  HIdx 1 v22 v127 fun v128 =>
  HLd v128 w_12 fun v129 =>
  HBin .eql v122 v129 fun v130 =>
  HIf v130
  (HBin .sub v14 (.int .i64 1) fun v135 =>
  HIdx 1 v53 v135 fun v136 =>
  HLd v136 w_12 fun v137 =>
  HIdx 1 v53 v14 fun v140 =>
  HLd v140 w_12 fun v141 =>
  HBin .geq v137 v141 fun v142 =>
  HIf v142
  (R (.bool false) w_12)
  (HIdx 1 v53 v14 fun v147 =>
  HLd v147 w_12 fun v148 =>
  HIdx 1 v22 v148 fun v149 =>
  HLd v149 w_12 fun v150 =>
  HBin .add v10_1 (.int .i64 1) fun v152 =>
  HBin .add v14 (.int .i64 1) fun v59 =>
  I_2 [v152, v150, v59] w_12 ∧ μ_2 [v152, v150, v59] w_12 < μ_2 [v10_1, v11_1, v14] w_10))
  (HIdx 1 v53 v14 fun v147_1 =>
  HLd v147_1 w_12 fun v148_1 =>
  HIdx 1 v22 v148_1 fun v149_1 =>
  HLd v149_1 w_12 fun v150_1 =>
  HBin .add v10_1 (.int .i64 1) fun v152_1 =>
  HBin .add v14 (.int .i64 1) fun v59_1 =>
  I_2 [v152_1, v150_1, v59_1] w_12 ∧ μ_2 [v152_1, v150_1, v59_1] w_12 < μ_2 [v10_1, v11_1, v14] w_10))
  (HIdx 1 v53 v14 fun v147_2 =>
  HLd v147_2 w_12 fun v148_2 =>
  HIdx 1 v22 v148_2 fun v149_2 =>
  HLd v149_2 w_12 fun v150_2 =>
  HBin .add v10_1 (.int .i64 1) fun v152_2 =>
  HBin .add v14 (.int .i64 1) fun v59_2 =>
  I_2 [v152_2, v150_2, v59_2] w_12 ∧ μ_2 [v152_2, v150_2, v59_2] w_12 < μ_2 [v10_1, v11_1, v14] w_10))
  (HBin .add v12 v45 fun v50 =>
  I_1 [v10_1, v11_1, v50] w_10 ∧ μ_1 [v10_1, v11_1, v50] w_10 < μ_1 [v10, v11, v12] w_8))
  (HCall Try.prog 44 [] w_8 fun v153 w_13 =>
  HIf v153
  (HBin .eql v10 v20 fun v157 =>
  HIf v157
  (HCall Try.prog 45 [v15] w_13 fun v161 w_14 =>
  HBin .eql v161 (.int .i64 0) fun v162 =>
  R v162 w_14)
  (R (.bool false) w_13))
  (R (.bool false) w_13))))
theorem vc11 (v0 : Value) (v1 : Value) (w : World) (R : Value → World → Prop) (h : Vc11 v0 v1 w R) : HCall Try.prog 11 [v0, v1] w R :=
  funP_sound (JL := [(7, [8], [0, 1, 5, 6, 7]), (14, [10, 11, 12], [5, 6, 7, 9]), (18, [10, 11, 14], [5, 6, 7, 9, 12, 13])]) (JC := [(22, [], [5, 6, 7, 9, 10, 12, 13, 14])]) Tcall_ok mixed_ok Try.func11 (by kernel_rfl) (by kernel_rfl)
    (((by kernel_rfl : funP Try.prog Tcall [(7, [8], [0, 1, 5, 6, 7]), (14, [10, 11, 12], [5, 6, 7, 9]), (18, [10, 11, 14], [5, 6, 7, 9, 12, 13])] [(22, [], [5, 6, 7, 9, 10, 12, 13, 14])] Try.f11 [v0, v1] w R = Vc11 v0 v1 w R)).mpr h)

-- qanatlaw24.WheelPlays
def Vc12 (v0 : Value) (v1 : Value) (w : World) (R : Value → World → Prop) : Prop :=
  HCall Try.prog 41 [v0] w fun v18 w_1 =>
  HCall Try.prog 46 [v0] w_1 fun v20 w_2 =>
  HBld [.int .i64 0, .slice none 0 0] [(0, 1, v20)] fun v21 =>
  ∃ cs : List Value, v21 = .agg cs.toArray ∧ HNew cs 85 w_2 fun v22 w_3 =>
  HEq (.pointer 134) false v18 (.pointer Option.none) fun v24 =>
  HIf v24
  (R (.bool false) w_3)
  (∃ (I : List Value → World → Prop) (μ : List Value → World → Nat), I [(.int .i64 0)] w_3 ∧
  ∀ (v7 : Value) w_4, I [v7] w_4 →
  HLenS v1 fun v27 =>
  HBin .lss v7 v27 fun v28 =>
  HIf v28
  (HBin .lss v7 (.int .i64 80) fun v31 =>
  HIf v31
  (HIdx 3 v1 v7 fun v37 =>
  HLdN 3 v37 w_4 fun v38 =>
  HNew [.int .i64 0, .int .i64 0, .int .i64 0] 87 w_4 fun v8 w_5 =>
  HStN 3 v8 v38 w_5 fun w_6 =>
  HDraw w_6 fun w_7 =>
  HFld 1 v8 fun v39 =>
  HLd v39 w_7 fun v40 =>
  HNil v22 fun v43 =>
  HFld 0 v43 fun v44 =>
  HLd v44 w_7 fun v45 =>
  HFld 2 v8 fun v46 =>
  HLd v46 w_7 fun v47 =>
  HCall Try.prog 14 [v40, (.int .i64 7)] w_7 fun v41 w_8 =>
  HLd v44 w_8 fun v45_1 =>
  v45_1 = v45 ∧
  HLd v46 w_8 fun v47_1 =>
  v47_1 = v47 ∧
  HCall Try.prog 28 [v47, (.int .i64 60)] w_8 fun v48 w_9 =>
  HLd v44 w_9 fun v45_2 =>
  v45_2 = v45 ∧
  HBin .add v45 v48 fun v49 =>
  HBin .sub v49 (.int .i64 10) fun v50 =>
  HLd v44 w_9 fun v45_3 =>
  v45_3 = v45 ∧
  ∃ I_1 : List Value → World → Prop, (HFld 1 v8 fun v51 =>
  HLd v51 w_9 fun v52 =>
  HCall Try.prog 14 [v52, (.int .i64 9)] w_9 fun v53 w_10 =>
  HBin .eql v53 (.int .i64 8) fun v54 =>
  HIf v54
  (HDraw w_10 fun w_11 =>
  HFld 1 v8 fun v55 =>
  HLd v55 w_11 fun v56 =>
  HFld 2 v8 fun v57 =>
  HLd v57 w_11 fun v58 =>
  HLd v57 w_11 fun v58_1 =>
  v58_1 = v58 ∧
  I_1 [v56, v58] w_11)
  (I_1 [v41, v50] w_10)) ∧
  ∀ (v9 : Value) (v10 : Value) w_12, I_1 [v9, v10] w_12 →
  ∃ I_2 : List Value → World → Prop, (HFld 0 v8 fun v59 =>
  HLd v59 w_12 fun v60 =>
  HCall Try.prog 14 [v60, (.int .i64 7)] w_12 fun v61 w_13 =>
  HBin .lss v61 (.int .i64 4) fun v71 =>
  HIf v71
  (HCall Try.prog 42 [v18, v9, v10] w_13 fun v75 w_14 =>
  HCall Try.prog 47 [v22, v9, v10] w_14 fun v79 w_15 =>
  I_2 [(.bool true)] w_15)
  (HBin .eql v61 (.int .i64 4) fun v82 =>
  HIf v82
  (HCall Try.prog 48 [v18, v9] w_13 fun v85 w_16 =>
  HCall Try.prog 49 [v22, v9] w_16 fun v88 w_17 =>
  HEq .bool false v85 v88 fun v89 =>
  I_2 [v89] w_17)
  (HBin .eql v61 (.int .i64 5) fun v92 =>
  HIf v92
  (HCall Try.prog 50 [v18, v9] w_13 fun v96 w_18 =>
  HExt 0 v96 fun v97 =>
  HExt 1 v96 fun v98 =>
  HCall Try.prog 51 [v22, v9] w_18 fun v102 w_19 =>
  HExt 0 v102 fun v103 =>
  HExt 1 v102 fun v104 =>
  HBin .eql v97 v103 fun v107 =>
  HIf v107
  (HEq .bool false v98 v104 fun v111 =>
  I_2 [v111] w_19)
  (I_2 [(.bool false)] w_19))
  (HCall Try.prog 43 [v18, v10] w_13 fun v64 w_20 =>
  HCall Try.prog 53 [v22, v10] w_20 fun v67 w_21 =>
  HCall Try.prog 52 [v64, v67] w_21 fun v68 w_22 =>
  I_2 [v68] w_22)))) ∧
  ∀ (v11 : Value) w_23, I_2 [v11] w_23 →
  HDraw w_23 fun w_24 =>
  HNot v11 fun v114 =>
  HIf v114
  (R (.bool false) w_24)
  (HNil v22 fun v119 =>
  HFld 0 v119 fun v120 =>
  HLd v120 w_24 fun v121 =>
  HCall Try.prog 54 [v18] w_24 fun v117 w_25 =>
  HLd v120 w_25 fun v121_1 =>
  v121_1 = v121 ∧
  HBin .neq v117 v121 fun v122 =>
  HIf v122
  (R (.bool false) w_25)
  (HNil v22 fun v128 =>
  HFld 1 v128 fun v129 =>
  HLd v129 w_25 fun v130 =>
  HLenS v130 fun v131 =>
  HCall Try.prog 45 [v18] w_25 fun v126 w_26 =>
  HLd v129 w_26 fun v130_1 =>
  v130_1 = v130 ∧
  HBin .neq v126 v131 fun v132 =>
  HIf v132
  (R (.bool false) w_26)
  (HBin .add v7 (.int .i64 1) fun v34 =>
  I [v34] w_26 ∧ μ [v34] w_26 < μ [v7] w_4))))
  (HCall Try.prog 44 [] w_4 fun v134 w_27 =>
  R v134 w_27))
  (HCall Try.prog 44 [] w_4 fun v134_1 w_28 =>
  R v134_1 w_28))
theorem vc12 (v0 : Value) (v1 : Value) (w : World) (R : Value → World → Prop) (h : Vc12 v0 v1 w R) : HCall Try.prog 12 [v0, v1] w R :=
  funP_sound (JL := [(6, [7], [1, 5, 6])]) (JC := [(12, [9, 10], [1, 5, 6, 7, 8]), (24, [11], [1, 5, 6, 7])]) Tcall_ok mixed_ok Try.func12 (by kernel_rfl) (by kernel_rfl)
    (((by kernel_rfl : funP Try.prog Tcall [(6, [7], [1, 5, 6])] [(12, [9, 10], [1, 5, 6, 7, 8]), (24, [11], [1, 5, 6, 7])] Try.f12 [v0, v1] w R = Vc12 v0 v1 w R)).mpr h)

-- qanatlaw24.WheelAgain
def Vc13 (v0 : Value) (v1 : Value) (v2 : Value) (v3 : Value) (w : World) (R : Value → World → Prop) : Prop :=
  HCall Try.prog 41 [v3] w fun v16 w_1 =>
  HEq (.pointer 134) false v16 (.pointer Option.none) fun v18 =>
  HIf v18
  (R (.bool false) w_1)
  (HCall Try.prog 54 [v16] w_1 fun v21 w_2 =>
  HCall Try.prog 46 [v3] w_2 fun v23 w_3 =>
  HBin .neq v21 v23 fun v24 =>
  HIf v24
  (R (.bool false) w_3)
  (HCall Try.prog 42 [v16, v0, v1] w_3 fun v29 w_4 =>
  HCall Try.prog 42 [v16, v0, v2] w_4 fun v33 w_5 =>
  HCall Try.prog 50 [v16, v0] w_5 fun v37 w_6 =>
  HExt 0 v37 fun v38 =>
  HExt 1 v37 fun v39 =>
  HNot v39 fun v41 =>
  HIf v41
  (R (.bool false) w_6)
  (HCall Try.prog 46 [v2] w_6 fun v45 w_7 =>
  HBin .neq v38 v45 fun v46 =>
  HIf v46
  (R (.bool false) w_7)
  (HCall Try.prog 45 [v16] w_7 fun v50 w_8 =>
  HBin .neq v50 (.int .i64 1) fun v51 =>
  HIf v51
  (R (.bool false) w_8)
  (HCall Try.prog 43 [v16, v1] w_8 fun v55 w_9 =>
  HCall Try.prog 46 [v3] w_9 fun v57 w_10 =>
  HCall Try.prog 46 [v1] w_10 fun v59 w_11 =>
  HMax v57 v59 fun v60 =>
  HLenS v55 fun v62 =>
  HBin .eql v62 (.int .i64 1) fun v63 =>
  HCall Try.prog 46 [v2] w_11 fun v65 w_12 =>
  HBin .leq v65 v60 fun v67 =>
  HEq .bool true v63 v67 fun v68 =>
  HIf v68
  (R (.bool false) w_12)
  (HCall Try.prog 54 [v16] w_12 fun v71 w_13 =>
  HBin .neq v71 v60 fun v73 =>
  HIf v73
  (R (.bool false) w_13)
  (HCall Try.prog 43 [v16, (.int .i64 (-5))] w_13 fun v76 w_14 =>
  HCall Try.prog 44 [] w_14 fun v77 w_15 =>
  HIf v77
  (HLenS v76 fun v80 =>
  HBin .eql v80 (.int .i64 0) fun v81 =>
  HIf v81
  (HCall Try.prog 54 [v16] w_15 fun v85 w_16 =>
  HBin .eql v85 v60 fun v87 =>
  HIf v87
  (HCall Try.prog 48 [v16, v0] w_16 fun v92 w_17 =>
  HLenS v55 fun v94 =>
  HBin .eql v94 (.int .i64 0) fun v95 =>
  HEq .bool false v92 v95 fun v96 =>
  R v96 w_17)
  (R (.bool false) w_16))
  (R (.bool false) w_15))
  (R (.bool false) w_15))))))))
theorem vc13 (v0 : Value) (v1 : Value) (v2 : Value) (v3 : Value) (w : World) (R : Value → World → Prop) (h : Vc13 v0 v1 v2 v3 w R) : HCall Try.prog 13 [v0, v1, v2, v3] w R :=
  funP_sound (JL := []) (JC := []) Tcall_ok mixed_ok Try.func13 (by kernel_rfl) (by kernel_rfl)
    (((by kernel_rfl : funP Try.prog Tcall [] [] Try.f13 [v0, v1, v2, v3] w R = Vc13 v0 v1 v2 v3 w R)).mpr h)

-- wheel.New
def Vc41 (v0 : Value) (w : World) (R : Value → World → Prop) : Prop :=
  HCall Try.prog 74 [v0] w fun v4 w_1 =>
  HBld [.slice none 0 0, .slice none 0 0, .slice none 0 0, .slice none 0 0, .slice none 0 0, .slice none 0 0, .slice none 0 0, .slice none 0 0, .slice none 0 0, .slice none 0 0, .slice none 0 0, .slice none 0 0, .slice none 0 0, .slice none 0 0, .slice none 0 0, .slice none 0 0, .int .i64 0] [(16, 1, v4)] fun v5 =>
  ∃ cs : List Value, v5 = .agg cs.toArray ∧ HNew cs 134 w_1 fun v6 w_2 =>
  R v6 w_2
theorem vc41 (v0 : Value) (w : World) (R : Value → World → Prop) (h : Vc41 v0 w R) : HCall Try.prog 41 [v0] w R :=
  funP_sound (JL := []) (JC := []) Tcall_ok mixed_ok Try.func41 (by kernel_rfl) (by kernel_rfl)
    (((by kernel_rfl : funP Try.prog Tcall [] [] Try.f41 [v0] w R = Vc41 v0 w R)).mpr h)

-- wheel.Wheel.Set
def Vc42 (v0 : Value) (v1 : Value) (v2 : Value) (w : World) (R : Value → World → Prop) : Prop :=
  HCall Try.prog 48 [v0, v1] w fun v9 w_1 =>
  HCall Try.prog 75 [v1] w_1 fun v11 w_2 =>
  HDraw w_2 fun w_3 =>
  HNil v0 fun v16 =>
  HFld 0 v16 fun v17 =>
  HIdxA 1 16 v17 v11 fun v18 =>
  HLd v18 w_3 fun v19 =>
  HNil v0 fun v26 =>
  HFld 0 v26 fun v27 =>
  HCall Try.prog 74 [v2] w_3 fun v22 w_4 =>
  HLd v18 w_4 fun v19_1 =>
  v19_1 = v19 ∧
  HBld [.int .i64 0, .int .i64 0] [(0, 1, v1), (1, 1, v22)] fun v23 =>
  HBldS (zrow [.int .i64 0, .int .i64 0] 1) [(0, 2, v23)] 137 1 w_4 fun v24 w_5 =>
  HLd v18 w_5 fun v19_2 =>
  v19_2 = v19 ∧
  HApp 2 16 [.int .i64 0, .int .i64 0] 137 v19 v24 w_5 fun v25 w_6 =>
  HIdxA 1 16 v27 v11 fun v28 =>
  HSt v28 v25 w_6 fun w_7 =>
  R (.tuple #[]) w_7
theorem vc42 (v0 : Value) (v1 : Value) (v2 : Value) (w : World) (R : Value → World → Prop) (h : Vc42 v0 v1 v2 w R) : HCall Try.prog 42 [v0, v1, v2] w R :=
  funP_sound (JL := []) (JC := []) Tcall_ok mixed_ok Try.func42 (by kernel_rfl) (by kernel_rfl)
    (((by kernel_rfl : funP Try.prog Tcall [] [] Try.f42 [v0, v1, v2] w R = Vc42 v0 v1 v2 w R)).mpr h)

-- wheel.Wheel.Turn
def Vc43 (v0 : Value) (v1 : Value) (w : World) (R : Value → World → Prop) : Prop :=
  HDraw w fun w_1 =>
  HNil v0 fun v11 =>
  HFld 16 v11 fun v12 =>
  HLd v12 w_1 fun v13 =>
  HCall Try.prog 74 [v1] w_1 fun v15 w_2 =>
  HLd v12 w_2 fun v13_1 =>
  v13_1 = v13 ∧
  HMax v13 v15 fun v16 =>
  HNil v0 fun v17 =>
  HFld 16 v17 fun v18 =>
  HSt v18 v16 w_2 fun w_3 =>
  HCall Try.prog 76 [v0] w_3 fun v20 w_4 =>
  HCall Try.prog 77 [v20, (.func (.func 78) #[] #[])] w_4 fun v22 w_5 =>
  HLenS v20 fun v24 =>
  ∃ (I : List Value → World → Prop) (μ : List Value → World → Nat), I [(.slice Option.none 0 0), (.int .i64 0)] w_5 ∧
  ∀ (v6 : Value) (v25 : Value) w_6, I [v6, v25] w_6 →
  HBin .lss v25 v24 fun v26 =>
  HIf v26
  (HIdx 2 v20 v25 fun v27 =>
  HLdN 2 v27 w_6 fun v28 =>
  HNew [.int .i64 0, .int .i64 0] 137 w_6 fun v8 w_7 =>
  HStN 2 v8 v28 w_7 fun w_8 =>
  HFld 0 v8 fun v30 =>
  HLd v30 w_8 fun v31 =>
  HCall Try.prog 48 [v0, v31] w_8 fun v32 w_9 =>
  HFld 0 v8 fun v34 =>
  HLd v34 w_9 fun v35 =>
  HBldS (zrow [.int .i64 0] 1) [(0, 1, v35)] 3 1 w_9 fun v36 w_10 =>
  HApp 1 8 [.int .i64 0] 3 v6 v36 w_10 fun v37 w_11 =>
  HBin .add v25 (.int .i64 1) fun v38 =>
  I [v37, v38] w_11 ∧ μ [v37, v38] w_11 < μ [v6, v25] w_6)
  (R v6 w_6)
theorem vc43 (v0 : Value) (v1 : Value) (w : World) (R : Value → World → Prop) (h : Vc43 v0 v1 w R) : HCall Try.prog 43 [v0, v1] w R :=
  funP_sound (JL := [(6, [6, 25], [0, 23, 24])]) (JC := []) Tcall_ok mixed_ok Try.func43 (by kernel_rfl) (by kernel_rfl)
    (((by kernel_rfl : funP Try.prog Tcall [(6, [6, 25], [0, 23, 24])] [] Try.f43 [v0, v1] w R = Vc43 v0 v1 w R)).mpr h)

-- qanatlaw24.awake
def Vc44 (w : World) (R : Value → World → Prop) : Prop :=
  HCall Try.prog 41 [(.int .i64 0)] w fun v2 w_1 =>
  HEq (.pointer 134) false v2 (.pointer Option.none) fun v4 =>
  HIf v4
  (R (.bool false) w_1)
  (HCall Try.prog 42 [v2, (.int .i64 1), (.int .i64 5)] w_1 fun v6 w_2 =>
  HCall Try.prog 42 [v2, (.int .i64 2), (.int .i64 3)] w_2 fun v8 w_3 =>
  HCall Try.prog 43 [v2, (.int .i64 4)] w_3 fun v10 w_4 =>
  HBldS (zrow [.int .i64 0] 1) [(0, 1, (.int .i64 2))] 3 1 w_4 fun v11 w_5 =>
  HCall Try.prog 52 [v10, v11] w_5 fun v12 w_6 =>
  HIf v12
  (HCall Try.prog 43 [v2, (.int .i64 9)] w_6 fun v15 w_7 =>
  HBldS (zrow [.int .i64 0] 1) [(0, 1, (.int .i64 1))] 3 1 w_7 fun v16 w_8 =>
  HCall Try.prog 52 [v15, v16] w_8 fun v17 w_9 =>
  HIf v17
  (HCall Try.prog 54 [v2] w_9 fun v21 w_10 =>
  HBin .eql v21 (.int .i64 9) fun v22 =>
  HIf v22
  (HCall Try.prog 45 [v2] w_10 fun v26 w_11 =>
  HBin .eql v26 (.int .i64 0) fun v27 =>
  R v27 w_11)
  (R (.bool false) w_10))
  (R (.bool false) w_9))
  (R (.bool false) w_6))
theorem vc44 (w : World) (R : Value → World → Prop) (h : Vc44 w R) : HCall Try.prog 44 [] w R :=
  funP_sound (JL := []) (JC := []) Tcall_ok mixed_ok Try.func44 (by kernel_rfl) (by kernel_rfl)
    (((by kernel_rfl : funP Try.prog Tcall [] [] Try.f44 [] w R = Vc44 w R)).mpr h)

-- wheel.Wheel.Len
def Vc45 (v0 : Value) (w : World) (R : Value → World → Prop) : Prop :=
  HNil v0 fun v7 =>
  HFld 0 v7 fun v8 =>
  HLdN 16 v8 w fun v9 =>
  ∃ (I : List Value → World → Prop) (μ : List Value → World → Nat), I [(.int .i64 0), (.int .i64 0)] w ∧
  ∀ (v3 : Value) (v10 : Value) w_1, I [v3, v10] w_1 →
  HBin .lss v10 (.int .i64 16) fun v11 =>
  HIf v11
  (HRq Try.prog (Instr.index 132 v9 v10) w_1 fun v12 =>
  HLenS v12 fun v15 =>
  HBin .add v3 v15 fun v16 =>
  HBin .add v10 (.int .i64 1) fun v17 =>
  I [v16, v17] w_1 ∧ μ [v16, v17] w_1 < μ [v3, v10] w_1)
  (R v3 w_1)
theorem vc45 (v0 : Value) (w : World) (R : Value → World → Prop) (h : Vc45 v0 w R) : HCall Try.prog 45 [v0] w R :=
  funP_sound (JL := [(3, [3, 10], [9])]) (JC := []) Tcall_ok mixed_ok Try.func45 (by kernel_rfl) (by kernel_rfl)
    (((by kernel_rfl : funP Try.prog Tcall [(3, [3, 10], [9])] [] Try.f45 [v0] w R = Vc45 v0 w R)).mpr h)

-- qanatref19.Clock
def Vc46 (v0 : Value) (w : World) (R : Value → World → Prop) : Prop :=
  HMin v0 (.int .i64 1125899906842624) fun v4 =>
  HMax (.int .i64 0) v4 fun v5 =>
  R v5 w
theorem vc46 (v0 : Value) (w : World) (R : Value → World → Prop) (h : Vc46 v0 w R) : HCall Try.prog 46 [v0] w R :=
  funP_sound (JL := []) (JC := []) Tcall_ok mixed_ok Try.func46 (by kernel_rfl) (by kernel_rfl)
    (((by kernel_rfl : funP Try.prog Tcall [] [] Try.f46 [v0] w R = Vc46 v0 w R)).mpr h)

-- qanatref19.Wheel.Set
def Vc47 (v0 : Value) (v1 : Value) (v2 : Value) (w : World) (R : Value → World → Prop) : Prop :=
  HCall Try.prog 49 [v0, v1] w fun v11 w_1 =>
  HCall Try.prog 46 [v2] w_1 fun v14 w_2 =>
  HBld [.int .i64 0, .int .i64 0] [(0, 1, v1), (1, 1, v14)] fun v15 =>
  HNew [.int .i64 0, .int .i64 0] 144 w_2 fun v6 w_3 =>
  HStN 2 v6 v15 w_3 fun w_4 =>
  ∃ I : List Value → World → Prop, (∃ (I_1 : List Value → World → Prop) (μ : List Value → World → Nat), I_1 [(.int .i64 0)] w_4 ∧
  ∀ (v7 : Value) w_5, I_1 [v7] w_5 →
  HDraw w_5 fun w_6 =>
  HNil v0 fun v18 =>
  HFld 1 v18 fun v19 =>
  HLd v19 w_6 fun v20 =>
  HLenS v20 fun v21 =>
  HBin .lss v7 v21 fun v22 =>
  HIf v22
  (HNil v0 fun v25 =>
  HFld 1 v25 fun v26 =>
  HLd v26 w_6 fun v27 =>
  HIdx 2 v27 v7 fun v29 =>
  HFld 1 v29 fun v30 =>
  HLd v30 w_6 fun v31 =>
  HFld 1 v6 fun v32 =>
  HLd v32 w_6 fun v33 =>
  HBin .lss v31 v33 fun v34 =>
  HIf v34
  (HBin .add v7 (.int .i64 1) fun v62 =>
  I_1 [v62] w_6 ∧ μ [v62] w_6 < μ [v7] w_5)
  (HNil v0 fun v37 =>
  HFld 1 v37 fun v38 =>
  HLd v38 w_6 fun v39 =>
  HIdx 2 v39 v7 fun v41 =>
  HFld 1 v41 fun v42 =>
  HLd v42 w_6 fun v43 =>
  HFld 1 v6 fun v44 =>
  HLd v44 w_6 fun v45 =>
  HBin .eql v43 v45 fun v46 =>
  HIf v46
  (HNil v0 fun v49 =>
  HFld 1 v49 fun v50 =>
  HLd v50 w_6 fun v51 =>
  HIdx 2 v51 v7 fun v53 =>
  HFld 0 v53 fun v54 =>
  HLd v54 w_6 fun v55 =>
  HBin .lss v55 v1 fun v57 =>
  HIf v57
  (HBin .add v7 (.int .i64 1) fun v62_1 =>
  I_1 [v62_1] w_6 ∧ μ [v62_1] w_6 < μ [v7] w_5)
  (I [v7] w_6))
  (I [v7] w_6)))
  (I [v7] w_6)) ∧
  ∀ (v7_1 : Value) w_7, I [v7_1] w_7 →
  HDraw w_7 fun w_8 =>
  HNil v0 fun v65 =>
  HFld 1 v65 fun v66 =>
  HLd v66 w_8 fun v67 =>
  HSl 2 v67 none (some v7_1) none fun v69 =>
  HLdN 2 v6 w_8 fun v71 =>
  (HBldS (zrow [.int .i64 0, .int .i64 0] 0) [] 144 0 w_8 fun v63 w_9 =>
  HLd v66 w_9 fun v67_1 =>
  v67_1 = v67 ∧
  HLdN 2 v6 w_9 fun v71_1 =>
  v71_1 = v71 ∧
  (HApp 2 16 [.int .i64 0, .int .i64 0] 144 v63 v69 w_9 fun v70 w_10 =>
  HLdN 2 v6 w_10 fun v71_2 =>
  v71_2 = v71 ∧
  HBldS (zrow [.int .i64 0, .int .i64 0] 1) [(0, 2, v71)] 144 1 w_10 fun v72 w_11 =>
  HApp 2 16 [.int .i64 0, .int .i64 0] 144 v70 v72 w_11 fun v73 w_12 =>
  HNil v0 fun v77 =>
  HFld 1 v77 fun v78 =>
  HLd v78 w_12 fun v79 =>
  HSl 2 v79 (some v7_1) none none fun v81 =>
  HApp 2 16 [.int .i64 0, .int .i64 0] 144 v73 v81 w_12 fun v82 w_13 =>
  HNil v0 fun v83 =>
  HFld 1 v83 fun v84 =>
  HSt v84 v82 w_13 fun w_14 =>
  R (.tuple #[]) w_14) ∧
  (HBldS (zrow [.int .i64 0, .int .i64 0] 1) [(0, 2, v71)] 144 1 w_9 fun v72_1 w_15 =>
  HLd v66 w_15 fun v67_2 =>
  v67_2 = v67 ∧
  HApp 2 16 [.int .i64 0, .int .i64 0] 144 v63 v69 w_15 fun v70_1 w_16 =>
  HApp 2 16 [.int .i64 0, .int .i64 0] 144 v70_1 v72_1 w_16 fun v73_1 w_17 =>
  HNil v0 fun v77_1 =>
  HFld 1 v77_1 fun v78_1 =>
  HLd v78_1 w_17 fun v79_1 =>
  HSl 2 v79_1 (some v7_1) none none fun v81_1 =>
  HApp 2 16 [.int .i64 0, .int .i64 0] 144 v73_1 v81_1 w_17 fun v82_1 w_18 =>
  HNil v0 fun v83_1 =>
  HFld 1 v83_1 fun v84_1 =>
  HSt v84_1 v82_1 w_18 fun w_19 =>
  R (.tuple #[]) w_19)) ∧
  (HBldS (zrow [.int .i64 0, .int .i64 0] 1) [(0, 2, v71)] 144 1 w_8 fun v72_2 w_20 =>
  HLd v66 w_20 fun v67_3 =>
  v67_3 = v67 ∧
  HBldS (zrow [.int .i64 0, .int .i64 0] 0) [] 144 0 w_20 fun v63_1 w_21 =>
  HLd v66 w_21 fun v67_4 =>
  v67_4 = v67 ∧
  HApp 2 16 [.int .i64 0, .int .i64 0] 144 v63_1 v69 w_21 fun v70_2 w_22 =>
  HApp 2 16 [.int .i64 0, .int .i64 0] 144 v70_2 v72_2 w_22 fun v73_2 w_23 =>
  HNil v0 fun v77_2 =>
  HFld 1 v77_2 fun v78_2 =>
  HLd v78_2 w_23 fun v79_2 =>
  HSl 2 v79_2 (some v7_1) none none fun v81_2 =>
  HApp 2 16 [.int .i64 0, .int .i64 0] 144 v73_2 v81_2 w_23 fun v82_2 w_24 =>
  HNil v0 fun v83_2 =>
  HFld 1 v83_2 fun v84_2 =>
  HSt v84_2 v82_2 w_24 fun w_25 =>
  R (.tuple #[]) w_25)
theorem vc47 (v0 : Value) (v1 : Value) (v2 : Value) (w : World) (R : Value → World → Prop) (h : Vc47 v0 v1 v2 w R) : HCall Try.prog 47 [v0, v1, v2] w R :=
  funP_sound (JL := [(3, [7], [0, 1, 6])]) (JC := [(5, [7], [0, 6])]) Tcall_ok mixed_ok Try.func47 (by kernel_rfl) (by kernel_rfl)
    (((by kernel_rfl : funP Try.prog Tcall [(3, [7], [0, 1, 6])] [(5, [7], [0, 6])] Try.f47 [v0, v1, v2] w R = Vc47 v0 v1 v2 w R)).mpr h)

-- wheel.Wheel.Del
def Vc48 (v0 : Value) (v1 : Value) (w : World) (R : Value → World → Prop) : Prop :=
  HCall Try.prog 82 [v0, v1] w fun v9 w_1 =>
  HBin .lss v9 (.int .i64 0) fun v11 =>
  HIf v11
  (R (.bool false) w_1)
  (HCall Try.prog 75 [v1] w_1 fun v13 w_2 =>
  HDraw w_2 fun w_3 =>
  HNil v0 fun v18 =>
  HFld 0 v18 fun v19 =>
  HIdxA 1 16 v19 v13 fun v20 =>
  HLd v20 w_3 fun v21 =>
  HBin .add v9 (.int .i64 1) fun v24 =>
  HNil v0 fun v26 =>
  HFld 0 v26 fun v27 =>
  HCall Try.prog 83 [v21, v9, v24] w_3 fun v25 w_4 =>
  HIdxA 1 16 v27 v13 fun v28 =>
  HSt v28 v25 w_4 fun w_5 =>
  R (.bool true) w_5)
theorem vc48 (v0 : Value) (v1 : Value) (w : World) (R : Value → World → Prop) (h : Vc48 v0 v1 w R) : HCall Try.prog 48 [v0, v1] w R :=
  funP_sound (JL := []) (JC := []) Tcall_ok mixed_ok Try.func48 (by kernel_rfl) (by kernel_rfl)
    (((by kernel_rfl : funP Try.prog Tcall [] [] Try.f48 [v0, v1] w R = Vc48 v0 v1 w R)).mpr h)

-- qanatref19.Wheel.Del
def Vc49 (v0 : Value) (v1 : Value) (w : World) (R : Value → World → Prop) : Prop :=
  ∃ (I : List Value → World → Prop) (μ : List Value → World → Nat), I [(.int .i64 0)] w ∧
  ∀ (v5 : Value) w_1, I [v5] w_1 →
  HNil v0 fun v8 =>
  HFld 1 v8 fun v9 =>
  HLd v9 w_1 fun v10 =>
  HLenS v10 fun v11 =>
  HBin .lss v5 v11 fun v12 =>
  HIf v12
  (HNil v0 fun v16 =>
  HFld 1 v16 fun v17 =>
  HLd v17 w_1 fun v18 =>
  HIdx 2 v18 v5 fun v20 =>
  HFld 0 v20 fun v21 =>
  HLd v21 w_1 fun v22 =>
  HBin .eql v22 v1 fun v24 =>
  HIf v24
  (HDraw w_1 fun w_2 =>
  HNil v0 fun v28 =>
  HFld 1 v28 fun v29 =>
  HLd v29 w_2 fun v30 =>
  HSl 2 v30 none (some v5) none fun v32 =>
  HNil v0 fun v35 =>
  HFld 1 v35 fun v36 =>
  HLd v36 w_2 fun v37 =>
  HBin .add v5 (.int .i64 1) fun v39 =>
  HSl 2 v37 (some v39) none none fun v40 =>
  HBldS (zrow [.int .i64 0, .int .i64 0] 0) [] 144 0 w_2 fun v26 w_3 =>
  HLd v29 w_3 fun v30_1 =>
  v30_1 = v30 ∧
  HLd v36 w_3 fun v37_1 =>
  v37_1 = v37 ∧
  HApp 2 16 [.int .i64 0, .int .i64 0] 144 v26 v32 w_3 fun v33 w_4 =>
  HLd v36 w_4 fun v37_2 =>
  v37_2 = v37 ∧
  HApp 2 16 [.int .i64 0, .int .i64 0] 144 v33 v40 w_4 fun v41 w_5 =>
  HNil v0 fun v42 =>
  HFld 1 v42 fun v43 =>
  HSt v43 v41 w_5 fun w_6 =>
  R (.bool true) w_6)
  (HBin .add v5 (.int .i64 1) fun v14 =>
  I [v14] w_1 ∧ μ [v14] w_1 < μ [v5] w_1))
  (R (.bool false) w_1)
theorem vc49 (v0 : Value) (v1 : Value) (w : World) (R : Value → World → Prop) (h : Vc49 v0 v1 w R) : HCall Try.prog 49 [v0, v1] w R :=
  funP_sound (JL := [(2, [5], [0, 1])]) (JC := []) Tcall_ok mixed_ok Try.func49 (by kernel_rfl) (by kernel_rfl)
    (((by kernel_rfl : funP Try.prog Tcall [(2, [5], [0, 1])] [] Try.f49 [v0, v1] w R = Vc49 v0 v1 w R)).mpr h)

-- wheel.Wheel.When
def Vc50 (v0 : Value) (v1 : Value) (w : World) (R : Value → World → Prop) : Prop :=
  HCall Try.prog 82 [v0, v1] w fun v9 w_1 =>
  HBin .lss v9 (.int .i64 0) fun v11 =>
  HIf v11
  (R (.tuple #[(.int .i64 0), (.bool false)]) w_1)
  (HDraw w_1 fun w_2 =>
  HNil v0 fun v15 =>
  HFld 0 v15 fun v16 =>
  HCall Try.prog 75 [v1] w_2 fun v14 w_3 =>
  HIdxA 1 16 v16 v14 fun v17 =>
  HLd v17 w_3 fun v18 =>
  HIdx 2 v18 v9 fun v20 =>
  HFld 1 v20 fun v21 =>
  HLd v21 w_3 fun v22 =>
  R (.tuple #[v22, (.bool true)]) w_3)
theorem vc50 (v0 : Value) (v1 : Value) (w : World) (R : Value → World → Prop) (h : Vc50 v0 v1 w R) : HCall Try.prog 50 [v0, v1] w R :=
  funP_sound (JL := []) (JC := []) Tcall_ok mixed_ok Try.func50 (by kernel_rfl) (by kernel_rfl)
    (((by kernel_rfl : funP Try.prog Tcall [] [] Try.f50 [v0, v1] w R = Vc50 v0 v1 w R)).mpr h)

-- qanatref19.Wheel.When
def Vc51 (v0 : Value) (v1 : Value) (w : World) (R : Value → World → Prop) : Prop :=
  ∃ (I : List Value → World → Prop) (μ : List Value → World → Nat), I [(.int .i64 0)] w ∧
  ∀ (v6 : Value) w_1, I [v6] w_1 →
  HNil v0 fun v9 =>
  HFld 1 v9 fun v10 =>
  HLd v10 w_1 fun v11 =>
  HLenS v11 fun v12 =>
  HBin .lss v6 v12 fun v13 =>
  HIf v13
  (HNil v0 fun v17 =>
  HFld 1 v17 fun v18 =>
  HLd v18 w_1 fun v19 =>
  HIdx 2 v19 v6 fun v21 =>
  HFld 0 v21 fun v22 =>
  HLd v22 w_1 fun v23 =>
  HBin .eql v23 v1 fun v25 =>
  HIf v25
  (HNil v0 fun v27 =>
  HFld 1 v27 fun v28 =>
  HLd v28 w_1 fun v29 =>
  HIdx 2 v29 v6 fun v31 =>
  HFld 1 v31 fun v32 =>
  HLd v32 w_1 fun v33 =>
  R (.tuple #[v33, (.bool true)]) w_1)
  (HBin .add v6 (.int .i64 1) fun v15 =>
  I [v15] w_1 ∧ μ [v15] w_1 < μ [v6] w_1))
  (R (.tuple #[(.int .i64 0), (.bool false)]) w_1)
theorem vc51 (v0 : Value) (v1 : Value) (w : World) (R : Value → World → Prop) (h : Vc51 v0 v1 w R) : HCall Try.prog 51 [v0, v1] w R :=
  funP_sound (JL := [(2, [6], [0, 1])]) (JC := []) Tcall_ok mixed_ok Try.func51 (by kernel_rfl) (by kernel_rfl)
    (((by kernel_rfl : funP Try.prog Tcall [(2, [6], [0, 1])] [] Try.f51 [v0, v1] w R = Vc51 v0 v1 w R)).mpr h)

-- qanathelp.Plain[int]
def Vc52 (v0 : Value) (v1 : Value) (w : World) (R : Value → World → Prop) : Prop :=
  HCall Try.prog 84 [v0, v1, (.func (.func 85) #[] #[])] w fun v7 w_1 =>
  R v7 w_1
theorem vc52 (v0 : Value) (v1 : Value) (w : World) (R : Value → World → Prop) (h : Vc52 v0 v1 w R) : HCall Try.prog 52 [v0, v1] w R :=
  funP_sound (JL := []) (JC := []) Tcall_ok mixed_ok Try.func52 (by kernel_rfl) (by kernel_rfl)
    (((by kernel_rfl : funP Try.prog Tcall [] [] Try.f52 [v0, v1] w R = Vc52 v0 v1 w R)).mpr h)

-- qanatref19.Wheel.Turn
def Vc53 (v0 : Value) (v1 : Value) (w : World) (R : Value → World → Prop) : Prop :=
  HDraw w fun w_1 =>
  HNil v0 fun v8 =>
  HFld 0 v8 fun v9 =>
  HLd v9 w_1 fun v10 =>
  HCall Try.prog 46 [v1] w_1 fun v12 w_2 =>
  HLd v9 w_2 fun v10_1 =>
  v10_1 = v10 ∧
  HMax v10 v12 fun v13 =>
  HNil v0 fun v14 =>
  HFld 0 v14 fun v15 =>
  HSt v15 v13 w_2 fun w_3 =>
  ∃ (I : List Value → World → Prop) (μ : List Value → World → Nat), I [(.slice Option.none 0 0)] w_3 ∧
  ∀ (v5 : Value) w_4, I [v5] w_4 →
  HDraw w_4 fun w_5 =>
  HNil v0 fun v17 =>
  HFld 1 v17 fun v18 =>
  HLd v18 w_5 fun v19 =>
  HLenS v19 fun v20 =>
  HBin .gtr v20 (.int .i64 0) fun v21 =>
  HIf v21
  (HNil v0 fun v24 =>
  HFld 1 v24 fun v25 =>
  HLd v25 w_5 fun v26 =>
  HIdx 2 v26 (.int .i64 0) fun v27 =>
  HFld 1 v27 fun v28 =>
  HLd v28 w_5 fun v29 =>
  HNil v0 fun v31 =>
  HFld 0 v31 fun v32 =>
  HLd v32 w_5 fun v33 =>
  HBin .leq v29 v33 fun v34 =>
  HIf v34
  (HNil v0 fun v38 =>
  HFld 1 v38 fun v39 =>
  HLd v39 w_5 fun v40 =>
  HIdx 2 v40 (.int .i64 0) fun v41 =>
  HFld 0 v41 fun v42 =>
  HLd v42 w_5 fun v43 =>
  HBldS (zrow [.int .i64 0] 1) [(0, 1, v43)] 3 1 w_5 fun v44 w_6 =>
  HApp 1 8 [.int .i64 0] 3 v5 v44 w_6 fun v45 w_7 =>
  HNil v0 fun v48 =>
  HFld 1 v48 fun v49 =>
  HLd v49 w_7 fun v50 =>
  HSl 2 v50 (some (.int .i64 1)) none none fun v51 =>
  HNil v0 fun v52 =>
  HFld 1 v52 fun v53 =>
  HSt v53 v51 w_7 fun w_8 =>
  I [v45] w_8 ∧ μ [v45] w_8 < μ [v5] w_4)
  (R v5 w_5))
  (R v5 w_5)
theorem vc53 (v0 : Value) (v1 : Value) (w : World) (R : Value → World → Prop) (h : Vc53 v0 v1 w R) : HCall Try.prog 53 [v0, v1] w R :=
  funP_sound (JL := [(3, [5], [0])]) (JC := []) Tcall_ok mixed_ok Try.func53 (by kernel_rfl) (by kernel_rfl)
    (((by kernel_rfl : funP Try.prog Tcall [(3, [5], [0])] [] Try.f53 [v0, v1] w R = Vc53 v0 v1 w R)).mpr h)

-- wheel.Wheel.Now
def Vc54 (v0 : Value) (w : World) (R : Value → World → Prop) : Prop :=
  HNil v0 fun v4 =>
  HFld 16 v4 fun v5 =>
  HLd v5 w fun v6 =>
  R v6 w
theorem vc54 (v0 : Value) (w : World) (R : Value → World → Prop) (h : Vc54 v0 w R) : HCall Try.prog 54 [v0] w R :=
  funP_sound (JL := []) (JC := []) Tcall_ok mixed_ok Try.func54 (by kernel_rfl) (by kernel_rfl)
    (((by kernel_rfl : funP Try.prog Tcall [] [] Try.f54 [v0] w R = Vc54 v0 w R)).mpr h)

-- wheel.held
def Vc74 (v0 : Value) (w : World) (R : Value → World → Prop) : Prop :=
  HMax v0 (.int .i64 0) fun v4 =>
  HMin v4 (.int .i64 1125899906842624) fun v5 =>
  R v5 w
theorem vc74 (v0 : Value) (w : World) (R : Value → World → Prop) (h : Vc74 v0 w R) : HCall Try.prog 74 [v0] w R :=
  funP_sound (JL := []) (JC := []) Tcall_ok mixed_ok Try.func74 (by kernel_rfl) (by kernel_rfl)
    (((by kernel_rfl : funP Try.prog Tcall [] [] Try.f74 [v0] w R = Vc74 v0 w R)).mpr h)

-- wheel.spoke
def Vc75 (v0 : Value) (w : World) (R : Value → World → Prop) : Prop :=
  HCvI .u64 v0 fun v4 =>
  HBin .rem v4 (.int .u64 16) fun v5 =>
  HCvI .i64 v5 fun v6 =>
  R v6 w
theorem vc75 (v0 : Value) (w : World) (R : Value → World → Prop) (h : Vc75 v0 w R) : HCall Try.prog 75 [v0] w R :=
  funP_sound (JL := []) (JC := []) Tcall_ok mixed_ok Try.func75 (by kernel_rfl) (by kernel_rfl)
    (((by kernel_rfl : funP Try.prog Tcall [] [] Try.f75 [v0] w R = Vc75 v0 w R)).mpr h)

-- wheel.Wheel.due
def Vc76 (v0 : Value) (w : World) (R : Value → World → Prop) : Prop :=
  HNil v0 fun v9 =>
  HFld 0 v9 fun v10 =>
  HLdN 16 v10 w fun v11 =>
  ∃ (I : List Value → World → Prop) (μ : List Value → World → Nat), I [(.slice Option.none 0 0), (.int .i64 0)] w ∧
  ∀ (v3 : Value) (v12 : Value) w_1, I [v3, v12] w_1 →
  HBin .lss v12 (.int .i64 16) fun v13 =>
  HIf v13
  (HRq Try.prog (Instr.index 132 v11 v12) w_1 fun v14 =>
  HLenS v14 fun v16 =>
  ∃ (I_1 : List Value → World → Prop) (μ_1 : List Value → World → Nat), I_1 [v3, (.int .i64 0)] w_1 ∧
  ∀ (v3_1 : Value) (v17 : Value) w_2, I_1 [v3_1, v17] w_2 →
  HBin .lss v17 v16 fun v18 =>
  HIf v18
  (HIdx 2 v14 v17 fun v19 =>
  HLdN 2 v19 w_2 fun v20 =>
  HNew [.int .i64 0, .int .i64 0] 137 w_2 fun v7 w_3 =>
  HStN 2 v7 v20 w_3 fun w_4 =>
  HDraw w_4 fun w_5 =>
  HFld 1 v7 fun v21 =>
  HLd v21 w_5 fun v22 =>
  HNil v0 fun v24 =>
  HFld 16 v24 fun v25 =>
  HLd v25 w_5 fun v26 =>
  HBin .leq v22 v26 fun v27 =>
  HIf v27
  (HLdN 2 v7 w_5 fun v29 =>
  HBldS (zrow [.int .i64 0, .int .i64 0] 1) [(0, 2, v29)] 137 1 w_5 fun v30 w_6 =>
  HApp 2 16 [.int .i64 0, .int .i64 0] 137 v3_1 v30 w_6 fun v31 w_7 =>
  HBin .add v17 (.int .i64 1) fun v32 =>
  I_1 [v31, v32] w_7 ∧ μ_1 [v31, v32] w_7 < μ_1 [v3_1, v17] w_2)
  (HBin .add v17 (.int .i64 1) fun v32_1 =>
  I_1 [v3_1, v32_1] w_5 ∧ μ_1 [v3_1, v32_1] w_5 < μ_1 [v3_1, v17] w_2))
  (HBin .add v12 (.int .i64 1) fun v33 =>
  I [v3_1, v33] w_2 ∧ μ [v3_1, v33] w_2 < μ [v3, v12] w_1))
  (R v3 w_1)
theorem vc76 (v0 : Value) (w : World) (R : Value → World → Prop) (h : Vc76 v0 w R) : HCall Try.prog 76 [v0] w R :=
  funP_sound (JL := [(3, [3, 12], [0, 11]), (6, [3, 17], [0, 11, 12, 15, 16])]) (JC := []) Tcall_ok mixed_ok Try.func76 (by kernel_rfl) (by kernel_rfl)
    (((by kernel_rfl : funP Try.prog Tcall [(3, [3, 12], [0, 11]), (6, [3, 17], [0, 11, 12, 15, 16])] [] Try.f76 [v0] w R = Vc76 v0 w R)).mpr h)

-- wheel.Wheel.Turn$1
def Vc78 (v0 : Value) (v1 : Value) (w : World) (R : Value → World → Prop) : Prop :=
  ∃ cs : List Value, v0 = .agg cs.toArray ∧ HNew cs 137 w fun v2 w_1 =>
  ∃ cs_1 : List Value, v1 = .agg cs_1.toArray ∧ HNew cs_1 137 w_1 fun v3 w_2 =>
  HDraw w_2 fun w_3 =>
  HFld 1 v2 fun v5 =>
  HLd v5 w_3 fun v6 =>
  HFld 1 v3 fun v7 =>
  HLd v7 w_3 fun v8 =>
  HFld 0 v2 fun v10 =>
  HLd v10 w_3 fun v11 =>
  HFld 0 v3 fun v12 =>
  HLd v12 w_3 fun v13 =>
  HCall Try.prog 80 [v6, v8] w_3 fun v9 w_4 =>
  HLd v10 w_4 fun v11_1 =>
  v11_1 = v11 ∧
  HLd v12 w_4 fun v13_1 =>
  v13_1 = v13 ∧
  HCall Try.prog 81 [v11, v13] w_4 fun v14 w_5 =>
  HBldS (zrow [.int .i64 0] 2) [(0, 1, v9), (1, 1, v14)] 3 2 w_5 fun v15 w_6 =>
  HCall Try.prog 79 [v15] w_6 fun v16 w_7 =>
  R v16 w_7
theorem vc78 (v0 : Value) (v1 : Value) (w : World) (R : Value → World → Prop) (h : Vc78 v0 v1 w R) : HCall Try.prog 78 [v0, v1] w R :=
  funP_sound (JL := []) (JC := []) Tcall_ok mixed_ok Try.func78 (by kernel_rfl) (by kernel_rfl)
    (((by kernel_rfl : funP Try.prog Tcall [] [] Try.f78 [v0, v1] w R = Vc78 v0 v1 w R)).mpr h)

-- cmp.Or[int]
def Vc79 (v0 : Value) (w : World) (R : Value → World → Prop) : Prop :=
  HLenS v0 fun v7 =>
  ∃ (I : List Value → World → Prop) (μ : List Value → World → Nat), I [(.int .i64 0)] w ∧
  ∀ (v8 : Value) w_1, I [v8] w_1 →
  HBin .lss v8 v7 fun v9 =>
  HIf v9
  (HIdx 1 v0 v8 fun v10 =>
  HLd v10 w_1 fun v11 =>
  HBin .neq v11 (.int .i64 0) fun v14 =>
  HIf v14
  (R v11 w_1)
  (HBin .add v8 (.int .i64 1) fun v16 =>
  I [v16] w_1 ∧ μ [v16] w_1 < μ [v8] w_1))
  (R (.int .i64 0) w_1)
theorem vc79 (v0 : Value) (w : World) (R : Value → World → Prop) (h : Vc79 v0 w R) : HCall Try.prog 79 [v0] w R :=
  funP_sound (JL := [(3, [8], [3, 6, 7])]) (JC := []) Tcall_ok mixed_ok Try.func79 (by kernel_rfl) (by kernel_rfl)
    (((by kernel_rfl : funP Try.prog Tcall [(3, [8], [3, 6, 7])] [] Try.f79 [v0] w R = Vc79 v0 w R)).mpr h)

-- cmp.Compare[int64]
def Vc80 (v0 : Value) (v1 : Value) (w : World) (R : Value → World → Prop) : Prop :=
  HCall Try.prog 95 [v0] w fun v8 w_1 =>
  HCall Try.prog 95 [v1] w_1 fun v10 w_2 =>
  HIf v8
  (HIf v10
  (R (.int .i64 0) w_2)
  (R (.int .i64 (-1)) w_2))
  (HIf v10
  (R (.int .i64 1) w_2)
  (HBin .lss v0 v1 fun v16 =>
  HIf v16
  (R (.int .i64 (-1)) w_2)
  (HBin .gtr v0 v1 fun v19 =>
  HIf v19
  (R (.int .i64 1) w_2)
  (R (.int .i64 0) w_2))))
theorem vc80 (v0 : Value) (v1 : Value) (w : World) (R : Value → World → Prop) (h : Vc80 v0 v1 w R) : HCall Try.prog 80 [v0, v1] w R :=
  funP_sound (JL := []) (JC := []) Tcall_ok mixed_ok Try.func80 (by kernel_rfl) (by kernel_rfl)
    (((by kernel_rfl : funP Try.prog Tcall [] [] Try.f80 [v0, v1] w R = Vc80 v0 v1 w R)).mpr h)

-- cmp.Compare[int]
def Vc81 (v0 : Value) (v1 : Value) (w : World) (R : Value → World → Prop) : Prop :=
  HCall Try.prog 96 [v0] w fun v8 w_1 =>
  HCall Try.prog 96 [v1] w_1 fun v10 w_2 =>
  HIf v8
  (HIf v10
  (R (.int .i64 0) w_2)
  (R (.int .i64 (-1)) w_2))
  (HIf v10
  (R (.int .i64 1) w_2)
  (HBin .lss v0 v1 fun v16 =>
  HIf v16
  (R (.int .i64 (-1)) w_2)
  (HBin .gtr v0 v1 fun v19 =>
  HIf v19
  (R (.int .i64 1) w_2)
  (R (.int .i64 0) w_2))))
theorem vc81 (v0 : Value) (v1 : Value) (w : World) (R : Value → World → Prop) (h : Vc81 v0 v1 w R) : HCall Try.prog 81 [v0, v1] w R :=
  funP_sound (JL := []) (JC := []) Tcall_ok mixed_ok Try.func81 (by kernel_rfl) (by kernel_rfl)
    (((by kernel_rfl : funP Try.prog Tcall [] [] Try.f81 [v0, v1] w R = Vc81 v0 v1 w R)).mpr h)

-- wheel.Wheel.place
def Vc82 (v0 : Value) (v1 : Value) (w : World) (R : Value → World → Prop) : Prop :=
  (v1).oneCell' = true ∧ HNew [v1] 3 w fun v3 w_1 =>
  HDraw w_1 fun w_2 =>
  HLd v3 w_2 fun v6 =>
  HNil v0 fun v8 =>
  HFld 0 v8 fun v9 =>
  HCall Try.prog 75 [v6] w_2 fun v7 w_3 =>
  HIdxA 1 16 v9 v7 fun v10 =>
  HLd v10 w_3 fun v11 =>
  HCall Try.prog 97 [v11, (.func (.func 98) [].toArray [v3].toArray)] w_3 fun v13 w_4 =>
  R v13 w_4
theorem vc82 (v0 : Value) (v1 : Value) (w : World) (R : Value → World → Prop) (h : Vc82 v0 v1 w R) : HCall Try.prog 82 [v0, v1] w R :=
  funP_sound (JL := []) (JC := []) Tcall_ok mixed_ok Try.func82 (by kernel_rfl) (by kernel_rfl)
    (((by kernel_rfl : funP Try.prog Tcall [] [] Try.f82 [v0, v1] w R = Vc82 v0 v1 w R)).mpr h)

-- slices.Delete[[]wheel.timer,wheel.timer]
def Vc83 (v0 : Value) (v1 : Value) (v2 : Value) (w : World) (R : Value → World → Prop) : Prop :=
  HLenS v0 fun v12 =>
  HSl 2 v0 (some v1) (some v2) (some v12) fun v13 =>
  HBin .eql v1 v2 fun v16 =>
  HIf v16
  (R v0 w)
  (HLenS v0 fun v19 =>
  HDraw w fun w_1 =>
  HSl 2 v0 none (some v1) none fun v22 =>
  HSl 2 v0 (some v2) none none fun v25 =>
  HApp 2 16 [.int .i64 0, .int .i64 0] 137 v22 v25 w_1 fun v26 w_2 =>
  HLenS v26 fun v29 =>
  HSl 2 v26 (some v29) (some v19) none fun v31 =>
  HRun Try.prog (Builtin.clear_ #[131] 0 [v31].toArray) w_2 fun u w_3 =>
  R v26 w_3)
theorem vc83 (v0 : Value) (v1 : Value) (v2 : Value) (w : World) (R : Value → World → Prop) (h : Vc83 v0 v1 v2 w R) : HCall Try.prog 83 [v0, v1, v2] w R :=
  funP_sound (JL := []) (JC := []) Tcall_ok mixed_ok Try.func83 (by kernel_rfl) (by kernel_rfl)
    (((by kernel_rfl : funP Try.prog Tcall [] [] Try.f83 [v0, v1, v2] w R = Vc83 v0 v1 v2 w R)).mpr h)

-- qanathelp.Same[int]
def Vc84 (v0 : Value) (v1 : Value) (v2 : Value) (w : World) (R : Value → World → Prop) : Prop :=
  HLenS v0 fun v9 =>
  HLenS v1 fun v11 =>
  HBin .neq v9 v11 fun v12 =>
  HIf v12
  (R (.bool false) w)
  (∃ (I : List Value → World → Prop) (μ : List Value → World → Nat), I [(.int .i64 0)] w ∧
  ∀ (v7 : Value) w_1, I [v7] w_1 →
  HLenS v0 fun v15 =>
  HBin .lss v7 v15 fun v16 =>
  HIf v16
  (HDraw w_1 fun w_2 =>
  HIdx 1 v0 v7 fun v22 =>
  HLd v22 w_2 fun v23 =>
  HIdx 1 v1 v7 fun v26 =>
  HLd v26 w_2 fun v27 =>
  HCallV Try.prog Tcall v2 [v23, v27] w_2 fun v28 w_3 =>
  HNot v28 fun v29 =>
  HIf v29
  (R (.bool false) w_3)
  (HBin .add v7 (.int .i64 1) fun v18 =>
  I [v18] w_3 ∧ μ [v18] w_3 < μ [v7] w_1))
  (R (.bool true) w_1))
theorem vc84 (v0 : Value) (v1 : Value) (v2 : Value) (w : World) (R : Value → World → Prop) (h : Vc84 v0 v1 v2 w R) : HCall Try.prog 84 [v0, v1, v2] w R :=
  funP_sound (JL := [(4, [7], [0, 1, 2])]) (JC := []) Tcall_ok mixed_ok Try.func84 (by kernel_rfl) (by kernel_rfl)
    (((by kernel_rfl : funP Try.prog Tcall [(4, [7], [0, 1, 2])] [] Try.f84 [v0, v1, v2] w R = Vc84 v0 v1 v2 w R)).mpr h)

-- qanathelp.Plain[int]$1
def Vc85 (v0 : Value) (v1 : Value) (w : World) (R : Value → World → Prop) : Prop :=
  HBin .eql v0 v1 fun v7 =>
  R v7 w
theorem vc85 (v0 : Value) (v1 : Value) (w : World) (R : Value → World → Prop) (h : Vc85 v0 v1 w R) : HCall Try.prog 85 [v0, v1] w R :=
  funP_sound (JL := []) (JC := []) Tcall_ok mixed_ok Try.func85 (by kernel_rfl) (by kernel_rfl)
    (((by kernel_rfl : funP Try.prog Tcall [] [] Try.f85 [v0, v1] w R = Vc85 v0 v1 w R)).mpr h)

-- cmp.isNaN[int64]
def Vc95 (v0 : Value) (w : World) (R : Value → World → Prop) : Prop :=
  HBin .neq v0 v0 fun v5 =>
  R v5 w
theorem vc95 (v0 : Value) (w : World) (R : Value → World → Prop) (h : Vc95 v0 w R) : HCall Try.prog 95 [v0] w R :=
  funP_sound (JL := []) (JC := []) Tcall_ok mixed_ok Try.func95 (by kernel_rfl) (by kernel_rfl)
    (((by kernel_rfl : funP Try.prog Tcall [] [] Try.f95 [v0] w R = Vc95 v0 w R)).mpr h)

-- cmp.isNaN[int]
def Vc96 (v0 : Value) (w : World) (R : Value → World → Prop) : Prop :=
  HBin .neq v0 v0 fun v5 =>
  R v5 w
theorem vc96 (v0 : Value) (w : World) (R : Value → World → Prop) (h : Vc96 v0 w R) : HCall Try.prog 96 [v0] w R :=
  funP_sound (JL := []) (JC := []) Tcall_ok mixed_ok Try.func96 (by kernel_rfl) (by kernel_rfl)
    (((by kernel_rfl : funP Try.prog Tcall [] [] Try.f96 [v0] w R = Vc96 v0 w R)).mpr h)

-- slices.IndexFunc[[]wheel.timer,wheel.timer]
def Vc97 (v0 : Value) (v1 : Value) (w : World) (R : Value → World → Prop) : Prop :=
  HLenS v0 fun v7 =>
  ∃ (I : List Value → World → Prop) (μ : List Value → World → Nat), I [(.int .i64 0)] w ∧
  ∀ (v8 : Value) w_1, I [v8] w_1 →
  HBin .lss v8 v7 fun v9 =>
  HIf v9
  (HIdx 2 v0 v8 fun v14 =>
  HLdN 2 v14 w_1 fun v15 =>
  HCallV Try.prog Tcall v1 [v15] w_1 fun v16 w_2 =>
  HIf v16
  (R v8 w_2)
  (HBin .add v8 (.int .i64 1) fun v18 =>
  I [v18] w_2 ∧ μ [v18] w_2 < μ [v8] w_1))
  (R (.int .i64 (-1)) w_1)
theorem vc97 (v0 : Value) (v1 : Value) (w : World) (R : Value → World → Prop) (h : Vc97 v0 v1 w R) : HCall Try.prog 97 [v0, v1] w R :=
  funP_sound (JL := [(2, [8], [0, 1, 7])]) (JC := []) Tcall_ok mixed_ok Try.func97 (by kernel_rfl) (by kernel_rfl)
    (((by kernel_rfl : funP Try.prog Tcall [(2, [8], [0, 1, 7])] [] Try.f97 [v0, v1] w R = Vc97 v0 v1 w R)).mpr h)

-- wheel.Wheel.place$1
def Vc98 (v0 : Value) (c0 : Value) (w : World) (R : Value → World → Prop) : Prop :=
  ∃ cs : List Value, v0 = .agg cs.toArray ∧ HNew cs 137 w fun v2 w_1 =>
  HFld 0 v2 fun v4 =>
  HLd v4 w_1 fun v5 =>
  HLd c0 w_1 fun v6 =>
  HBin .eql v5 v6 fun v7 =>
  R v7 w_1
theorem vc98 (v0 : Value) (c0 : Value) (w : World) (R : Value → World → Prop) (h : Vc98 v0 c0 w R) : HCall Try.prog 98 [v0, c0] w R :=
  funP_sound (JL := []) (JC := []) Tcall_ok mixed_ok Try.func98 (by kernel_rfl) (by kernel_rfl)
    (((by kernel_rfl : funP Try.prog Tcall [] [] Try.f98 [v0, c0] w R = Vc98 v0 c0 w R)).mpr h)

end Go.Proofs.Ytffogjfnmbgogaa
