/-
  What calls of functions ask, printed by a program of mine (gen.py) out of the functions' code; each is checked by the kernel.
-/
import Derived.Test.YtilgfgghjdomcaaTab
namespace Go.Proofs.Ytilgfgghjdomcaa
set_option linter.unusedVariables false
set_option maxRecDepth 100000
open Go.RowKit

-- qanatlaw06.WalTorn
def Vc3 (v0 : Value) (v1 : Value) (v2 : Value) (v3 : Value) (w : World) (R : Value → World → Prop) : Prop :=
  HCall Try.prog 7 [] w fun v28 w_1 =>
  HCall Try.prog 9 [v0] w_1 fun v32 w_2 =>
  HCall Try.prog 8 [v28, (.int .i64 5), v32] w_2 fun v33 w_3 =>
  HExt 0 v33 fun v34 =>
  HExt 1 v33 fun v35 =>
  HCall Try.prog 10 [] w_3 fun v36 w_4 =>
  HNot v36 fun v37 =>
  HIf v37
  (HCall Try.prog 10 [] w_4 fun v65 w_5 =>
  R v65 w_5)
  (HEq (.pointer 60) false v28 (.pointer Option.none) fun v40 =>
  HIf v40
  (HCall Try.prog 10 [] w_4 fun v65_1 w_6 =>
  R v65_1 w_6)
  (HEq (.pointer 46) false v34 (.pointer Option.none) fun v44 =>
  HIf v44
  (HCall Try.prog 10 [] w_4 fun v65_2 w_7 =>
  R v65_2 w_7)
  (HBin .neq v35 (.int .i64 0) fun v48 =>
  HIf v48
  (HCall Try.prog 10 [] w_4 fun v65_3 w_8 =>
  R v65_3 w_8)
  (HLenS v1 fun v52 =>
  HBin .eql v52 (.int .i64 0) fun v53 =>
  HIf v53
  (HCall Try.prog 10 [] w_4 fun v65_4 w_9 =>
  R v65_4 w_9)
  (HLenS v1 fun v57 =>
  HBin .gtr v57 (.int .i64 30) fun v58 =>
  HIf v58
  (HCall Try.prog 10 [] w_4 fun v65_5 w_10 =>
  R v65_5 w_10)
  (HLenS v3 fun v62 =>
  HBin .gtr v62 (.int .i64 1000) fun v63 =>
  HIf v63
  (HCall Try.prog 10 [] w_4 fun v65_6 w_11 =>
  R v65_6 w_11)
  (∃ (I : List Value → World → Prop) (μ : List Value → World → Nat), I [(.int .i64 0)] w_4 ∧
  ∀ (v12 : Value) w_12, I [v12] w_12 →
  HLenS v1 fun v68 =>
  HBin .lss v12 v68 fun v69 =>
  HIf v69
  (HIdx 1 v1 v12 fun v74 =>
  HLd v74 w_12 fun v75 =>
  HLenS v75 fun v76 =>
  HBin .gtr v76 (.int .i64 1000) fun v77 =>
  HIf v77
  (R (.bool true) w_12)
  (HIdx 1 v1 v12 fun v82 =>
  HLd v82 w_12 fun v83 =>
  HCall Try.prog 11 [v34, v83] w_12 fun v84 w_13 =>
  HExt 0 v84 fun v85 =>
  HExt 1 v84 fun v86 =>
  HBin .neq v86 (.int .i64 0) fun v88 =>
  HIf v88
  (R (.bool false) w_13)
  (HBin .add v12 (.int .i64 1) fun v71 =>
  I [v71] w_13 ∧ μ [v71] w_13 < μ [v12] w_12)))
  (HCall Try.prog 12 [v28] w_12 fun v90 w_14 =>
  HLenS v90 fun v92 =>
  HBin .eql v92 (.int .i64 0) fun v93 =>
  HIf v93
  (R (.bool false) w_14)
  (HLenS v90 fun v96 =>
  HBin .sub v96 (.int .i64 1) fun v97 =>
  HIdx 1 v90 v97 fun v98 =>
  HLd v98 w_14 fun v99 =>
  HCall Try.prog 13 [v28, v99] w_14 fun v103 w_15 =>
  HExt 0 v103 fun v104 =>
  HExt 1 v103 fun v105 =>
  HLenS v104 fun v107 =>
  HBin .eql v107 (.int .i64 0) fun v108 =>
  HIf v108
  (R (.bool false) w_15)
  (HLenS v104 fun v114 =>
  HCall Try.prog 15 [v2, v114] w_15 fun v115 w_16 =>
  HCall Try.prog 14 [v28, v99, v115] w_16 fun v116 w_17 =>
  HBin .neq v116 (.int .i64 0) fun v117 =>
  HIf v117
  (R (.bool false) w_17)
  (HCall Try.prog 9 [v0] w_17 fun v122 w_18 =>
  HCall Try.prog 8 [v28, (.int .i64 5), v122] w_18 fun v123 w_19 =>
  HExt 0 v123 fun v124 =>
  HExt 1 v123 fun v125 =>
  HBin .neq v125 (.int .i64 0) fun v127 =>
  HIf v127
  (R (.bool false) w_19)
  (HEq (.pointer 46) false v124 (.pointer Option.none) fun v130 =>
  HIf v130
  (R (.bool false) w_19)
  (HNil v124 fun v134 =>
  HFld 0 v134 fun v135 =>
  HCall Try.prog 16 [v135] w_19 fun v136 w_20 =>
  HLenS v1 fun v138 =>
  HBin .geq v136 v138 fun v139 =>
  HIf v139
  (R (.bool false) w_20)
  (HNil v124 fun v143 =>
  HFld 0 v143 fun v144 =>
  HCall Try.prog 16 [v144] w_20 fun v145 w_21 =>
  HBin .lss v145 (.int .i64 0) fun v146 =>
  HIf v146
  (R (.bool false) w_21)
  (HCall Try.prog 11 [v124, v3] w_21 fun v151 w_22 =>
  HExt 0 v151 fun v152 =>
  HExt 1 v151 fun v153 =>
  HBin .neq v153 (.int .i64 0) fun v155 =>
  HIf v155
  (R (.bool false) w_22)
  (HNil v124 fun v159 =>
  HFld 0 v159 fun v160 =>
  HCall Try.prog 16 [v160] w_22 fun v161 w_23 =>
  HBin .neq v152 v161 fun v162 =>
  HIf v162
  (R (.bool false) w_23)
  (HBin .lss v152 (.int .i64 1) fun v166 =>
  HIf v166
  (R (.bool false) w_23)
  (HLenS v1 fun v171 =>
  HBin .gtr v152 v171 fun v172 =>
  HIf v172
  (R (.bool false) w_23)
  (∃ (I_1 : List Value → World → Prop) (μ_1 : List Value → World → Nat), I_1 [(.int .i64 0)] w_23 ∧
  ∀ (v23 : Value) w_24, I_1 [v23] w_24 →
  HBin .sub v152 (.int .i64 1) fun v176 =>
  HBin .lss v23 v176 fun v177 =>
  HIf v177
  (HNil v124 fun v182 =>
  HFld 0 v182 fun v183 =>
  HBin .add v23 (.int .i64 1) fun v185 =>
  HCall Try.prog 17 [v183, v185] w_24 fun v186 w_25 =>
  HExt 0 v186 fun v187 =>
  HExt 1 v186 fun v188 =>
  HBin .neq v188 (.int .i64 0) fun v190 =>
  HIf v190
  (R (.bool false) w_25)
  (HIdx 1 v1 v23 fun v195 =>
  HLd v195 w_25 fun v196 =>
  HCall Try.prog 18 [v187, v196] w_25 fun v197 w_26 =>
  HNot v197 fun v198 =>
  HIf v198
  (R (.bool false) w_26)
  (HBin .add v23 (.int .i64 1) fun v179 =>
  I_1 [v179] w_26 ∧ μ_1 [v179] w_26 < μ_1 [v23] w_24)))
  (HNil v124 fun v202 =>
  HFld 0 v202 fun v203 =>
  HCall Try.prog 17 [v203, v152] w_24 fun v205 w_27 =>
  HExt 0 v205 fun v206 =>
  HExt 1 v205 fun v207 =>
  HBin .eql v207 (.int .i64 0) fun v209 =>
  HIf v209
  (HCall Try.prog 18 [v206, v3] w_27 fun v213 w_28 =>
  HIf v213
  (HCall Try.prog 19 [v28] w_28 fun v217 w_29 =>
  HEq .bool false v217 (.bool false) fun v218 =>
  R v218 w_29)
  (R (.bool false) w_28))
  (R (.bool false) w_27)))))))))))))))))))))
theorem vc3 (v0 : Value) (v1 : Value) (v2 : Value) (v3 : Value) (w : World) (R : Value → World → Prop) (h : Vc3 v0 v1 v2 v3 w R) : HCall Try.prog 3 [v0, v1, v2, v3] w R :=
  funP_sound (JL := [(6, [12], [0, 1, 2, 3, 9, 10]), (27, [23], [1, 3, 9, 19, 21])]) (JC := []) Tcall_ok mixed_ok Try.func3 (by kernel_rfl) (by kernel_rfl)
    (((by kernel_rfl : funP Try.prog Tcall [(6, [12], [0, 1, 2, 3, 9, 10]), (27, [23], [1, 3, 9, 19, 21])] [] Try.f3 [v0, v1, v2, v3] w R = Vc3 v0 v1 v2 v3 w R)).mpr h)

-- qanatlaw06.WalTrims
def Vc4 (v0 : Value) (v1 : Value) (v2 : Value) (w : World) (R : Value → World → Prop) : Prop :=
  HCall Try.prog 7 [] w fun v23 w_1 =>
  HCall Try.prog 8 [v23, (.int .i64 0), (.int .i64 64)] w_1 fun v26 w_2 =>
  HExt 0 v26 fun v27 =>
  HExt 1 v26 fun v28 =>
  HCall Try.prog 10 [] w_2 fun v29 w_3 =>
  HNot v29 fun v30 =>
  HIf v30
  (R (.bool false) w_3)
  (HEq (.pointer 60) false v23 (.pointer Option.none) fun v33 =>
  HIf v33
  (R (.bool false) w_3)
  (HEq (.pointer 46) false v27 (.pointer Option.none) fun v37 =>
  HIf v37
  (R (.bool false) w_3)
  (HBin .neq v28 (.int .i64 0) fun v41 =>
  HIf v41
  (R (.bool false) w_3)
  (HLenS v1 fun v44 =>
  HMin v44 (.int .i64 40) fun v45 =>
  ∃ (I : List Value → World → Prop) (μ : List Value → World → Nat), I [(.int .i64 0)] w_3 ∧
  ∀ (v11 : Value) w_4, I [v11] w_4 →
  HBin .lss v11 v45 fun v48 =>
  HIf v48
  (HIdx 1 v1 v11 fun v53 =>
  HLd v53 w_4 fun v54 =>
  HLenS v54 fun v55 =>
  HBin .gtr v55 (.int .i64 1000) fun v56 =>
  HIf v56
  (R (.bool true) w_4)
  (HIdx 1 v1 v11 fun v61 =>
  HLd v61 w_4 fun v62 =>
  HCall Try.prog 11 [v27, v62] w_4 fun v63 w_5 =>
  HExt 0 v63 fun v64 =>
  HExt 1 v63 fun v65 =>
  HBin .neq v65 (.int .i64 0) fun v67 =>
  HIf v67
  (R (.bool false) w_5)
  (HBin .add v11 (.int .i64 1) fun v50 =>
  I [v50] w_5 ∧ μ [v50] w_5 < μ [v11] w_4)))
  (HBin .add v45 (.int .i64 3) fun v70 =>
  HCall Try.prog 15 [v2, v70] w_4 fun v71 w_6 =>
  HNil v27 fun v73 =>
  HFld 0 v73 fun v74 =>
  HCall Try.prog 20 [v74] w_6 fun v75 w_7 =>
  ∃ I_1 : List Value → World → Prop, (HCall Try.prog 21 [v27, v71] w_7 fun v78 w_8 =>
  HBin .neq v78 (.int .i64 0) fun v79 =>
  HIf v79
  (R (.bool false) w_8)
  (HNil v27 fun v82 =>
  HFld 0 v82 fun v83 =>
  HCall Try.prog 16 [v83] w_8 fun v84 w_9 =>
  HBin .neq v84 v45 fun v86 =>
  HIf v86
  (R (.bool false) w_9)
  (HNil v27 fun v90 =>
  HFld 0 v90 fun v91 =>
  HCall Try.prog 22 [v91] w_9 fun v92 w_10 =>
  HBin .lss v92 (.int .i64 1) fun v93 =>
  HIf v93
  (R (.bool false) w_10)
  (HNil v27 fun v97 =>
  HFld 0 v97 fun v98 =>
  HCall Try.prog 22 [v98] w_10 fun v99 w_11 =>
  HBin .add v71 (.int .i64 1) fun v101 =>
  HBin .gtr v99 v101 fun v102 =>
  HIf v102
  (HNil v27 fun v105 =>
  HFld 0 v105 fun v106 =>
  HCall Try.prog 22 [v106] w_11 fun v107 w_12 =>
  HBin .gtr v107 (.int .i64 1) fun v108 =>
  HIf v108
  (R (.bool false) w_12)
  (HNil v27 fun v113 =>
  HFld 0 v113 fun v114 =>
  HCall Try.prog 20 [v114] w_12 fun v115 w_13 =>
  HBin .gtr v115 v75 fun v117 =>
  HIf v117
  (R (.bool false) w_13)
  (HBin .gtr v45 (.int .i64 0) fun v121 =>
  HIf v121
  (HNil v27 fun v124 =>
  HFld 0 v124 fun v125 =>
  HCall Try.prog 20 [v125] w_13 fun v126 w_14 =>
  HBin .lss v126 (.int .i64 1) fun v127 =>
  HIf v127
  (R (.bool false) w_14)
  (I_1 [] w_14))
  (I_1 [] w_13))))
  (HNil v27 fun v113_1 =>
  HFld 0 v113_1 fun v114_1 =>
  HCall Try.prog 20 [v114_1] w_11 fun v115_1 w_15 =>
  HBin .gtr v115_1 v75 fun v117_1 =>
  HIf v117_1
  (R (.bool false) w_15)
  (HBin .gtr v45 (.int .i64 0) fun v121_1 =>
  HIf v121_1
  (HNil v27 fun v124_1 =>
  HFld 0 v124_1 fun v125_1 =>
  HCall Try.prog 20 [v125_1] w_15 fun v126_1 w_16 =>
  HBin .lss v126_1 (.int .i64 1) fun v127_1 =>
  HIf v127_1
  (R (.bool false) w_16)
  (I_1 [] w_16))
  (I_1 [] w_15))))))) ∧
  ∀ w_17, I_1 [] w_17 →
  HCall Try.prog 8 [v23, (.int .i64 0), (.int .i64 64)] w_17 fun v132 w_18 =>
  HExt 0 v132 fun v133 =>
  HExt 1 v132 fun v134 =>
  HDraw w_18 fun w_19 =>
  HBin .neq v134 (.int .i64 0) fun v136 =>
  HIf v136
  (R (.bool false) w_19)
  (HEq (.pointer 46) false v133 (.pointer Option.none) fun v139 =>
  HIf v139
  (R (.bool false) w_19)
  (HNil v133 fun v143 =>
  HFld 0 v143 fun v144 =>
  HNil v27 fun v147 =>
  HFld 0 v147 fun v148 =>
  HCall Try.prog 22 [v144] w_19 fun v145 w_20 =>
  HCall Try.prog 22 [v148] w_20 fun v149 w_21 =>
  HBin .neq v145 v149 fun v150 =>
  HIf v150
  (R (.bool false) w_21)
  (HNil v133 fun v154 =>
  HFld 0 v154 fun v155 =>
  HCall Try.prog 16 [v155] w_21 fun v156 w_22 =>
  HBin .neq v156 v45 fun v158 =>
  HIf v158
  (R (.bool false) w_22)
  (HNil v27 fun v161 =>
  HFld 0 v161 fun v162 =>
  HCall Try.prog 22 [v162] w_22 fun v163 w_23 =>
  ∃ (I_2 : List Value → World → Prop) (μ_1 : List Value → World → Nat), I_2 [v163] w_23 ∧
  ∀ (v18 : Value) w_24, I_2 [v18] w_24 →
  HBin .leq v18 v45 fun v166 =>
  HIf v166
  (HNil v133 fun v171 =>
  HFld 0 v171 fun v172 =>
  HCall Try.prog 17 [v172, v18] w_24 fun v174 w_25 =>
  HExt 0 v174 fun v175 =>
  HExt 1 v174 fun v176 =>
  HBin .neq v176 (.int .i64 0) fun v178 =>
  HIf v178
  (R (.bool false) w_25)
  (HBin .sub v18 (.int .i64 1) fun v183 =>
  HIdx 1 v1 v183 fun v184 =>
  HLd v184 w_25 fun v185 =>
  HCall Try.prog 18 [v175, v185] w_25 fun v186 w_26 =>
  HNot v186 fun v187 =>
  HIf v187
  (R (.bool false) w_26)
  (HBin .add v18 (.int .i64 1) fun v168 =>
  I_2 [v168] w_26 ∧ μ_1 [v168] w_26 < μ_1 [v18] w_24)))
  (HDraw w_24 fun w_27 =>
  HNil v133 fun v191 =>
  HFld 0 v191 fun v192 =>
  HNil v27 fun v194 =>
  HFld 0 v194 fun v195 =>
  HCall Try.prog 22 [v195] w_27 fun v196 w_28 =>
  HBin .sub v196 (.int .i64 1) fun v197 =>
  HCall Try.prog 17 [v192, v197] w_28 fun v198 w_29 =>
  HExt 0 v198 fun v199 =>
  HExt 1 v198 fun v200 =>
  HBin .eql v200 (.int .i64 5) fun v202 =>
  R v202 w_29))))))))))
theorem vc4 (v0 : Value) (v1 : Value) (v2 : Value) (w : World) (R : Value → World → Prop) (h : Vc4 v0 v1 v2 w R) : HCall Try.prog 4 [v0, v1, v2] w R :=
  funP_sound (JL := [(7, [11], [1, 2, 7, 8, 10]), (22, [18], [1, 8, 10, 16])]) (JC := [(18, [], [1, 7, 8, 10])]) Tcall_ok mixed_ok Try.func4 (by kernel_rfl) (by kernel_rfl)
    (((by kernel_rfl : funP Try.prog Tcall [(7, [11], [1, 2, 7, 8, 10]), (22, [18], [1, 8, 10, 16])] [(18, [], [1, 7, 8, 10])] Try.f4 [v0, v1, v2] w R = Vc4 v0 v1 v2 w R)).mpr h)

-- qanatlaw06.WalKeeps
def Vc5 (v0 : Value) (v1 : Value) (v2 : Value) (v3 : Value) (w : World) (R : Value → World → Prop) : Prop :=
  HCall Try.prog 7 [] w fun v21 w_1 =>
  HCall Try.prog 9 [v0] w_1 fun v25 w_2 =>
  HCall Try.prog 8 [v21, (.int .i64 0), v25] w_2 fun v26 w_3 =>
  HExt 0 v26 fun v27 =>
  HExt 1 v26 fun v28 =>
  HCall Try.prog 10 [] w_3 fun v29 w_4 =>
  HNot v29 fun v30 =>
  HIf v30
  (R (.bool false) w_4)
  (HEq (.pointer 60) false v21 (.pointer Option.none) fun v33 =>
  HIf v33
  (R (.bool false) w_4)
  (HEq (.pointer 46) false v27 (.pointer Option.none) fun v37 =>
  HIf v37
  (R (.bool false) w_4)
  (HBin .neq v28 (.int .i64 0) fun v41 =>
  HIf v41
  (R (.bool false) w_4)
  (HCall Try.prog 15 [v2, (.int .i64 70)] w_4 fun v45 w_5 =>
  HBin .add (.int .i64 1) v45 fun v46 =>
  HCall Try.prog 23 [v21, v46] w_5 fun v47 w_6 =>
  ∃ I : List Value → World → Prop, (∃ (I_1 : List Value → World → Prop) (μ : List Value → World → Nat), I_1 [(.int .i64 0), (.int .i64 0)] w_6 ∧
  ∀ (v12 : Value) (v13 : Value) w_7, I_1 [v12, v13] w_7 →
  HLenS v1 fun v50 =>
  HBin .lss v13 v50 fun v51 =>
  HIf v51
  (HBin .lss v13 (.int .i64 30) fun v54 =>
  HIf v54
  (HIdx 1 v1 v13 fun v60 =>
  HLd v60 w_7 fun v61 =>
  HLenS v61 fun v62 =>
  HBin .gtr v62 (.int .i64 1000) fun v63 =>
  HIf v63
  (R (.bool true) w_7)
  (HIdx 1 v1 v13 fun v68 =>
  HLd v68 w_7 fun v69 =>
  HCall Try.prog 11 [v27, v69] w_7 fun v70 w_8 =>
  HExt 0 v70 fun v71 =>
  HExt 1 v70 fun v72 =>
  ∃ I_2 : List Value → World → Prop, (HBin .neq v72 (.int .i64 0) fun v74 =>
  HIf v74
  (HBin .neq v72 (.int .i64 8) fun v77 =>
  HIf v77
  (R (.bool false) w_8)
  (HBin .eql v72 (.int .i64 0) fun v81 =>
  HIf v81
  (HBin .add v12 (.int .i64 1) fun v85 =>
  HBin .neq v71 v85 fun v86 =>
  HIf v86
  (R (.bool false) w_8)
  (HBin .neq v12 v13 fun v90 =>
  HIf v90
  (R (.bool false) w_8)
  (I_2 [] w_8)))
  (I_2 [] w_8)))
  (HBin .eql v72 (.int .i64 0) fun v81_1 =>
  HIf v81_1
  (HBin .add v12 (.int .i64 1) fun v85_1 =>
  HBin .neq v71 v85_1 fun v86_1 =>
  HIf v86_1
  (R (.bool false) w_8)
  (HBin .neq v12 v13 fun v90_1 =>
  HIf v90_1
  (R (.bool false) w_8)
  (I_2 [] w_8)))
  (I_2 [] w_8))) ∧
  ∀ w_9, I_2 [] w_9 →
  HBin .eql v72 (.int .i64 0) fun v95 =>
  HIf v95
  (HBin .add v12 (.int .i64 1) fun v97 =>
  HBin .add v13 (.int .i64 1) fun v57 =>
  I_1 [v97, v57] w_9 ∧ μ [v97, v57] w_9 < μ [v12, v13] w_7)
  (HBin .add v13 (.int .i64 1) fun v57_1 =>
  I_1 [v12, v57_1] w_9 ∧ μ [v12, v57_1] w_9 < μ [v12, v13] w_7)))
  (I [v12] w_7))
  (I [v12] w_7)) ∧
  ∀ (v12_1 : Value) w_10, I [v12_1] w_10 →
  HCall Try.prog 24 [v21, v3] w_10 fun v100 w_11 =>
  HCall Try.prog 9 [v0] w_11 fun v104 w_12 =>
  HCall Try.prog 8 [v21, (.int .i64 0), v104] w_12 fun v105 w_13 =>
  HExt 0 v105 fun v106 =>
  HExt 1 v105 fun v107 =>
  HBin .neq v107 (.int .i64 0) fun v109 =>
  HIf v109
  (R (.bool false) w_13)
  (HEq (.pointer 46) false v106 (.pointer Option.none) fun v112 =>
  HIf v112
  (R (.bool false) w_13)
  (HNil v106 fun v116 =>
  HFld 0 v116 fun v117 =>
  HCall Try.prog 22 [v117] w_13 fun v118 w_14 =>
  HBin .neq v118 (.int .i64 1) fun v119 =>
  HIf v119
  (R (.bool false) w_14)
  (HNil v106 fun v123 =>
  HFld 0 v123 fun v124 =>
  HCall Try.prog 16 [v124] w_14 fun v125 w_15 =>
  HBin .lss v125 v12_1 fun v127 =>
  HIf v127
  (R (.bool false) w_15)
  (HNil v106 fun v131 =>
  HFld 0 v131 fun v132 =>
  HCall Try.prog 16 [v132] w_15 fun v133 w_16 =>
  HBin .add v12_1 (.int .i64 1) fun v135 =>
  HBin .gtr v133 v135 fun v136 =>
  HIf v136
  (R (.bool false) w_16)
  (HNil v106 fun v140 =>
  HFld 0 v140 fun v141 =>
  HCall Try.prog 16 [v141] w_16 fun v142 w_17 =>
  HLenS v1 fun v144 =>
  HBin .gtr v142 v144 fun v145 =>
  HIf v145
  (R (.bool false) w_17)
  (∃ (I_3 : List Value → World → Prop) (μ_1 : List Value → World → Nat), I_3 [(.int .i64 0)] w_17 ∧
  ∀ (v18 : Value) w_18, I_3 [v18] w_18 →
  HNil v106 fun v149 =>
  HFld 0 v149 fun v150 =>
  HCall Try.prog 16 [v150] w_18 fun v151 w_19 =>
  HBin .lss v18 v151 fun v152 =>
  HIf v152
  (HNil v106 fun v157 =>
  HFld 0 v157 fun v158 =>
  HBin .add v18 (.int .i64 1) fun v160 =>
  HCall Try.prog 17 [v158, v160] w_19 fun v161 w_20 =>
  HExt 0 v161 fun v162 =>
  HExt 1 v161 fun v163 =>
  HBin .neq v163 (.int .i64 0) fun v165 =>
  HIf v165
  (R (.bool false) w_20)
  (HIdx 1 v1 v18 fun v170 =>
  HLd v170 w_20 fun v171 =>
  HCall Try.prog 18 [v162, v171] w_20 fun v172 w_21 =>
  HNot v172 fun v173 =>
  HIf v173
  (R (.bool false) w_21)
  (HBin .add v18 (.int .i64 1) fun v154 =>
  I_3 [v154] w_21 ∧ μ_1 [v154] w_21 < μ_1 [v18] w_18)))
  (R (.bool true) w_19)))))))))))
theorem vc5 (v0 : Value) (v1 : Value) (v2 : Value) (v3 : Value) (w : World) (R : Value → World → Prop) (h : Vc5 v0 v1 v2 v3 w R) : HCall Try.prog 5 [v0, v1, v2, v3] w R :=
  funP_sound (JL := [(8, [12, 13], [0, 1, 3, 9, 10]), (22, [18], [1, 16])]) (JC := [(17, [12], [0, 1, 3, 9]), (15, [], [0, 1, 3, 9, 10, 12, 13, 15])]) Tcall_ok mixed_ok Try.func5 (by kernel_rfl) (by kernel_rfl)
    (((by kernel_rfl : funP Try.prog Tcall [(8, [12, 13], [0, 1, 3, 9, 10]), (22, [18], [1, 16])] [(17, [12], [0, 1, 3, 9]), (15, [], [0, 1, 3, 9, 10, 12, 13, 15])] Try.f5 [v0, v1, v2, v3] w R = Vc5 v0 v1 v2 v3 w R)).mpr h)

-- qanatlaw06.WalTears
def Vc6 (v0 : Value) (v1 : Value) (v2 : Value) (v3 : Value) (w : World) (R : Value → World → Prop) : Prop :=
  HCall Try.prog 7 [] w fun v20 w_1 =>
  HCall Try.prog 9 [v0] w_1 fun v24 w_2 =>
  HCall Try.prog 8 [v20, (.int .i64 0), v24] w_2 fun v25 w_3 =>
  HExt 0 v25 fun v26 =>
  HExt 1 v25 fun v27 =>
  HCall Try.prog 10 [] w_3 fun v28 w_4 =>
  HNot v28 fun v29 =>
  HIf v29
  (R (.bool false) w_4)
  (HEq (.pointer 60) false v20 (.pointer Option.none) fun v32 =>
  HIf v32
  (R (.bool false) w_4)
  (HEq (.pointer 46) false v26 (.pointer Option.none) fun v36 =>
  HIf v36
  (R (.bool false) w_4)
  (HBin .neq v27 (.int .i64 0) fun v40 =>
  HIf v40
  (R (.bool false) w_4)
  (∃ I : List Value → World → Prop, (∃ (I_1 : List Value → World → Prop) (μ : List Value → World → Nat), I_1 [v26, (.int .i64 0), (.int .i64 0)] w_4 ∧
  ∀ (v10 : Value) (v12 : Value) (v13 : Value) w_5, I_1 [v10, v12, v13] w_5 →
  HLenS v1 fun v44 =>
  HBin .lss v13 v44 fun v45 =>
  HIf v45
  (HBin .lss v13 (.int .i64 20) fun v48 =>
  HIf v48
  (HDraw w_5 fun w_6 =>
  HIdx 1 v1 v13 fun v54 =>
  HLd v54 w_6 fun v55 =>
  HLenS v55 fun v56 =>
  HBin .gtr v56 (.int .i64 1000) fun v57 =>
  HIf v57
  (HIdx 1 v1 v13 fun v79 =>
  HLd v79 w_6 fun v80 =>
  HLenS v80 fun v81 =>
  HBin .gtr v81 (.int .i64 1000) fun v82 =>
  R v82 w_6)
  (HIdx 1 v1 v13 fun v62 =>
  HLd v62 w_6 fun v63 =>
  HCall Try.prog 15 [v2, (.int .i64 3000)] w_6 fun v65 w_7 =>
  HLd v62 w_7 fun v63_1 =>
  v63_1 = v63 ∧
  HCall Try.prog 25 [v10, v63, v65] w_7 fun v66 w_8 =>
  HBin .neq v66 (.int .i64 0) fun v67 =>
  HIf v67
  (HIdx 1 v1 v13 fun v79_1 =>
  HLd v79_1 w_8 fun v80_1 =>
  HLenS v80_1 fun v81_1 =>
  HBin .gtr v81_1 (.int .i64 1000) fun v82_1 =>
  R v82_1 w_8)
  (HNil v10 fun v71 =>
  HFld 0 v71 fun v72 =>
  HCall Try.prog 16 [v72] w_8 fun v73 w_9 =>
  HBin .neq v73 v12 fun v75 =>
  HIf v75
  (HIdx 1 v1 v13 fun v79_2 =>
  HLd v79_2 w_9 fun v80_2 =>
  HLenS v80_2 fun v81_2 =>
  HBin .gtr v81_2 (.int .i64 1000) fun v82_2 =>
  R v82_2 w_9)
  (∃ I_2 : List Value → World → Prop, (HBin .rem v13 (.int .i64 2) fun v84 =>
  HBin .eql v84 (.int .i64 1) fun v85 =>
  HIf v85
  (HCall Try.prog 24 [v20, v3] w_9 fun v88 w_10 =>
  HCall Try.prog 9 [v0] w_10 fun v92 w_11 =>
  HCall Try.prog 8 [v20, (.int .i64 0), v92] w_11 fun v93 w_12 =>
  HExt 0 v93 fun v94 =>
  HExt 1 v93 fun v95 =>
  HBin .neq v95 (.int .i64 0) fun v97 =>
  HIf v97
  (R (.bool false) w_12)
  (HEq (.pointer 46) false v94 (.pointer Option.none) fun v100 =>
  HIf v100
  (R (.bool false) w_12)
  (HNil v94 fun v104 =>
  HFld 0 v104 fun v105 =>
  HCall Try.prog 16 [v105] w_12 fun v106 w_13 =>
  HBin .neq v106 v12 fun v108 =>
  HIf v108
  (R (.bool false) w_13)
  (I_2 [v94] w_13))))
  (I_2 [v10] w_9)) ∧
  ∀ (v10_1 : Value) w_14, I_2 [v10_1] w_14 →
  HIdx 1 v1 v13 fun v115 =>
  HLd v115 w_14 fun v116 =>
  HCall Try.prog 11 [v10_1, v116] w_14 fun v117 w_15 =>
  HExt 0 v117 fun v118 =>
  HExt 1 v117 fun v119 =>
  HBin .neq v119 (.int .i64 0) fun v121 =>
  HIf v121
  (R (.bool false) w_15)
  (HBin .add v12 (.int .i64 1) fun v125 =>
  HBin .neq v118 v125 fun v126 =>
  HIf v126
  (R (.bool false) w_15)
  (HBin .add v12 (.int .i64 1) fun v129 =>
  HBin .add v13 (.int .i64 1) fun v51 =>
  I_1 [v10_1, v129, v51] w_15 ∧ μ [v10_1, v129, v51] w_15 < μ [v10, v12, v13] w_5))))))
  (I [v12] w_5))
  (I [v12] w_5)) ∧
  ∀ (v12_1 : Value) w_16, I [v12_1] w_16 →
  HCall Try.prog 24 [v20, v3] w_16 fun v132 w_17 =>
  HCall Try.prog 9 [v0] w_17 fun v136 w_18 =>
  HCall Try.prog 8 [v20, (.int .i64 0), v136] w_18 fun v137 w_19 =>
  HExt 0 v137 fun v138 =>
  HExt 1 v137 fun v139 =>
  HBin .eql v139 (.int .i64 0) fun v141 =>
  HIf v141
  (HEq (.pointer 46) true v138 (.pointer Option.none) fun v144 =>
  HIf v144
  (HNil v138 fun v148 =>
  HFld 0 v148 fun v149 =>
  HCall Try.prog 16 [v149] w_19 fun v150 w_20 =>
  HBin .eql v150 v12_1 fun v152 =>
  HIf v152
  (HNil v138 fun v156 =>
  HFld 0 v156 fun v157 =>
  HCall Try.prog 22 [v157] w_20 fun v158 w_21 =>
  HBin .eql v158 (.int .i64 1) fun v159 =>
  R v159 w_21)
  (R (.bool false) w_20))
  (R (.bool false) w_19))
  (R (.bool false) w_19)))))
theorem vc6 (v0 : Value) (v1 : Value) (v2 : Value) (v3 : Value) (w : World) (R : Value → World → Prop) (h : Vc6 v0 v1 v2 v3 w R) : HCall Try.prog 6 [v0, v1, v2, v3] w R :=
  funP_sound (JL := [(7, [10, 12, 13], [0, 1, 2, 3, 9])]) (JC := [(21, [12], [0, 3, 9]), (17, [10], [0, 1, 2, 3, 9, 12, 13])]) Tcall_ok mixed_ok Try.func6 (by kernel_rfl) (by kernel_rfl)
    (((by kernel_rfl : funP Try.prog Tcall [(7, [10, 12, 13], [0, 1, 2, 3, 9])] [(21, [12], [0, 3, 9]), (17, [10], [0, 1, 2, 3, 9, 12, 13])] Try.f6 [v0, v1, v2, v3] w R = Vc6 v0 v1 v2 v3 w R)).mpr h)

-- wal.Open
def Vc8 (v0 : Value) (v1 : Value) (v2 : Value) (w : World) (R : Value → World → Prop) : Prop :=
  HBin .lss v1 (.int .i64 0) fun v18 =>
  HIf v18
  (R (.tuple #[(.pointer Option.none), (.int .i64 1)]) w)
  (HBin .gtr v1 (.int .i64 12288) fun v21 =>
  HIf v21
  (R (.tuple #[(.pointer Option.none), (.int .i64 1)]) w)
  (HBin .lss v2 (.int .i64 64) fun v25 =>
  HIf v25
  (R (.tuple #[(.pointer Option.none), (.int .i64 1)]) w)
  (HBin .gtr v2 (.int .i64 65536) fun v29 =>
  HIf v29
  (R (.tuple #[(.pointer Option.none), (.int .i64 1)]) w)
  (HCall Try.prog 19 [v0] w fun v33 w_1 =>
  HIf v33
  (R (.tuple #[(.pointer Option.none), (.int .i64 8)]) w_1)
  (HBld [.slice none 0 0, .pointer none, .int .i64 0, .int .i64 0, .pointer none] [(1, 1, v0), (2, 1, v1), (3, 1, v2)] fun v37 =>
  ∃ cs : List Value, v37 = .agg cs.toArray ∧ HNew cs 46 w_1 fun v38 w_2 =>
  HCall Try.prog 26 [v38] w_2 fun v40 w_3 =>
  HLenS v40 fun v42 =>
  ∃ (I : List Value → World → Prop) (μ : List Value → World → Nat), I [(.bool true), (.int .i64 0)] w_3 ∧
  ∀ (v10 : Value) (v43 : Value) w_4, I [v10, v43] w_4 →
  HBin .lss v43 v42 fun v44 =>
  HIf v44
  (HIdx 1 v40 v43 fun v46 =>
  HLd v46 w_4 fun v47 =>
  HLenS v40 fun v53 =>
  HBin .sub v53 (.int .i64 1) fun v54 =>
  HBin .eql v43 v54 fun v55 =>
  HCall Try.prog 27 [v38, v47, v55] w_4 fun v56 w_5 =>
  HExt 0 v56 fun v57 =>
  HExt 1 v56 fun v58 =>
  HNot v58 fun v60 =>
  HIf v60
  (R (.tuple #[(.pointer Option.none), (.int .i64 3)]) w_5)
  (HBin .gtr v43 (.int .i64 0) fun v63 =>
  HIf v63
  (HBin .sub v43 (.int .i64 1) fun v68 =>
  HIdx 1 v40 v68 fun v69 =>
  HLd v69 w_5 fun v70 =>
  HBin .add v70 (.int .i64 1) fun v71 =>
  HBin .neq v47 v71 fun v72 =>
  HIf v72
  (R (.tuple #[(.pointer Option.none), (.int .i64 3)]) w_5)
  (HBin .add v43 (.int .i64 1) fun v76 =>
  I [v57, v76] w_5 ∧ μ [v57, v76] w_5 < μ [v10, v43] w_4))
  (HBin .add v43 (.int .i64 1) fun v76_1 =>
  I [v57, v76_1] w_5 ∧ μ [v57, v76_1] w_5 < μ [v10, v43] w_4)))
  (HCall Try.prog 28 [v38, v40, v10] w_4 fun v80 w_6 =>
  HBin .neq v80 (.int .i64 0) fun v82 =>
  HIf v82
  (R (.tuple #[(.pointer Option.none), v80]) w_6)
  (R (.tuple #[v38, (.int .i64 0)]) w_6)))))))
theorem vc8 (v0 : Value) (v1 : Value) (v2 : Value) (w : World) (R : Value → World → Prop) (h : Vc8 v0 v1 v2 w R) : HCall Try.prog 8 [v0, v1, v2] w R :=
  funP_sound (JL := [(9, [10, 43], [8, 9, 41, 42])]) (JC := []) Tcall_ok mixed_ok Try.func8 (by kernel_rfl) (by kernel_rfl)
    (((by kernel_rfl : funP Try.prog Tcall [(9, [10, 43], [8, 9, 41, 42])] [] Try.f8 [v0, v1, v2] w R = Vc8 v0 v1 v2 w R)).mpr h)

-- qanatlaw06.size
def Vc9 (v0 : Value) (w : World) (R : Value → World → Prop) : Prop :=
  HBldS (zrow [.int .i64 0] 6) [(0, 1, (.int .i64 64)), (1, 1, (.int .i64 65)), (2, 1, (.int .i64 100)), (3, 1, (.int .i64 200)), (4, 1, (.int .i64 1000)), (5, 1, (.int .i64 65536))] 3 6 w fun v3 w_1 =>
  HCall Try.prog 15 [v0, (.int .i64 6)] w_1 fun v5 w_2 =>
  HIdx 1 v3 v5 fun v6 =>
  HLd v6 w_2 fun v7 =>
  R v7 w_2
theorem vc9 (v0 : Value) (w : World) (R : Value → World → Prop) (h : Vc9 v0 w R) : HCall Try.prog 9 [v0] w R :=
  funP_sound (JL := []) (JC := []) Tcall_ok mixed_ok Try.func9 (by kernel_rfl) (by kernel_rfl)
    (((by kernel_rfl : funP Try.prog Tcall [] [] Try.f9 [v0] w R = Vc9 v0 w R)).mpr h)

-- qanatlaw06.awake
def Vc10 (w : World) (R : Value → World → Prop) : Prop :=
  HCall Try.prog 7 [] w fun v8 w_1 =>
  HCall Try.prog 8 [v8, (.int .i64 16), (.int .i64 64)] w_1 fun v11 w_2 =>
  HExt 0 v11 fun v12 =>
  HExt 1 v11 fun v13 =>
  HEq (.pointer 60) false v8 (.pointer Option.none) fun v15 =>
  HIf v15
  (R (.bool false) w_2)
  (HEq (.pointer 46) false v12 (.pointer Option.none) fun v18 =>
  HIf v18
  (R (.bool false) w_2)
  (HBin .neq v13 (.int .i64 0) fun v22 =>
  HIf v22
  (R (.bool false) w_2)
  (HNil v12 fun v26 =>
  HFld 0 v26 fun v27 =>
  HCall Try.prog 22 [v27] w_2 fun v28 w_3 =>
  HBin .neq v28 (.int .i64 1) fun v29 =>
  HIf v29
  (R (.bool false) w_3)
  (HNil v12 fun v33 =>
  HFld 0 v33 fun v34 =>
  HCall Try.prog 16 [v34] w_3 fun v35 w_4 =>
  HBin .neq v35 (.int .i64 0) fun v36 =>
  HIf v36
  (R (.bool false) w_4)
  (HBldS (zrow [.int .u8 0] 1) [(0, 1, (.int .u8 97))] 5 1 w_4 fun v40 w_5 =>
  HRun Try.prog (convert 23 23 v40) w_5 fun v41 w_6 =>
  HCall Try.prog 11 [v12, v41] w_6 fun v42 w_7 =>
  HExt 0 v42 fun v43 =>
  HExt 1 v42 fun v44 =>
  HNil v12 fun v47 =>
  HFld 0 v47 fun v48 =>
  HCall Try.prog 17 [v48, (.int .i64 1)] w_7 fun v49 w_8 =>
  HExt 0 v49 fun v50 =>
  HExt 1 v49 fun v51 =>
  HBin .eql v43 (.int .i64 1) fun v53 =>
  HIf v53
  (HBin .eql v44 (.int .i64 0) fun v56 =>
  HIf v56
  (HBin .eql v51 (.int .i64 0) fun v60 =>
  HIf v60
  (HRq Try.prog (convert 23 9 v50) w_8 fun v64 =>
  HBin .eql v64 (.string { data := #[97] }) fun v65 =>
  HIf v65
  (HNil v12 fun v69 =>
  HFld 0 v69 fun v70 =>
  HCall Try.prog 20 [v70] w_8 fun v71 w_9 =>
  HBin .eql v71 (.int .i64 1) fun v72 =>
  HIf v72
  (HCall Try.prog 29 [v8] w_9 fun v76 w_10 =>
  HBin .eql v76 (.int .i64 2) fun v77 =>
  R v77 w_10)
  (R (.bool false) w_9))
  (R (.bool false) w_8))
  (R (.bool false) w_8))
  (R (.bool false) w_8))
  (R (.bool false) w_8))))))
theorem vc10 (w : World) (R : Value → World → Prop) (h : Vc10 w R) : HCall Try.prog 10 [] w R :=
  funP_sound (JL := []) (JC := []) Tcall_ok mixed_ok Try.func10 (by kernel_rfl) (by kernel_rfl)
    (((by kernel_rfl : funP Try.prog Tcall [] [] Try.f10 [] w R = Vc10 w R)).mpr h)

-- wal.Log.Append
def Vc11 (v0 : Value) (v1 : Value) (w : World) (R : Value → World → Prop) : Prop :=
  HCall Try.prog 30 [v0, v1] w fun v12 w_1 =>
  HExt 0 v12 fun v13 =>
  HExt 1 v12 fun v14 =>
  HNew [.int .i64 0, .bool false, .slice none 0 0] 65 w_1 fun v6 w_2 =>
  HStN 3 v6 v13 w_2 fun w_3 =>
  ∃ I : List Value → World → Prop, (HBin .eql v14 (.int .i64 0) fun v16 =>
  HIf v16
  (HDraw w_3 fun w_4 =>
  HNil v0 fun v18 =>
  HFld 1 v18 fun v19 =>
  HLd v19 w_4 fun v20 =>
  HFld 0 v6 fun v21 =>
  HLd v21 w_4 fun v22 =>
  HFld 2 v6 fun v23 =>
  HLd v23 w_4 fun v24 =>
  HCall Try.prog 31 [v20, v22, v24] w_4 fun v25 w_5 =>
  I [v25] w_5)
  (I [v14] w_3)) ∧
  ∀ (v7 : Value) w_6, I [v7] w_6 →
  ∃ I_1 : List Value → World → Prop, (HBin .eql v7 (.int .i64 0) fun v27 =>
  HIf v27
  (HDraw w_6 fun w_7 =>
  HNil v0 fun v29 =>
  HFld 1 v29 fun v30 =>
  HLd v30 w_7 fun v31 =>
  HFld 0 v6 fun v32 =>
  HLd v32 w_7 fun v33 =>
  HCall Try.prog 32 [v31, v33] w_7 fun v34 w_8 =>
  I_1 [v34] w_8)
  (I_1 [v7] w_6)) ∧
  ∀ (v7_1 : Value) w_9, I_1 [v7_1] w_9 →
  HBin .neq v7_1 (.int .i64 0) fun v36 =>
  HIf v36
  (R (.tuple #[(.int .i64 0), v7_1]) w_9)
  (∃ I_2 : List Value → World → Prop, (HFld 1 v6 fun v38 =>
  HLd v38 w_9 fun v39 =>
  HIf v39
  (HDraw w_9 fun w_10 =>
  HNil v0 fun v42 =>
  HFld 0 v42 fun v43 =>
  HFld 0 v43 fun v44 =>
  HLd v44 w_10 fun v45 =>
  HFld 0 v6 fun v46 =>
  HLd v46 w_10 fun v47 =>
  HNil v0 fun v49 =>
  HFld 0 v49 fun v50 =>
  HCall Try.prog 16 [v50] w_10 fun v51 w_11 =>
  HLd v44 w_11 fun v45_1 =>
  v45_1 = v45 ∧
  HLd v46 w_11 fun v47_1 =>
  v47_1 = v47 ∧
  HBin .add v51 (.int .i64 1) fun v52 =>
  HBld [.int .i64 0, .int .i64 0, .int .i64 0, .slice none 0 0] [(0, 1, v47), (1, 1, v52)] fun v53 =>
  HBldS (zrow [.int .i64 0, .int .i64 0, .int .i64 0, .slice none 0 0] 1) [(0, 4, v53)] 71 1 w_11 fun v54 w_12 =>
  HLd v44 w_12 fun v45_2 =>
  v45_2 = v45 ∧
  HApp 4 48 [.int .i64 0, .int .i64 0, .int .i64 0, .slice none 0 0] 71 v45 v54 w_12 fun v55 w_13 =>
  HNil v0 fun v56 =>
  HFld 0 v56 fun v57 =>
  HFld 0 v57 fun v58 =>
  HSt v58 v55 w_13 fun w_14 =>
  I_2 [] w_14)
  (I_2 [] w_9)) ∧
  ∀ w_15, I_2 [] w_15 →
  HDraw w_15 fun w_16 =>
  HNil v0 fun v60 =>
  HFld 0 v60 fun v61 =>
  HFld 0 v61 fun v62 =>
  HLd v62 w_16 fun v63 =>
  HNil v0 fun v65 =>
  HFld 0 v65 fun v66 =>
  HFld 0 v66 fun v67 =>
  HLd v67 w_16 fun v68 =>
  HLenS v68 fun v69 =>
  HBin .sub v69 (.int .i64 1) fun v70 =>
  HIdx 4 v63 v70 fun v71 =>
  HDraw w_16 fun w_17 =>
  HNil v71 fun v73 =>
  HFld 2 v73 fun v74 =>
  HLd v74 w_17 fun v75 =>
  HFld 2 v6 fun v76 =>
  HLd v76 w_17 fun v77 =>
  HLenS v77 fun v78 =>
  HBin .add v75 v78 fun v79 =>
  HNil v71 fun v80 =>
  HFld 2 v80 fun v81 =>
  HSt v81 v79 w_17 fun w_18 =>
  HDraw w_18 fun w_19 =>
  HNil v71 fun v84 =>
  HFld 3 v84 fun v85 =>
  HLd v85 w_19 fun v86 =>
  HCall Try.prog 33 [v1] w_19 fun v88 w_20 =>
  HLd v85 w_20 fun v86_1 =>
  v86_1 = v86 ∧
  HBldS (zrow [.slice none 0 0] 1) [(0, 1, v88)] 23 1 w_20 fun v89 w_21 =>
  HLd v85 w_21 fun v86_2 =>
  v86_2 = v86 ∧
  HApp 1 24 [.slice none 0 0] 23 v86 v89 w_21 fun v90 w_22 =>
  HNil v71 fun v91 =>
  HFld 3 v91 fun v92 =>
  HSt v92 v90 w_22 fun w_23 =>
  HNil v0 fun v94 =>
  HFld 0 v94 fun v95 =>
  HCall Try.prog 16 [v95] w_23 fun v96 w_24 =>
  R (.tuple #[v96, (.int .i64 0)]) w_24)
theorem vc11 (v0 : Value) (v1 : Value) (w : World) (R : Value → World → Prop) (h : Vc11 v0 v1 w R) : HCall Try.prog 11 [v0, v1] w R :=
  funP_sound (JL := []) (JC := [(4, [7], [0, 1, 6]), (6, [7], [0, 1, 6]), (10, [], [0, 1, 6])]) Tcall_ok mixed_ok Try.func11 (by kernel_rfl) (by kernel_rfl)
    (((by kernel_rfl : funP Try.prog Tcall [] [(4, [7], [0, 1, 6]), (6, [7], [0, 1, 6]), (10, [], [0, 1, 6])] Try.f11 [v0, v1] w R = Vc11 v0 v1 w R)).mpr h)

-- wal.reader.Head
def Vc16 (v0 : Value) (w : World) (R : Value → World → Prop) : Prop :=
  HNil v0 fun v4 =>
  HFld 0 v4 fun v5 =>
  HLd v5 w fun v6 =>
  HLenS v6 fun v7 =>
  HBin .eql v7 (.int .i64 0) fun v8 =>
  HIf v8
  (R (.int .i64 0) w)
  (HDraw w fun w_1 =>
  HNil v0 fun v10 =>
  HFld 0 v10 fun v11 =>
  HLd v11 w_1 fun v12 =>
  HNil v0 fun v14 =>
  HFld 0 v14 fun v15 =>
  HLd v15 w_1 fun v16 =>
  HLenS v16 fun v17 =>
  HBin .sub v17 (.int .i64 1) fun v18 =>
  HIdx 4 v12 v18 fun v19 =>
  HLdN 4 v19 w_1 fun v20 =>
  HCall Try.prog 39 [v20] w_1 fun v21 w_2 =>
  HBin .sub v21 (.int .i64 1) fun v22 =>
  R v22 w_2)
theorem vc16 (v0 : Value) (w : World) (R : Value → World → Prop) (h : Vc16 v0 w R) : HCall Try.prog 16 [v0] w R :=
  funP_sound (JL := []) (JC := []) Tcall_ok mixed_ok Try.func16 (by kernel_rfl) (by kernel_rfl)
    (((by kernel_rfl : funP Try.prog Tcall [] [] Try.f16 [v0] w R = Vc16 v0 w R)).mpr h)

-- wal.reader.Read
def Vc17 (v0 : Value) (v1 : Value) (w : World) (R : Value → World → Prop) : Prop :=
  HNil v0 fun v9 =>
  HFld 0 v9 fun v10 =>
  HLd v10 w fun v11 =>
  HLenS v11 fun v12 =>
  ∃ (I : List Value → World → Prop) (μ : List Value → World → Nat), I [(.int .i64 0)] w ∧
  ∀ (v13 : Value) w_1, I [v13] w_1 →
  HBin .lss v13 v12 fun v14 =>
  HIf v14
  (HIdx 4 v11 v13 fun v15 =>
  HLdN 4 v15 w_1 fun v16 =>
  HNew [.int .i64 0, .int .i64 0, .int .i64 0, .slice none 0 0] 71 w_1 fun v7 w_2 =>
  HStN 4 v7 v16 w_2 fun w_3 =>
  HFld 1 v7 fun v18 =>
  HLd v18 w_3 fun v19 =>
  HBin .geq v1 v19 fun v20 =>
  HIf v20
  (HLdN 4 v7 w_3 fun v23 =>
  HCall Try.prog 39 [v23] w_3 fun v24 w_4 =>
  HBin .lss v1 v24 fun v25 =>
  HIf v25
  (HFld 3 v7 fun v27 =>
  HLd v27 w_4 fun v28 =>
  HFld 1 v7 fun v30 =>
  HLd v30 w_4 fun v31 =>
  HBin .sub v1 v31 fun v32 =>
  HIdx 1 v28 v32 fun v33 =>
  HLd v33 w_4 fun v34 =>
  HCall Try.prog 33 [v34] w_4 fun v35 w_5 =>
  R (.tuple #[v35, (.int .i64 0)]) w_5)
  (HBin .add v13 (.int .i64 1) fun v36 =>
  I [v36] w_4 ∧ μ [v36] w_4 < μ [v13] w_1))
  (HBin .add v13 (.int .i64 1) fun v36_1 =>
  I [v36_1] w_3 ∧ μ [v36_1] w_3 < μ [v13] w_1))
  (R (.tuple #[(.slice Option.none 0 0), (.int .i64 5)]) w_1)
theorem vc17 (v0 : Value) (v1 : Value) (w : World) (R : Value → World → Prop) (h : Vc17 v0 v1 w R) : HCall Try.prog 17 [v0, v1] w R :=
  funP_sound (JL := [(2, [13], [1, 11, 12])]) (JC := []) Tcall_ok mixed_ok Try.func17 (by kernel_rfl) (by kernel_rfl)
    (((by kernel_rfl : funP Try.prog Tcall [(2, [13], [1, 11, 12])] [] Try.f17 [v0, v1] w R = Vc17 v0 v1 w R)).mpr h)

-- wal.reader.Segments
def Vc20 (v0 : Value) (w : World) (R : Value → World → Prop) : Prop :=
  HNil v0 fun v4 =>
  HFld 0 v4 fun v5 =>
  HLd v5 w fun v6 =>
  HLenS v6 fun v7 =>
  R v7 w
theorem vc20 (v0 : Value) (w : World) (R : Value → World → Prop) (h : Vc20 v0 w R) : HCall Try.prog 20 [v0] w R :=
  funP_sound (JL := []) (JC := []) Tcall_ok mixed_ok Try.func20 (by kernel_rfl) (by kernel_rfl)
    (((by kernel_rfl : funP Try.prog Tcall [] [] Try.f20 [v0] w R = Vc20 v0 w R)).mpr h)

-- wal.Log.Trim
def Vc21 (v0 : Value) (v1 : Value) (w : World) (R : Value → World → Prop) : Prop :=
  HNil v0 fun v7 =>
  HFld 1 v7 fun v8 =>
  HLd v8 w fun v9 =>
  HCall Try.prog 19 [v9] w fun v10 w_1 =>
  HIf v10
  (R (.int .i64 8) w_1)
  (∃ (I : List Value → World → Prop) (μ : List Value → World → Nat), I [] w_1 ∧
  ∀ w_2, I [] w_2 →
  HNil v0 fun v12 =>
  HFld 0 v12 fun v13 =>
  HFld 0 v13 fun v14 =>
  HLd v14 w_2 fun v15 =>
  HLenS v15 fun v16 =>
  HBin .gtr v16 (.int .i64 1) fun v17 =>
  HIf v17
  (HNil v0 fun v20 =>
  HFld 0 v20 fun v21 =>
  HFld 0 v21 fun v22 =>
  HLd v22 w_2 fun v23 =>
  HIdx 4 v23 (.int .i64 0) fun v24 =>
  HLdN 4 v24 w_2 fun v25 =>
  HCall Try.prog 39 [v25] w_2 fun v26 w_3 =>
  HBin .sub v26 (.int .i64 1) fun v27 =>
  HBin .leq v27 v1 fun v29 =>
  HIf v29
  (HDraw w_3 fun w_4 =>
  HNil v0 fun v32 =>
  HFld 1 v32 fun v33 =>
  HLd v33 w_4 fun v34 =>
  HNil v0 fun v36 =>
  HFld 0 v36 fun v37 =>
  HFld 0 v37 fun v38 =>
  HLd v38 w_4 fun v39 =>
  HIdx 4 v39 (.int .i64 0) fun v40 =>
  HFld 0 v40 fun v41 =>
  HLd v41 w_4 fun v42 =>
  HCall Try.prog 40 [v34, v42] w_4 fun v43 w_5 =>
  HBin .neq v43 (.int .i64 0) fun v45 =>
  HIf v45
  (R v43 w_5)
  (HNil v0 fun v49 =>
  HFld 0 v49 fun v50 =>
  HFld 0 v50 fun v51 =>
  HLd v51 w_5 fun v52 =>
  HSl 4 v52 (some (.int .i64 1)) none none fun v53 =>
  HNil v0 fun v54 =>
  HFld 0 v54 fun v55 =>
  HFld 0 v55 fun v56 =>
  HSt v56 v53 w_5 fun w_6 =>
  I [] w_6 ∧ μ [] w_6 < μ [] w_2))
  (R (.int .i64 0) w_3))
  (R (.int .i64 0) w_2))
theorem vc21 (v0 : Value) (v1 : Value) (w : World) (R : Value → World → Prop) (h : Vc21 v0 v1 w R) : HCall Try.prog 21 [v0, v1] w R :=
  funP_sound (JL := [(3, [], [0, 1])]) (JC := []) Tcall_ok mixed_ok Try.func21 (by kernel_rfl) (by kernel_rfl)
    (((by kernel_rfl : funP Try.prog Tcall [(3, [], [0, 1])] [] Try.f21 [v0, v1] w R = Vc21 v0 v1 w R)).mpr h)

-- wal.reader.Low
def Vc22 (v0 : Value) (w : World) (R : Value → World → Prop) : Prop :=
  HNil v0 fun v4 =>
  HFld 0 v4 fun v5 =>
  HLd v5 w fun v6 =>
  HLenS v6 fun v7 =>
  HBin .eql v7 (.int .i64 0) fun v8 =>
  HIf v8
  (R (.int .i64 1) w)
  (HNil v0 fun v10 =>
  HFld 0 v10 fun v11 =>
  HLd v11 w fun v12 =>
  HIdx 4 v12 (.int .i64 0) fun v13 =>
  HFld 1 v13 fun v14 =>
  HLd v14 w fun v15 =>
  R v15 w)
theorem vc22 (v0 : Value) (w : World) (R : Value → World → Prop) (h : Vc22 v0 w R) : HCall Try.prog 22 [v0] w R :=
  funP_sound (JL := []) (JC := []) Tcall_ok mixed_ok Try.func22 (by kernel_rfl) (by kernel_rfl)
    (((by kernel_rfl : funP Try.prog Tcall [] [] Try.f22 [v0] w R = Vc22 v0 w R)).mpr h)

-- wal.Log.Tear
def Vc25 (v0 : Value) (v1 : Value) (v2 : Value) (w : World) (R : Value → World → Prop) : Prop :=
  HBin .lss v2 (.int .i64 0) fun v10 =>
  HIf v10
  (R (.int .i64 1) w)
  (HCall Try.prog 30 [v0, v1] w fun v14 w_1 =>
  HExt 0 v14 fun v15 =>
  HExt 1 v14 fun v16 =>
  HNew [.int .i64 0, .bool false, .slice none 0 0] 65 w_1 fun v7 w_2 =>
  HStN 3 v7 v15 w_2 fun w_3 =>
  ∃ I : List Value → World → Prop, (HBin .eql v16 (.int .i64 0) fun v18 =>
  HIf v18
  (HDraw w_3 fun w_4 =>
  HNil v0 fun v20 =>
  HFld 1 v20 fun v21 =>
  HLd v21 w_4 fun v22 =>
  HFld 0 v7 fun v23 =>
  HLd v23 w_4 fun v24 =>
  HFld 2 v7 fun v25 =>
  HLd v25 w_4 fun v26 =>
  HFld 2 v7 fun v28 =>
  HLd v28 w_4 fun v29 =>
  HLenS v29 fun v30 =>
  HBin .rem v2 v30 fun v31 =>
  HSl 1 v26 none (some v31) none fun v32 =>
  HCall Try.prog 31 [v22, v24, v32] w_4 fun v33 w_5 =>
  I [v33] w_5)
  (I [v16] w_3)) ∧
  ∀ (v8 : Value) w_6, I [v8] w_6 →
  HBin .neq v8 (.int .i64 0) fun v35 =>
  HIf v35
  (R v8 w_6)
  (HFld 0 v7 fun v38 =>
  HLd v38 w_6 fun v39 =>
  HFld 1 v7 fun v40 =>
  HLd v40 w_6 fun v41 =>
  HBld [.int .i64 0, .int .i64 0, .bool false] [(0, 1, v39), (2, 1, v41)] fun v42 =>
  ∃ cs : List Value, v42 = .agg cs.toArray ∧ HNew cs 87 w_6 fun v43 w_7 =>
  HNil v0 fun v44 =>
  HFld 4 v44 fun v45 =>
  HSt v45 v43 w_7 fun w_8 =>
  HFld 1 v7 fun v46 =>
  HLd v46 w_8 fun v47 =>
  HNot v47 fun v48 =>
  HIf v48
  (HDraw w_8 fun w_9 =>
  HNil v0 fun v50 =>
  HFld 4 v50 fun v51 =>
  HLd v51 w_9 fun v52 =>
  HNil v0 fun v54 =>
  HFld 0 v54 fun v55 =>
  HFld 0 v55 fun v56 =>
  HLd v56 w_9 fun v57 =>
  HNil v0 fun v59 =>
  HFld 0 v59 fun v60 =>
  HFld 0 v60 fun v61 =>
  HLd v61 w_9 fun v62 =>
  HLenS v62 fun v63 =>
  HBin .sub v63 (.int .i64 1) fun v64 =>
  HIdx 4 v57 v64 fun v65 =>
  HFld 2 v65 fun v66 =>
  HLd v66 w_9 fun v67 =>
  HNil v52 fun v68 =>
  HFld 1 v68 fun v69 =>
  HSt v69 v67 w_9 fun w_10 =>
  R (.int .i64 0) w_10)
  (R (.int .i64 0) w_8)))
theorem vc25 (v0 : Value) (v1 : Value) (v2 : Value) (w : World) (R : Value → World → Prop) (h : Vc25 v0 v1 v2 w R) : HCall Try.prog 25 [v0, v1, v2] w R :=
  funP_sound (JL := []) (JC := [(6, [8], [0, 7])]) Tcall_ok mixed_ok Try.func25 (by kernel_rfl) (by kernel_rfl)
    (((by kernel_rfl : funP Try.prog Tcall [] [(6, [8], [0, 7])] Try.f25 [v0, v1, v2] w R = Vc25 v0 v1 v2 w R)).mpr h)

-- wal.Log.files
def Vc26 (v0 : Value) (w : World) (R : Value → World → Prop) : Prop :=
  HNil v0 fun v7 =>
  HFld 1 v7 fun v8 =>
  HLd v8 w fun v9 =>
  HCall Try.prog 12 [v9] w fun v10 w_1 =>
  HLenS v10 fun v11 =>
  ∃ (I : List Value → World → Prop) (μ : List Value → World → Nat), I [(.slice Option.none 0 0), (.int .i64 0)] w_1 ∧
  ∀ (v3 : Value) (v12 : Value) w_2, I [v3, v12] w_2 →
  HBin .lss v12 v11 fun v13 =>
  HIf v13
  (HIdx 1 v10 v12 fun v14 =>
  HLd v14 w_2 fun v15 =>
  HNil v0 fun v18 =>
  HFld 2 v18 fun v19 =>
  HLd v19 w_2 fun v20 =>
  HBin .geq v15 v20 fun v21 =>
  HIf v21
  (HNil v0 fun v25 =>
  HFld 2 v25 fun v26 =>
  HLd v26 w_2 fun v27 =>
  HBin .add v27 (.int .i64 4096) fun v28 =>
  HBin .lss v15 v28 fun v29 =>
  HIf v29
  (HBldS (zrow [.int .i64 0] 1) [(0, 1, v15)] 3 1 w_2 fun v33 w_3 =>
  HApp 1 8 [.int .i64 0] 3 v3 v33 w_3 fun v34 w_4 =>
  HBin .add v12 (.int .i64 1) fun v35 =>
  I [v34, v35] w_4 ∧ μ [v34, v35] w_4 < μ [v3, v12] w_2)
  (HBin .add v12 (.int .i64 1) fun v35_1 =>
  I [v3, v35_1] w_2 ∧ μ [v3, v35_1] w_2 < μ [v3, v12] w_2))
  (HBin .add v12 (.int .i64 1) fun v35_2 =>
  I [v3, v35_2] w_2 ∧ μ [v3, v35_2] w_2 < μ [v3, v12] w_2))
  (R v3 w_2)
theorem vc26 (v0 : Value) (w : World) (R : Value → World → Prop) (h : Vc26 v0 w R) : HCall Try.prog 26 [v0] w R :=
  funP_sound (JL := [(3, [3, 12], [0, 10, 11])]) (JC := []) Tcall_ok mixed_ok Try.func26 (by kernel_rfl) (by kernel_rfl)
    (((by kernel_rfl : funP Try.prog Tcall [(3, [3, 12], [0, 10, 11])] [] Try.f26 [v0] w R = Vc26 v0 w R)).mpr h)

-- wal.Log.load
def Vc27 (v0 : Value) (v1 : Value) (v2 : Value) (w : World) (R : Value → World → Prop) : Prop :=
  HNil v0 fun v17 =>
  HFld 1 v17 fun v18 =>
  HLd v18 w fun v19 =>
  HCall Try.prog 13 [v19, v1] w fun v21 w_1 =>
  HExt 0 v21 fun v22 =>
  HExt 1 v21 fun v23 =>
  HCall Try.prog 41 [v22] w_1 fun v26 w_2 =>
  HExt 0 v26 fun v27 =>
  HExt 1 v26 fun v28 =>
  HExt 2 v26 fun v29 =>
  HExt 3 v26 fun v30 =>
  HBin .neq v30 (.int .i64 0) fun v32 =>
  HIf v32
  (R (.tuple #[(.bool false), v2]) w_2)
  (HBld [.int .i64 0, .int .i64 0, .int .i64 0, .slice none 0 0] [(0, 1, v1), (1, 1, v27), (2, 1, v29), (3, 1, v28)] fun v38 =>
  HNew [.int .i64 0, .int .i64 0, .int .i64 0, .slice none 0 0] 71 w_2 fun v14 w_3 =>
  HStN 4 v14 v38 w_3 fun w_4 =>
  ∃ I : List Value → World → Prop, (HNot v2 fun v40 =>
  HIf v40
  (HLenS v22 fun v44 =>
  HBin .neq v29 v44 fun v45 =>
  HIf v45
  (I [(.bool true)] w_4)
  (HLenS v28 fun v48 =>
  HBin .eql v48 (.int .i64 0) fun v49 =>
  HIf v49
  (I [(.bool true)] w_4)
  (HNil v0 fun v54 =>
  HFld 0 v54 fun v55 =>
  HFld 0 v55 fun v56 =>
  HLd v56 w_4 fun v57 =>
  HLenS v57 fun v58 =>
  HBin .gtr v58 (.int .i64 0) fun v59 =>
  HIf v59
  (HNil v0 fun v63 =>
  HFld 0 v63 fun v64 =>
  HCall Try.prog 16 [v64] w_4 fun v65 w_5 =>
  HBin .add v65 (.int .i64 1) fun v66 =>
  HBin .neq v27 v66 fun v67 =>
  HIf v67
  (I [(.bool true)] w_5)
  (HLdN 4 v14 w_5 fun v71 =>
  HCall Try.prog 39 [v71] w_5 fun v72 w_6 =>
  HBin .sub v72 (.int .i64 1) fun v73 =>
  HBin .gtr v73 (.int .i64 1099511627776) fun v74 =>
  I [v74] w_6))
  (HLdN 4 v14 w_4 fun v71_1 =>
  HCall Try.prog 39 [v71_1] w_4 fun v72_1 w_7 =>
  HBin .sub v72_1 (.int .i64 1) fun v73_1 =>
  HBin .gtr v73_1 (.int .i64 1099511627776) fun v74_1 =>
  I [v74_1] w_7))))
  (HNil v0 fun v54_1 =>
  HFld 0 v54_1 fun v55_1 =>
  HFld 0 v55_1 fun v56_1 =>
  HLd v56_1 w_4 fun v57_1 =>
  HLenS v57_1 fun v58_1 =>
  HBin .gtr v58_1 (.int .i64 0) fun v59_1 =>
  HIf v59_1
  (HNil v0 fun v63_1 =>
  HFld 0 v63_1 fun v64_1 =>
  HCall Try.prog 16 [v64_1] w_4 fun v65_1 w_8 =>
  HBin .add v65_1 (.int .i64 1) fun v66_1 =>
  HBin .neq v27 v66_1 fun v67_1 =>
  HIf v67_1
  (I [(.bool true)] w_8)
  (HLdN 4 v14 w_8 fun v71_2 =>
  HCall Try.prog 39 [v71_2] w_8 fun v72_2 w_9 =>
  HBin .sub v72_2 (.int .i64 1) fun v73_2 =>
  HBin .gtr v73_2 (.int .i64 1099511627776) fun v74_2 =>
  I [v74_2] w_9))
  (HLdN 4 v14 w_4 fun v71_3 =>
  HCall Try.prog 39 [v71_3] w_4 fun v72_3 w_10 =>
  HBin .sub v72_3 (.int .i64 1) fun v73_3 =>
  HBin .gtr v73_3 (.int .i64 1099511627776) fun v74_3 =>
  I [v74_3] w_10))) ∧
  ∀ (v75 : Value) w_11, I [v75] w_11 →
  HIf v75
  (R (.tuple #[(.bool true), (.bool false)]) w_11)
  (HDraw w_11 fun w_12 =>
  HNil v0 fun v78 =>
  HFld 0 v78 fun v79 =>
  HFld 0 v79 fun v80 =>
  HLd v80 w_12 fun v81 =>
  HLdN 4 v14 w_12 fun v82 =>
  HBldS (zrow [.int .i64 0, .int .i64 0, .int .i64 0, .slice none 0 0] 1) [(0, 4, v82)] 71 1 w_12 fun v83 w_13 =>
  HLd v80 w_13 fun v81_1 =>
  v81_1 = v81 ∧
  HApp 4 48 [.int .i64 0, .int .i64 0, .int .i64 0, .slice none 0 0] 71 v81 v83 w_13 fun v84 w_14 =>
  HNil v0 fun v85 =>
  HFld 0 v85 fun v86 =>
  HFld 0 v86 fun v87 =>
  HSt v87 v84 w_14 fun w_15 =>
  R (.tuple #[(.bool true), (.bool true)]) w_15))
theorem vc27 (v0 : Value) (v1 : Value) (v2 : Value) (w : World) (R : Value → World → Prop) (h : Vc27 v0 v1 v2 w R) : HCall Try.prog 27 [v0, v1, v2] w R :=
  funP_sound (JL := []) (JC := [(7, [75], [0, 14])]) Tcall_ok mixed_ok Try.func27 (by kernel_rfl) (by kernel_rfl)
    (((by kernel_rfl : funP Try.prog Tcall [] [(7, [75], [0, 14])] Try.f27 [v0, v1, v2] w R = Vc27 v0 v1 v2 w R)).mpr h)

-- wal.Log.begin
def Vc28 (v0 : Value) (v1 : Value) (v2 : Value) (w : World) (R : Value → World → Prop) : Prop :=
  HLenS v1 fun v10 =>
  HBin .eql v10 (.int .i64 0) fun v11 =>
  HIf v11
  (R (.int .i64 0) w)
  (HLenS v1 fun v14 =>
  HBin .sub v14 (.int .i64 1) fun v15 =>
  HIdx 1 v1 v15 fun v16 =>
  HLd v16 w fun v17 =>
  HNot v2 fun v19 =>
  HIf v19
  (HNil v0 fun v21 =>
  HFld 1 v21 fun v22 =>
  HLd v22 w fun v23 =>
  HCall Try.prog 40 [v23, v17] w fun v25 w_1 =>
  R v25 w_1)
  (HDraw w fun w_2 =>
  HNil v0 fun v27 =>
  HFld 0 v27 fun v28 =>
  HFld 0 v28 fun v29 =>
  HLd v29 w_2 fun v30 =>
  HNil v0 fun v32 =>
  HFld 0 v32 fun v33 =>
  HFld 0 v33 fun v34 =>
  HLd v34 w_2 fun v35 =>
  HLenS v35 fun v36 =>
  HBin .sub v36 (.int .i64 1) fun v37 =>
  HIdx 4 v30 v37 fun v38 =>
  HFld 2 v38 fun v39 =>
  HLd v39 w_2 fun v40 =>
  HNil v0 fun v42 =>
  HFld 1 v42 fun v43 =>
  HLd v43 w_2 fun v44 =>
  HCall Try.prog 42 [v44, v17] w_2 fun v46 w_3 =>
  HBin .gtr v46 v40 fun v48 =>
  HIf v48
  (HNil v0 fun v50 =>
  HFld 1 v50 fun v51 =>
  HLd v51 w_3 fun v52 =>
  HCall Try.prog 14 [v52, v17, v40] w_3 fun v55 w_4 =>
  R v55 w_4)
  (R (.int .i64 0) w_3)))
theorem vc28 (v0 : Value) (v1 : Value) (v2 : Value) (w : World) (R : Value → World → Prop) (h : Vc28 v0 v1 v2 w R) : HCall Try.prog 28 [v0, v1, v2] w R :=
  funP_sound (JL := []) (JC := []) Tcall_ok mixed_ok Try.func28 (by kernel_rfl) (by kernel_rfl)
    (((by kernel_rfl : funP Try.prog Tcall [] [] Try.f28 [v0, v1, v2] w R = Vc28 v0 v1 v2 w R)).mpr h)

-- wal.Log.ready
def Vc30 (v0 : Value) (v1 : Value) (w : World) (R : Value → World → Prop) : Prop :=
  HNew [.int .i64 0, .bool false, .slice none 0 0] 65 w fun v4 w_1 =>
  HCall Try.prog 43 [v0, v1] w_1 fun v11 w_2 =>
  HExt 0 v11 fun v12 =>
  HExt 1 v11 fun v13 =>
  HNew [.int .i64 0, .bool false, .slice none 0 0] 65 w_2 fun v6 w_3 =>
  HStN 3 v6 v12 w_3 fun w_4 =>
  HBin .eql v13 (.int .i64 0) fun v15 =>
  HIf v15
  (HCall Try.prog 44 [v0] w_4 fun v17 w_5 =>
  HLdN 3 v6 w_5 fun v18 =>
  HStN 3 v4 v18 w_5 fun w_6 =>
  HLdN 3 v4 w_6 fun r =>
  R (.tuple #[r, v17]) w_6)
  (HLdN 3 v6 w_4 fun v18_1 =>
  HStN 3 v4 v18_1 w_4 fun w_7 =>
  HLdN 3 v4 w_7 fun r_1 =>
  R (.tuple #[r_1, v13]) w_7)
theorem vc30 (v0 : Value) (v1 : Value) (w : World) (R : Value → World → Prop) (h : Vc30 v0 v1 w R) : HCall Try.prog 30 [v0, v1] w R :=
  funP_sound (JL := []) (JC := []) Tcall_ok mixed_ok Try.func30 (by kernel_rfl) (by kernel_rfl)
    (((by kernel_rfl : funP Try.prog Tcall [] [] Try.f30 [v0, v1] w R = Vc30 v0 v1 w R)).mpr h)

-- wal.segment.next
def Vc39 (v0 : Value) (w : World) (R : Value → World → Prop) : Prop :=
  ∃ cs : List Value, v0 = .agg cs.toArray ∧ HNew cs 71 w fun v1 w_1 =>
  HFld 1 v1 fun v3 =>
  HLd v3 w_1 fun v4 =>
  HFld 3 v1 fun v5 =>
  HLd v5 w_1 fun v6 =>
  HLenS v6 fun v7 =>
  HBin .add v4 v7 fun v8 =>
  R v8 w_1
theorem vc39 (v0 : Value) (w : World) (R : Value → World → Prop) (h : Vc39 v0 w R) : HCall Try.prog 39 [v0] w R :=
  funP_sound (JL := []) (JC := []) Tcall_ok mixed_ok Try.func39 (by kernel_rfl) (by kernel_rfl)
    (((by kernel_rfl : funP Try.prog Tcall [] [] Try.f39 [v0] w R = Vc39 v0 w R)).mpr h)

-- wal.Log.plan
def Vc43 (v0 : Value) (v1 : Value) (w : World) (R : Value → World → Prop) : Prop :=
  HNew [.int .i64 0, .bool false, .slice none 0 0] 65 w fun v4 w_1 =>
  HCall Try.prog 51 [v1] w_1 fun v14 w_2 =>
  HExt 0 v14 fun v15 =>
  HExt 1 v14 fun v16 =>
  HBin .neq v16 (.int .i64 0) fun v19 =>
  HIf v19
  (HBld [.int .i64 0, .bool false, .slice none 0 0] [] fun v20 =>
  HStN 3 v4 v20 w_2 fun w_3 =>
  HLdN 3 v4 w_3 fun r =>
  R (.tuple #[r, v16]) w_3)
  (HNil v0 fun v24 =>
  HFld 1 v24 fun v25 =>
  HLd v25 w_2 fun v26 =>
  HCall Try.prog 19 [v26] w_2 fun v27 w_4 =>
  HIf v27
  (HBld [.int .i64 0, .bool false, .slice none 0 0] [] fun v28 =>
  HStN 3 v4 v28 w_4 fun w_5 =>
  HLdN 3 v4 w_5 fun r_1 =>
  R (.tuple #[r_1, (.int .i64 8)]) w_5)
  (HNil v0 fun v31 =>
  HFld 0 v31 fun v32 =>
  HCall Try.prog 16 [v32] w_4 fun v33 w_6 =>
  HBin .geq v33 (.int .i64 1099511627776) fun v34 =>
  HIf v34
  (HBld [.int .i64 0, .bool false, .slice none 0 0] [] fun v35 =>
  HStN 3 v4 v35 w_6 fun w_7 =>
  HLdN 3 v4 w_7 fun r_2 =>
  R (.tuple #[r_2, (.int .i64 7)]) w_7)
  (HNil v0 fun v37 =>
  HFld 2 v37 fun v38 =>
  HLd v38 w_6 fun v39 =>
  ∃ I : List Value → World → Prop, (HNil v0 fun v41 =>
  HFld 0 v41 fun v42 =>
  HFld 0 v42 fun v43 =>
  HLd v43 w_6 fun v44 =>
  HLenS v44 fun v45 =>
  HBin .gtr v45 (.int .i64 0) fun v47 =>
  HIf v47
  (HNil v0 fun v49 =>
  HFld 0 v49 fun v50 =>
  HFld 0 v50 fun v51 =>
  HLd v51 w_6 fun v52 =>
  HBin .sub v45 (.int .i64 1) fun v54 =>
  HIdx 4 v52 v54 fun v55 =>
  HLdN 4 v55 w_6 fun v56 =>
  HNew [.int .i64 0, .int .i64 0, .int .i64 0, .slice none 0 0] 71 w_6 fun v10 w_8 =>
  HStN 4 v10 v56 w_8 fun w_9 =>
  HDraw w_9 fun w_10 =>
  HFld 3 v10 fun v57 =>
  HLd v57 w_10 fun v58 =>
  HLenS v58 fun v59 =>
  HBin .eql v59 (.int .i64 0) fun v60 =>
  HIf v60
  (HFld 0 v10 fun v73 =>
  HLd v73 w_10 fun v74 =>
  HBld [.int .i64 0, .bool false, .slice none 0 0] [(0, 1, v74), (1, 1, (.bool false)), (2, 1, v15)] fun v76 =>
  HStN 3 v4 v76 w_10 fun w_11 =>
  HLdN 3 v4 w_11 fun r_3 =>
  R (.tuple #[r_3, (.int .i64 0)]) w_11)
  (HFld 2 v10 fun v62 =>
  HLd v62 w_10 fun v63 =>
  HLenS v15 fun v65 =>
  HBin .add v63 v65 fun v66 =>
  HNil v0 fun v68 =>
  HFld 3 v68 fun v69 =>
  HLd v69 w_10 fun v70 =>
  HBin .leq v66 v70 fun v71 =>
  HIf v71
  (HFld 0 v10 fun v73_1 =>
  HLd v73_1 w_10 fun v74_1 =>
  HBld [.int .i64 0, .bool false, .slice none 0 0] [(0, 1, v74_1), (1, 1, (.bool false)), (2, 1, v15)] fun v76_1 =>
  HStN 3 v4 v76_1 w_10 fun w_12 =>
  HLdN 3 v4 w_12 fun r_4 =>
  R (.tuple #[r_4, (.int .i64 0)]) w_12)
  (HFld 0 v10 fun v77 =>
  HLd v77 w_10 fun v78 =>
  HBin .add v78 (.int .i64 1) fun v79 =>
  I [v79] w_10)))
  (I [v39] w_6)) ∧
  ∀ (v8 : Value) w_13, I [v8] w_13 →
  HNil v0 fun v82 =>
  HFld 2 v82 fun v83 =>
  HLd v83 w_13 fun v84 =>
  HBin .add v84 (.int .i64 4096) fun v85 =>
  HBin .geq v8 v85 fun v86 =>
  HIf v86
  (HBld [.int .i64 0, .bool false, .slice none 0 0] [] fun v87 =>
  HStN 3 v4 v87 w_13 fun w_14 =>
  HLdN 3 v4 w_14 fun r_5 =>
  R (.tuple #[r_5, (.int .i64 7)]) w_14)
  (HNil v0 fun v90 =>
  HFld 0 v90 fun v91 =>
  HCall Try.prog 16 [v91] w_13 fun v92 w_15 =>
  HBin .add v92 (.int .i64 1) fun v93 =>
  HCall Try.prog 52 [v93] w_15 fun v94 w_16 =>
  HExt 0 v94 fun v95 =>
  HExt 1 v94 fun v96 =>
  HBldS (zrow [.slice none 0 0] 2) [(0, 1, v95), (1, 1, v15)] 23 2 w_16 fun v100 w_17 =>
  HCall Try.prog 53 [v100] w_17 fun v101 w_18 =>
  HBld [.int .i64 0, .bool false, .slice none 0 0] [(0, 1, v8), (1, 1, (.bool true)), (2, 1, v101)] fun v102 =>
  HStN 3 v4 v102 w_18 fun w_19 =>
  HLdN 3 v4 w_19 fun r_6 =>
  R (.tuple #[r_6, v96]) w_19))))
theorem vc43 (v0 : Value) (v1 : Value) (w : World) (R : Value → World → Prop) (h : Vc43 v0 v1 w R) : HCall Try.prog 43 [v0, v1] w R :=
  funP_sound (JL := []) (JC := [(15, [8], [0, 4, 6])]) Tcall_ok mixed_ok Try.func43 (by kernel_rfl) (by kernel_rfl)
    (((by kernel_rfl : funP Try.prog Tcall [] [(15, [8], [0, 4, 6])] Try.f43 [v0, v1] w R = Vc43 v0 v1 w R)).mpr h)

-- wal.Log.mend
def Vc44 (v0 : Value) (w : World) (R : Value → World → Prop) : Prop :=
  HNil v0 fun v6 =>
  HFld 4 v6 fun v7 =>
  HLd v7 w fun v8 =>
  HEq (.pointer 87) false v8 (.pointer Option.none) fun v10 =>
  HIf v10
  (R (.int .i64 0) w)
  (HNil v8 fun v12 =>
  HFld 2 v12 fun v13 =>
  HLd v13 w fun v14 =>
  HIf v14
  (HDraw w fun w_1 =>
  HNil v0 fun v16 =>
  HFld 1 v16 fun v17 =>
  HLd v17 w_1 fun v18 =>
  HNil v8 fun v20 =>
  HFld 0 v20 fun v21 =>
  HLd v21 w_1 fun v22 =>
  HCall Try.prog 40 [v18, v22] w_1 fun v23 w_2 =>
  HBin .eql v23 (.int .i64 0) fun v38 =>
  HIf v38
  (HNil v0 fun v40 =>
  HFld 4 v40 fun v41 =>
  HSt v41 (.pointer Option.none) w_2 fun w_3 =>
  R v23 w_3)
  (R v23 w_2))
  (HDraw w fun w_4 =>
  HNil v0 fun v25 =>
  HFld 1 v25 fun v26 =>
  HLd v26 w_4 fun v27 =>
  HNil v8 fun v29 =>
  HFld 0 v29 fun v30 =>
  HLd v30 w_4 fun v31 =>
  HNil v8 fun v33 =>
  HFld 1 v33 fun v34 =>
  HLd v34 w_4 fun v35 =>
  HCall Try.prog 14 [v27, v31, v35] w_4 fun v36 w_5 =>
  HBin .eql v36 (.int .i64 0) fun v38_1 =>
  HIf v38_1
  (HNil v0 fun v40_1 =>
  HFld 4 v40_1 fun v41_1 =>
  HSt v41_1 (.pointer Option.none) w_5 fun w_6 =>
  R v36 w_6)
  (R v36 w_5)))
theorem vc44 (v0 : Value) (w : World) (R : Value → World → Prop) (h : Vc44 v0 w R) : HCall Try.prog 44 [v0] w R :=
  funP_sound (JL := []) (JC := []) Tcall_ok mixed_ok Try.func44 (by kernel_rfl) (by kernel_rfl)
    (((by kernel_rfl : funP Try.prog Tcall [] [] Try.f44 [v0] w R = Vc44 v0 w R)).mpr h)

end Go.Proofs.Ytilgfgghjdomcaa
