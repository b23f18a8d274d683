/-
  What calls of functions ask, printed by a program of mine (gen.py) out of the functions' code; each is checked by the kernel.
-/
import Derived.Test.YthjnknpgcmmapaaTab
namespace Go.Proofs.Ythjnknpgcmmapaa
set_option linter.unusedVariables false
set_option maxRecDepth 100000
open Go.RowKit

-- qanatlaw32.AuditStands
def Vc8 (v0 : Value) (v1 : Value) (v2 : Value) (v3 : Value) (w : World) (R : Value → World → Prop) : Prop :=
  HLenS v1 fun v12 =>
  HBin .gtr v12 (.int .i64 200) fun v13 =>
  HIf v13
  (HCall Try.prog 35 [] w fun v14 w_1 =>
  R v14 w_1)
  (HCall Try.prog 36 [v2, (.int .i64 20)] w fun v16 w_2 =>
  ∃ (I : List Value → World → Prop) (μ : List Value → World → Nat), I [(.int .i64 (-1))] w_2 ∧
  ∀ (v10 : Value) w_3, I [v10] w_3 →
  HBin .lss v10 (.int .i64 10) fun v18 =>
  HIf v18
  (HCall Try.prog 27 [v0, (.int .i64 256)] w_3 fun v22 w_4 =>
  HCall Try.prog 37 [v22, v16, v10] w_4 fun v25 w_5 =>
  HCall Try.prog 27 [v0, (.int .i64 256)] w_5 fun v27 w_6 =>
  HCall Try.prog 38 [v27, v16, v10] w_6 fun v30 w_7 =>
  HBin .neq v25 v30 fun v31 =>
  HIf v31
  (R (.bool false) w_7)
  (HBin .add v10 (.int .i64 1) fun v20 =>
  I [v20] w_7 ∧ μ [v20] w_7 < μ [v10] w_3))
  (HCall Try.prog 35 [] w_3 fun v32 w_8 =>
  HIf v32
  (HCall Try.prog 27 [v0, (.int .i64 256)] w_8 fun v35 w_9 =>
  HCall Try.prog 37 [v35, v1, v3] w_9 fun v38 w_10 =>
  HCall Try.prog 27 [v0, (.int .i64 256)] w_10 fun v40 w_11 =>
  HCall Try.prog 38 [v40, v1, v3] w_11 fun v43 w_12 =>
  HBin .eql v38 v43 fun v44 =>
  R v44 w_12)
  (R (.bool false) w_8)))
theorem vc8 (v0 : Value) (v1 : Value) (v2 : Value) (v3 : Value) (w : World) (R : Value → World → Prop) (h : Vc8 v0 v1 v2 v3 w R) : HCall Try.prog 8 [v0, v1, v2, v3] w R :=
  funP_sound (JL := [(5, [10], [0, 1, 3, 9])]) (JC := []) Tcall_ok mixed_ok Try.func8 (by kernel_rfl) (by kernel_rfl)
    (((by kernel_rfl : funP Try.prog Tcall [(5, [10], [0, 1, 3, 9])] [] Try.f8 [v0, v1, v2, v3] w R = Vc8 v0 v1 v2 v3 w R)).mpr h)

-- qanatlaw32.AuditTables
def Vc9 (v0 : Value) (v1 : Value) (v2 : Value) (v3 : Value) (v4 : Value) (v5 : Value) (v6 : Value) (w : World) (R : Value → World → Prop) : Prop :=
  HLenS v5 fun v25 =>
  HBin .gtr v25 (.int .i64 60) fun v26 =>
  HIf v26
  (HCall Try.prog 35 [] w fun v27 w_1 =>
  R v27 w_1)
  (HCall Try.prog 39 [v0, (.int .i64 3), (.int .i64 25)] w fun v29 w_2 =>
  HLenS v29 fun v32 =>
  HCall Try.prog 36 [v1, v32] w_2 fun v33 w_3 =>
  HLenS v29 fun v36 =>
  HBin .add v36 (.int .i64 3) fun v37 =>
  HCall Try.prog 27 [v3, v37] w_3 fun v38 w_4 =>
  HBin .sub v38 (.int .i64 1) fun v39 =>
  HCall Try.prog 27 [v4, (.int .i64 4)] w_4 fun v41 w_5 =>
  HCall Try.prog 40 [(.int .i64 8), v29, v39] w_5 fun v44 w_6 =>
  HIdx 1 v44 v41 fun v46 =>
  HLd v46 w_6 fun v47 =>
  HBldS (zrow [.int .i64 0, .string ⟨#[]⟩] 0) [] 69 0 w_6 fun v48 w_7 =>
  HApp 2 24 [.int .i64 0, .string ⟨#[]⟩] 69 v48 v47 w_7 fun v50 w_8 =>
  ∃ I : List Value → World → Prop, (HLenS v50 fun v52 =>
  HBin .gtr v52 (.int .i64 0) fun v53 =>
  HIf v53
  (HLenS v50 fun v56 =>
  HCall Try.prog 27 [v6, v56] w_8 fun v57 w_9 =>
  HCall Try.prog 27 [v6, (.int .i64 3)] w_9 fun v59 w_10 =>
  HBin .eql v59 (.int .i64 0) fun v69 =>
  HIf v69
  (HDraw w_10 fun w_11 =>
  HSl 2 v50 none (some v57) (some v57) fun v73 =>
  HBin .add v57 (.int .i64 1) fun v76 =>
  HSl 2 v50 (some v76) none none fun v77 =>
  HApp 2 24 [.int .i64 0, .string ⟨#[]⟩] 69 v73 v77 w_11 fun v78 w_12 =>
  I [v78] w_12)
  (HBin .eql v59 (.int .i64 1) fun v80 =>
  HIf v80
  (HIdx 2 v50 v57 fun v85 =>
  HFld 1 v85 fun v86 =>
  HLd v86 w_10 fun v87 =>
  HBin .add v87 (.string { data := #[120] }) fun v88 =>
  HIdx 2 v50 v57 fun v89 =>
  HFld 1 v89 fun v90 =>
  HSt v90 v88 w_10 fun w_13 =>
  I [v50] w_13)
  (HIdx 2 v50 v57 fun v62 =>
  HFld 0 v62 fun v63 =>
  HLd v63 w_10 fun v64 =>
  HBin .add v64 (.int .i64 1) fun v65 =>
  HIdx 2 v50 v57 fun v66 =>
  HFld 0 v66 fun v67 =>
  HSt v67 v65 w_10 fun w_14 =>
  I [v50] w_14)))
  (I [v50] w_8)) ∧
  ∀ (v20 : Value) w_15, I [v20] w_15 →
  HBldS (zrow [.slice none 0 0] 4) [(0, 1, v5), (1, 1, v47), (2, 1, v20), (3, 1, (.slice Option.none 0 0))] 64 4 w_15 fun v94 w_16 =>
  HLenS v94 fun v95 =>
  ∃ (I_1 : List Value → World → Prop) (μ : List Value → World → Nat), I_1 [(.int .i64 0)] w_16 ∧
  ∀ (v96 : Value) w_17, I_1 [v96] w_17 →
  HBin .lss v96 v95 fun v97 =>
  HIf v97
  (HIdx 1 v94 v96 fun v98 =>
  HLd v98 w_17 fun v99 =>
  HCall Try.prog 27 [v2, (.int .i64 8)] w_17 fun v103 w_18 =>
  HCall Try.prog 41 [v29, v39, v103, v33, v41, v99] w_18 fun v107 w_19 =>
  HCall Try.prog 27 [v2, (.int .i64 8)] w_19 fun v111 w_20 =>
  HCall Try.prog 42 [v29, v39, v111, v33, v41, v99] w_20 fun v115 w_21 =>
  HEq .bool true v107 v115 fun v116 =>
  HIf v116
  (R (.bool false) w_21)
  (HBin .add v96 (.int .i64 1) fun v117 =>
  I_1 [v117] w_21 ∧ μ [v117] w_21 < μ [v96] w_17))
  (HCall Try.prog 35 [] w_17 fun v118 w_22 =>
  R v118 w_22))
theorem vc9 (v0 : Value) (v1 : Value) (v2 : Value) (v3 : Value) (v4 : Value) (v5 : Value) (v6 : Value) (w : World) (R : Value → World → Prop) (h : Vc9 v0 v1 v2 v3 v4 v5 v6 w R) : HCall Try.prog 9 [v0, v1, v2, v3, v4, v5, v6] w R :=
  funP_sound (JL := [(18, [96], [2, 15, 16, 17, 18, 94, 95])]) (JC := [(17, [20], [2, 5, 15, 16, 17, 18, 19])]) Tcall_ok mixed_ok Try.func9 (by kernel_rfl) (by kernel_rfl)
    (((by kernel_rfl : funP Try.prog Tcall [(18, [96], [2, 15, 16, 17, 18, 94, 95])] [(17, [20], [2, 5, 15, 16, 17, 18, 19])] Try.f9 [v0, v1, v2, v3, v4, v5, v6] w R = Vc9 v0 v1 v2 v3 v4 v5 v6 w R)).mpr h)

-- qanatlaw32.AuditWhole
def Vc10 (v0 : Value) (v1 : Value) (v2 : Value) (v3 : Value) (w : World) (R : Value → World → Prop) : Prop :=
  HCall Try.prog 39 [v0, (.int .i64 1), (.int .i64 25)] w fun v20 w_1 =>
  HLenS v20 fun v22 =>
  HBin .eql v22 (.int .i64 0) fun v23 =>
  HIf v23
  (HCall Try.prog 35 [] w_1 fun v24 w_2 =>
  R v24 w_2)
  (HLenS v20 fun v27 =>
  HCall Try.prog 27 [v1, v27] w_1 fun v28 w_3 =>
  HBin .add (.int .i64 1) v28 fun v29 =>
  HCall Try.prog 40 [(.int .i64 1), v20, v29] w_3 fun v32 w_4 =>
  HIdx 1 v32 (.int .i64 0) fun v33 =>
  HLd v33 w_4 fun v34 =>
  HCall Try.prog 27 [v2, v29] w_4 fun v37 w_5 =>
  HBin .add (.int .i64 1) v37 fun v38 =>
  HBld [.int .i64 0, .int .i64 0, .int .i64 0, .int .i64 0, .int .i64 0, .int .i64 0, .bool false] [(0, 1, (.int .i64 1)), (2, 1, (.int .i64 1)), (3, 1, v38)] fun v40 =>
  HBldS (zrow [.int .i64 0, .int .i64 0, .int .i64 0, .int .i64 0, .int .i64 0, .int .i64 0, .bool false] 1) [(0, 7, v40)] 74 1 w_5 fun v41 w_6 =>
  HBld [.int .i64 0, .int .i64 0, .int .i64 0, .int .i64 0, .int .i64 0, .int .i64 0, .bool false] [(0, 1, (.int .i64 1)), (2, 1, (.int .i64 1)), (3, 1, v38), (5, 1, (.int .i64 1)), (6, 1, (.bool true))] fun v43 =>
  HBldS (zrow [.int .i64 0, .int .i64 0, .int .i64 0, .int .i64 0, .int .i64 0, .int .i64 0, .bool false] 1) [(0, 7, v43)] 74 1 w_6 fun v44 w_7 =>
  HCall Try.prog 40 [(.int .i64 1), v20, v38] w_7 fun v47 w_8 =>
  HIdx 1 v47 (.int .i64 0) fun v48 =>
  HLd v48 w_8 fun v49 =>
  ∃ (I : List Value → World → Prop) (μ : List Value → World → Nat), I [(.slice Option.none 0 0), (.int .i64 0)] w_8 ∧
  ∀ (v16 : Value) (v17 : Value) w_9, I [v16, v17] w_9 →
  HLenS v49 fun v52 =>
  HBin .lss v17 v52 fun v53 =>
  HIf v53
  (HLenS v3 fun v58 =>
  HBin .lss v17 v58 fun v59 =>
  HIf v59
  (HIdx 1 v3 v17 fun v63 =>
  HLd v63 w_9 fun v64 =>
  HIf v64
  (HIdx 2 v49 v17 fun v69 =>
  HLdN 2 v69 w_9 fun v70 =>
  HBldS (zrow [.int .i64 0, .string ⟨#[]⟩] 1) [(0, 2, v70)] 69 1 w_9 fun v71 w_10 =>
  HApp 2 24 [.int .i64 0, .string ⟨#[]⟩] 69 v16 v71 w_10 fun v72 w_11 =>
  HBin .add v17 (.int .i64 1) fun v55 =>
  I [v72, v55] w_11 ∧ μ [v72, v55] w_11 < μ [v16, v17] w_9)
  (HBin .add v17 (.int .i64 1) fun v55_1 =>
  I [v16, v55_1] w_9 ∧ μ [v16, v55_1] w_9 < μ [v16, v17] w_9))
  (HBin .add v17 (.int .i64 1) fun v55_2 =>
  I [v16, v55_2] w_9 ∧ μ [v16, v55_2] w_9 < μ [v16, v17] w_9))
  (HBldS (zrow [.int .i64 0, .string ⟨#[]⟩] 0) [] 69 0 w_9 fun v73 w_12 =>
  HApp 2 24 [.int .i64 0, .string ⟨#[]⟩] 69 v73 v34 w_12 fun v75 w_13 =>
  HBld [.int .i64 0, .string ⟨#[]⟩] [(0, 1, (.int .i64 1099511627777))] fun v77 =>
  HBldS (zrow [.int .i64 0, .string ⟨#[]⟩] 1) [(0, 2, v77)] 69 1 w_13 fun v78 w_14 =>
  HApp 2 24 [.int .i64 0, .string ⟨#[]⟩] 69 v75 v78 w_14 fun v79 w_15 =>
  HCall Try.prog 41 [v20, v29, (.int .i64 0), (.slice Option.none 0 0), (.int .i64 0), v34] w_15 fun v83 w_16 =>
  HNot v83 fun v84 =>
  HIf v84
  (R (.bool false) w_16)
  (HCall Try.prog 41 [v20, v29, (.int .i64 1), v44, (.int .i64 0), v34] w_16 fun v90 w_17 =>
  HNot v90 fun v91 =>
  HIf v91
  (R (.bool false) w_17)
  (HCall Try.prog 41 [v20, v29, (.int .i64 1), v44, (.int .i64 0), v79] w_17 fun v98 w_18 =>
  HIf v98
  (R (.bool false) w_18)
  (HCall Try.prog 41 [v20, v29, (.int .i64 0), (.slice Option.none 0 0), (.int .i64 0), v79] w_18 fun v104 w_19 =>
  HIf v104
  (R (.bool false) w_19)
  (HCall Try.prog 35 [] w_19 fun v106 w_20 =>
  HIf v106
  (HCall Try.prog 41 [v20, v29, (.int .i64 1), v41, (.int .i64 0), v16] w_20 fun v112 w_21 =>
  HIf v112
  (HCall Try.prog 41 [v20, v29, (.int .i64 1), v41, (.int .i64 0), v34] w_21 fun v119 w_22 =>
  HIf v119
  (HCall Try.prog 41 [v20, v29, (.int .i64 1), v41, (.int .i64 0), v79] w_22 fun v126 w_23 =>
  HNot v126 fun v127 =>
  HIf v127
  (HCall Try.prog 41 [v20, v29, (.int .i64 1), (.slice Option.none 0 0), (.int .i64 0), (.slice Option.none 0 0)] w_23 fun v132 w_24 =>
  HIf v132
  (HLenS v34 fun v136 =>
  HBin .eql v136 (.int .i64 0) fun v137 =>
  HIf v137
  (HLenS v20 fun v149 =>
  HBin .add v149 (.int .i64 1) fun v150 =>
  HCall Try.prog 41 [v20, v150, (.int .i64 1), (.slice Option.none 0 0), (.int .i64 0), (.slice Option.none 0 0)] w_24 fun v151 w_25 =>
  HNot v151 fun v152 =>
  HIf v152
  (HCall Try.prog 41 [v20, (.int .i64 (-1)), (.int .i64 1), (.slice Option.none 0 0), (.int .i64 0), (.slice Option.none 0 0)] w_25 fun v156 w_26 =>
  HNot v156 fun v157 =>
  R v157 w_26)
  (R (.bool false) w_25))
  (HCall Try.prog 41 [v20, v29, (.int .i64 1), (.slice Option.none 0 0), (.int .i64 0), v34] w_24 fun v142 w_27 =>
  HNot v142 fun v143 =>
  HIf v143
  (HLenS v20 fun v149_1 =>
  HBin .add v149_1 (.int .i64 1) fun v150_1 =>
  HCall Try.prog 41 [v20, v150_1, (.int .i64 1), (.slice Option.none 0 0), (.int .i64 0), (.slice Option.none 0 0)] w_27 fun v151_1 w_28 =>
  HNot v151_1 fun v152_1 =>
  HIf v152_1
  (HCall Try.prog 41 [v20, (.int .i64 (-1)), (.int .i64 1), (.slice Option.none 0 0), (.int .i64 0), (.slice Option.none 0 0)] w_28 fun v156_1 w_29 =>
  HNot v156_1 fun v157_1 =>
  R v157_1 w_29)
  (R (.bool false) w_28))
  (R (.bool false) w_27)))
  (R (.bool false) w_24))
  (R (.bool false) w_23))
  (R (.bool false) w_22))
  (R (.bool false) w_21))
  (R (.bool false) w_20)))))))
theorem vc10 (v0 : Value) (v1 : Value) (v2 : Value) (v3 : Value) (w : World) (R : Value → World → Prop) (h : Vc10 v0 v1 v2 v3 w R) : HCall Try.prog 10 [v0, v1, v2, v3] w R :=
  funP_sound (JL := [(12, [16, 17], [3, 9, 10, 11, 13, 14, 15])]) (JC := []) Tcall_ok mixed_ok Try.func10 (by kernel_rfl) (by kernel_rfl)
    (((by kernel_rfl : funP Try.prog Tcall [(12, [16, 17], [3, 9, 10, 11, 13, 14, 15])] [] Try.f10 [v0, v1, v2, v3] w R = Vc10 v0 v1 v2 v3 w R)).mpr h)

-- qanatlaw32.AuditChunks
def Vc11 (v0 : Value) (v1 : Value) (v2 : Value) (v3 : Value) (w : World) (R : Value → World → Prop) : Prop :=
  HCall Try.prog 43 [v0] w fun v13 w_1 =>
  HNot v13 fun v14 =>
  HIf v14
  (HCall Try.prog 35 [] w_1 fun v20 w_2 =>
  R v20 w_2)
  (HLenS v2 fun v17 =>
  HBin .gtr v17 (.int .i64 100) fun v18 =>
  HIf v18
  (HCall Try.prog 35 [] w_1 fun v20_1 w_3 =>
  R v20_1 w_3)
  (HCall Try.prog 39 [v0, (.int .i64 3), (.int .i64 25)] w_1 fun v22 w_4 =>
  HCall Try.prog 27 [v3, (.int .i64 5)] w_4 fun v24 w_5 =>
  HBin .add (.int .i64 1) v24 fun v25 =>
  ∃ I : List Value → World → Prop, (HLenS v22 fun v27 =>
  HBin .gtr v27 (.int .i64 0) fun v28 =>
  HIf v28
  (HLenS v22 fun v31 =>
  HCall Try.prog 36 [v1, v31] w_5 fun v32 w_6 =>
  HCall Try.prog 44 [v22, v32, v25] w_6 fun v36 w_7 =>
  HCall Try.prog 45 [v22, v32, v25] w_7 fun v40 w_8 =>
  HEq .bool true v36 v40 fun v41 =>
  HIf v41
  (R (.bool false) w_8)
  (HCall Try.prog 44 [v22, v32, v3] w_8 fun v46 w_9 =>
  HCall Try.prog 45 [v22, v32, v3] w_9 fun v50 w_10 =>
  HEq .bool true v46 v50 fun v51 =>
  HIf v51
  (R (.bool false) w_10)
  (I [] w_10)))
  (I [] w_5)) ∧
  ∀ w_11, I [] w_11 →
  HCall Try.prog 35 [] w_11 fun v53 w_12 =>
  HIf v53
  (HCall Try.prog 44 [v22, v2, v25] w_12 fun v58 w_13 =>
  HCall Try.prog 45 [v22, v2, v25] w_13 fun v62 w_14 =>
  HEq .bool false v58 v62 fun v63 =>
  HIf v63
  (HCall Try.prog 44 [v22, (.slice Option.none 0 0), (.int .i64 0)] w_14 fun v67 w_15 =>
  HNot v67 fun v68 =>
  R v68 w_15)
  (R (.bool false) w_14))
  (R (.bool false) w_12)))
theorem vc11 (v0 : Value) (v1 : Value) (v2 : Value) (v3 : Value) (w : World) (R : Value → World → Prop) (h : Vc11 v0 v1 v2 v3 w R) : HCall Try.prog 11 [v0, v1, v2, v3] w R :=
  funP_sound (JL := []) (JC := [(9, [], [2, 9, 10])]) Tcall_ok mixed_ok Try.func11 (by kernel_rfl) (by kernel_rfl)
    (((by kernel_rfl : funP Try.prog Tcall [] [(9, [], [2, 9, 10])] Try.f11 [v0, v1, v2, v3] w R = Vc11 v0 v1 v2 v3 w R)).mpr h)

-- qanatlaw32.awake
def Vc35 (w : World) (R : Value → World → Prop) : Prop :=
  HBld [.int .i64 0, .int .i64 0, .bool false, .string ⟨#[]⟩] [(1, 1, (.int .i64 5)), (3, 1, (.string { data := #[97] }))] fun v2 =>
  HBldS (zrow [.int .i64 0, .int .i64 0, .bool false, .string ⟨#[]⟩] 1) [(0, 4, v2)] 99 1 w fun v3 w_1 =>
  HBld [.int .i64 0, .int .i64 0, .slice none 0 0, .slice none 0 0, .int .i64 0] [(0, 1, (.int .i64 1)), (1, 1, (.int .i64 1)), (2, 1, v3)] fun v4 =>
  HBldS (zrow [.int .i64 0, .int .i64 0, .slice none 0 0, .slice none 0 0, .int .i64 0] 1) [(0, 5, v4)] 103 1 w_1 fun v5 w_2 =>
  HCall Try.prog 41 [(.slice Option.none 0 0), (.int .i64 0), (.int .i64 0), (.slice Option.none 0 0), (.int .i64 0), (.slice Option.none 0 0)] w_2 fun v6 w_3 =>
  HIf v6
  (HBld [.int .i64 0, .string ⟨#[]⟩] [(0, 1, (.int .i64 5)), (1, 1, (.string { data := #[97] }))] fun v9 =>
  HBldS (zrow [.int .i64 0, .string ⟨#[]⟩] 1) [(0, 2, v9)] 69 1 w_3 fun v10 w_4 =>
  HCall Try.prog 41 [v5, (.int .i64 1), (.int .i64 0), (.slice Option.none 0 0), (.int .i64 0), v10] w_4 fun v11 w_5 =>
  HIf v11
  (HBld [.int .i64 0, .string ⟨#[]⟩] [(0, 1, (.int .i64 5)), (1, 1, (.string { data := #[97] }))] fun v15 =>
  HBldS (zrow [.int .i64 0, .string ⟨#[]⟩] 1) [(0, 2, v15)] 69 1 w_5 fun v16 w_6 =>
  HCall Try.prog 41 [v5, (.int .i64 0), (.int .i64 0), (.slice Option.none 0 0), (.int .i64 0), v16] w_6 fun v17 w_7 =>
  HNot v17 fun v18 =>
  HIf v18
  (HCall Try.prog 37 [(.int .i64 0), (.slice Option.none 0 0), (.int .i64 0)] w_7 fun v21 w_8 =>
  HBin .eql v21 (.int .i64 2) fun v22 =>
  HIf v22
  (HCall Try.prog 37 [(.int .i64 1), (.slice Option.none 0 0), (.int .i64 0)] w_8 fun v25 w_9 =>
  HBin .eql v25 (.int .i64 0) fun v26 =>
  HIf v26
  (HCall Try.prog 44 [v5, (.slice Option.none 0 0), (.int .i64 1)] w_9 fun v30 w_10 =>
  R v30 w_10)
  (R (.bool false) w_9))
  (R (.bool false) w_8))
  (R (.bool false) w_7))
  (R (.bool false) w_5))
  (R (.bool false) w_3)
theorem vc35 (w : World) (R : Value → World → Prop) (h : Vc35 w R) : HCall Try.prog 35 [] w R :=
  funP_sound (JL := []) (JC := []) Tcall_ok mixed_ok Try.func35 (by kernel_rfl) (by kernel_rfl)
    (((by kernel_rfl : funP Try.prog Tcall [] [] Try.f35 [] w R = Vc35 w R)).mpr h)

-- qanatlaw32.reqs
def Vc36 (v0 : Value) (v1 : Value) (w : World) (R : Value → World → Prop) : Prop :=
  ∃ (I : List Value → World → Prop) (μ : List Value → World → Nat), I [(.slice Option.none 0 0), (.int .i64 1), (.int .i64 0)] w ∧
  ∀ (v5 : Value) (v6 : Value) (v7 : Value) w_1, I [v5, v6, v7] w_1 →
  HLenS v0 fun v17 =>
  HBin .lss v7 v17 fun v18 =>
  HIf v18
  (HBin .lss v7 (.int .i64 8) fun v21 =>
  HIf v21
  (HBin .gtr v1 (.int .i64 0) fun v25 =>
  HIf v25
  (HIdx 6 v0 v7 fun v32 =>
  HFld 2 v32 fun v33 =>
  HLd v33 w_1 fun v34 =>
  HCall Try.prog 27 [v34, (.int .i64 3)] w_1 fun v35 w_2 =>
  HBin .add v6 v35 fun v36 =>
  HMin v36 v1 fun v38 =>
  HDraw w_2 fun w_3 =>
  HIdx 6 v0 v7 fun v43 =>
  HFld 0 v43 fun v44 =>
  HLd v44 w_3 fun v45 =>
  HIdx 6 v0 v7 fun v49 =>
  HFld 1 v49 fun v50 =>
  HLd v50 w_3 fun v51 =>
  HCall Try.prog 27 [v45, (.int .i64 3)] w_3 fun v46 w_4 =>
  HLd v50 w_4 fun v51_1 =>
  v51_1 = v51 ∧
  HCall Try.prog 27 [v51, (.int .i64 8)] w_4 fun v52 w_5 =>
  HBin .add (.int .i64 1) v52 fun v53 =>
  HCall Try.prog 64 [v5, v46, v53, v38] w_5 fun v55 w_6 =>
  HExt 0 v55 fun v56 =>
  HExt 1 v55 fun v57 =>
  HNot v57 fun v59 =>
  HIf v59
  (HBin .add v7 (.int .i64 1) fun v28 =>
  I [v5, v38, v28] w_6 ∧ μ [v5, v38, v28] w_6 < μ [v5, v6, v7] w_1)
  (∃ (I_1 : List Value → World → Prop) (μ_1 : List Value → World → Nat), I_1 [v56, (.int .i64 0)] w_6 ∧
  ∀ (v5_1 : Value) (v10 : Value) w_7, I_1 [v5_1, v10] w_7 →
  HIdx 6 v0 v7 fun v64 =>
  HFld 3 v64 fun v65 =>
  HLd v65 w_7 fun v66 =>
  HCall Try.prog 27 [v66, (.int .i64 4)] w_7 fun v67 w_8 =>
  HBin .lss v10 v67 fun v68 =>
  HIf v68
  (HDraw w_8 fun w_9 =>
  HLenS v5_1 fun v74 =>
  HLenS v5_1 fun v77 =>
  HBin .sub v77 (.int .i64 1) fun v78 =>
  HIdx 7 v5_1 v78 fun v79 =>
  HFld 4 v79 fun v80 =>
  HLd v80 w_9 fun v81 =>
  HIdx 6 v0 v7 fun v84 =>
  HFld 4 v84 fun v85 =>
  HLd v85 w_9 fun v86 =>
  HCall Try.prog 66 [v86, (.int .i64 5)] w_9 fun v87 w_10 =>
  HLd v80 w_10 fun v81_1 =>
  v81_1 = v81 ∧
  HBin .add v81 v87 fun v88 =>
  HCall Try.prog 65 [v5_1, v74, v88, (.bool false)] w_10 fun v89 w_11 =>
  HExt 0 v89 fun v90 =>
  HExt 1 v89 fun v91 =>
  HIf v91
  (HBin .add v10 (.int .i64 1) fun v70 =>
  I_1 [v90, v70] w_11 ∧ μ_1 [v90, v70] w_11 < μ_1 [v5_1, v10] w_7)
  (HBin .add v10 (.int .i64 1) fun v70_1 =>
  I_1 [v5_1, v70_1] w_11 ∧ μ_1 [v5_1, v70_1] w_11 < μ_1 [v5_1, v10] w_7))
  (HIdx 6 v0 v7 fun v96 =>
  HFld 5 v96 fun v97 =>
  HLd v97 w_8 fun v98 =>
  HIf v98
  (HLenS v5_1 fun v102 =>
  HLenS v5_1 fun v105 =>
  HBin .sub v105 (.int .i64 1) fun v106 =>
  HIdx 7 v5_1 v106 fun v107 =>
  HFld 4 v107 fun v108 =>
  HLd v108 w_8 fun v109 =>
  HCall Try.prog 65 [v5_1, v102, v109, (.bool true)] w_8 fun v110 w_12 =>
  HExt 0 v110 fun v111 =>
  HExt 1 v110 fun v112 =>
  HIf v112
  (HBin .add v7 (.int .i64 1) fun v28_1 =>
  I [v111, v38, v28_1] w_12 ∧ μ [v111, v38, v28_1] w_12 < μ [v5, v6, v7] w_1)
  (HBin .add v7 (.int .i64 1) fun v28_2 =>
  I [v5_1, v38, v28_2] w_12 ∧ μ [v5_1, v38, v28_2] w_12 < μ [v5, v6, v7] w_1))
  (HBin .add v7 (.int .i64 1) fun v28_3 =>
  I [v5_1, v38, v28_3] w_8 ∧ μ [v5_1, v38, v28_3] w_8 < μ [v5, v6, v7] w_1))))
  (R v5 w_1))
  (R v5 w_1))
  (R v5 w_1)
theorem vc36 (v0 : Value) (v1 : Value) (w : World) (R : Value → World → Prop) (h : Vc36 v0 v1 w R) : HCall Try.prog 36 [v0, v1] w R :=
  funP_sound (JL := [(4, [5, 6, 7], [0, 1]), (11, [5, 10], [0, 1, 6, 7])]) (JC := []) Tcall_ok mixed_ok Try.func36 (by kernel_rfl) (by kernel_rfl)
    (((by kernel_rfl : funP Try.prog Tcall [(4, [5, 6, 7], [0, 1]), (11, [5, 10], [0, 1, 6, 7])] [] Try.f36 [v0, v1] w R = Vc36 v0 v1 w R)).mpr h)

-- audit.Stands
def Vc37 (v0 : Value) (v1 : Value) (v2 : Value) (w : World) (R : Value → World → Prop) : Prop :=
  HBin .lss v2 (.int .i64 0) fun v11 =>
  HIf v11
  (R (.int .i64 0) w)
  (HBin .geq v2 (.int .i64 8) fun v14 =>
  HIf v14
  (R (.int .i64 0) w)
  (HBin .shr v0 v2 fun v18 =>
  HBin .and v18 (.int .i64 1) fun v19 =>
  HBin .eql v19 (.int .i64 0) fun v20 =>
  HIf v20
  (R (.int .i64 2) w)
  (HLenS v1 fun v22 =>
  ∃ (I : List Value → World → Prop) (μ : List Value → World → Nat), I [(.int .i64 0), (.int .i64 0)] w ∧
  ∀ (v7 : Value) (v23 : Value) w_1, I [v7, v23] w_1 →
  HBin .lss v23 v22 fun v24 =>
  HIf v24
  (HIdx 7 v1 v23 fun v25 =>
  HLdN 7 v25 w_1 fun v26 =>
  HNew [.int .i64 0, .int .i64 0, .int .i64 0, .int .i64 0, .int .i64 0, .int .i64 0, .bool false] 74 w_1 fun v9 w_2 =>
  HStN 7 v9 v26 w_2 fun w_3 =>
  HFld 1 v9 fun v28 =>
  HLd v28 w_3 fun v29 =>
  HBin .neq v29 v2 fun v31 =>
  HIf v31
  (HBin .add v23 (.int .i64 1) fun v35 =>
  I [v7, v35] w_3 ∧ μ [v7, v35] w_3 < μ [v7, v23] w_1)
  (HFld 6 v9 fun v33 =>
  HLd v33 w_3 fun v34 =>
  HIf v34
  (R (.int .i64 2) w_3)
  (HBin .add v23 (.int .i64 1) fun v35_1 =>
  I [(.int .i64 1), v35_1] w_3 ∧ μ [(.int .i64 1), v35_1] w_3 < μ [v7, v23] w_1)))
  (R v7 w_1))))
theorem vc37 (v0 : Value) (v1 : Value) (v2 : Value) (w : World) (R : Value → World → Prop) (h : Vc37 v0 v1 v2 w R) : HCall Try.prog 37 [v0, v1, v2] w R :=
  funP_sound (JL := [(7, [7, 23], [2, 21, 22])]) (JC := []) Tcall_ok mixed_ok Try.func37 (by kernel_rfl) (by kernel_rfl)
    (((by kernel_rfl : funP Try.prog Tcall [(7, [7, 23], [2, 21, 22])] [] Try.f37 [v0, v1, v2] w R = Vc37 v0 v1 v2 w R)).mpr h)

-- qanatref31.Stands
def Vc38 (v0 : Value) (v1 : Value) (v2 : Value) (w : World) (R : Value → World → Prop) : Prop :=
  HBin .lss v2 (.int .i64 0) fun v10 =>
  HIf v10
  (R (.int .i64 0) w)
  (HBin .geq v2 (.int .i64 8) fun v13 =>
  HIf v13
  (R (.int .i64 0) w)
  (∃ (I : List Value → World → Prop) (μ : List Value → World → Nat), I [(.int .i64 0), (.int .i64 0)] w ∧
  ∀ (v7 : Value) (v8 : Value) w_1, I [v7, v8] w_1 →
  HLenS v1 fun v17 =>
  HBin .lss v8 v17 fun v18 =>
  HIf v18
  (HIdx 7 v1 v8 fun v23 =>
  HFld 1 v23 fun v24 =>
  HLd v24 w_1 fun v25 =>
  HBin .eql v25 v2 fun v27 =>
  HIf v27
  (HMax v7 (.int .i64 1) fun v29 =>
  HIdx 7 v1 v8 fun v32 =>
  HFld 6 v32 fun v33 =>
  HLd v33 w_1 fun v34 =>
  HIf v34
  (HBin .add v8 (.int .i64 1) fun v20 =>
  I [(.int .i64 2), v20] w_1 ∧ μ [(.int .i64 2), v20] w_1 < μ [v7, v8] w_1)
  (HBin .add v8 (.int .i64 1) fun v20_1 =>
  I [v29, v20_1] w_1 ∧ μ [v29, v20_1] w_1 < μ [v7, v8] w_1))
  (HBin .add v8 (.int .i64 1) fun v20_2 =>
  I [v7, v20_2] w_1 ∧ μ [v7, v20_2] w_1 < μ [v7, v8] w_1))
  (HCvI .u64 v2 fun v37 =>
  HBin .shr v0 v37 fun v38 =>
  HBin .and v38 (.int .i64 1) fun v39 =>
  HBin .eql v39 (.int .i64 0) fun v40 =>
  HIf v40
  (R (.int .i64 2) w_1)
  (R v7 w_1))))
theorem vc38 (v0 : Value) (v1 : Value) (v2 : Value) (w : World) (R : Value → World → Prop) (h : Vc38 v0 v1 v2 w R) : HCall Try.prog 38 [v0, v1, v2] w R :=
  funP_sound (JL := [(5, [7, 8], [0, 1, 2])]) (JC := []) Tcall_ok mixed_ok Try.func38 (by kernel_rfl) (by kernel_rfl)
    (((by kernel_rfl : funP Try.prog Tcall [(5, [7, 8], [0, 1, 2])] [] Try.f38 [v0, v1, v2] w R = Vc38 v0 v1 v2 w R)).mpr h)

-- qanatplay.Txns
def Vc39 (v0 : Value) (v1 : Value) (v2 : Value) (w : World) (R : Value → World → Prop) : Prop :=
  ∃ (I : List Value → World → Prop) (μ : List Value → World → Nat), I [(.slice Option.none 0 0), (.int .i64 0)] w ∧
  ∀ (v7 : Value) (v8 : Value) w_1, I [v7, v8] w_1 →
  HLenS v0 fun v12 =>
  HBin .lss v8 v12 fun v13 =>
  HIf v13
  (HBin .lss v8 v2 fun v17 =>
  HIf v17
  (HBin .add v8 (.int .i64 1) fun v22 =>
  HBld [.int .i64 0, .int .i64 0, .slice none 0 0, .slice none 0 0, .int .i64 0] [(0, 1, v22), (1, 1, (.int .i64 1))] fun v23 =>
  HNew [.int .i64 0, .int .i64 0, .slice none 0 0, .slice none 0 0, .int .i64 0] 103 w_1 fun v9 w_2 =>
  HStN 5 v9 v23 w_2 fun w_3 =>
  ∃ I_1 : List Value → World → Prop, (HIdx 5 v0 v8 fun v26 =>
  HFld 1 v26 fun v27 =>
  HLd v27 w_3 fun v28 =>
  HCall Try.prog 27 [v28, (.int .i64 9)] w_3 fun v29 w_4 =>
  HBin .eql v29 (.int .i64 8) fun v30 =>
  HIf v30
  (HIdx 5 v0 v8 fun v33 =>
  HFld 1 v33 fun v34 =>
  HLd v34 w_4 fun v35 =>
  HBin .quo v35 (.int .i64 9) fun v36 =>
  HCall Try.prog 27 [v36, (.int .i64 2)] w_4 fun v37 w_5 =>
  HBin .add (.int .i64 2) v37 fun v38 =>
  HFld 1 v9 fun v39 =>
  HSt v39 v38 w_5 fun w_6 =>
  HIdx 5 v0 v8 fun v42 =>
  HFld 4 v42 fun v43 =>
  HLd v43 w_6 fun v44 =>
  HCall Try.prog 66 [v44, (.int .i64 20)] w_6 fun v45 w_7 =>
  HBin .add (.int .i64 1) v45 fun v46 =>
  HFld 4 v9 fun v47 =>
  HSt v47 v46 w_7 fun w_8 =>
  I_1 [] w_8)
  (HIdx 5 v0 v8 fun v50 =>
  HFld 2 v50 fun v51 =>
  HLd v51 w_4 fun v52 =>
  HCall Try.prog 67 [v52, v1, (.int .i64 5)] w_4 fun v54 w_9 =>
  HFld 2 v9 fun v55 =>
  HSt v55 v54 w_9 fun w_10 =>
  HIdx 5 v0 v8 fun v58 =>
  HFld 3 v58 fun v59 =>
  HLd v59 w_10 fun v60 =>
  HCall Try.prog 68 [v60, v1, (.int .i64 2)] w_10 fun v62 w_11 =>
  HFld 3 v9 fun v63 =>
  HSt v63 v62 w_11 fun w_12 =>
  I_1 [] w_12)) ∧
  ∀ w_13, I_1 [] w_13 →
  HLdN 5 v9 w_13 fun v65 =>
  HBldS (zrow [.int .i64 0, .int .i64 0, .slice none 0 0, .slice none 0 0, .int .i64 0] 1) [(0, 5, v65)] 103 1 w_13 fun v66 w_14 =>
  HApp 5 72 [.int .i64 0, .int .i64 0, .slice none 0 0, .slice none 0 0, .int .i64 0] 103 v7 v66 w_14 fun v67 w_15 =>
  HBin .add v8 (.int .i64 1) fun v20 =>
  I [v67, v20] w_15 ∧ μ [v67, v20] w_15 < μ [v7, v8] w_1)
  (R v7 w_1))
  (R v7 w_1)
theorem vc39 (v0 : Value) (v1 : Value) (v2 : Value) (w : World) (R : Value → World → Prop) (h : Vc39 v0 v1 v2 w R) : HCall Try.prog 39 [v0, v1, v2] w R :=
  funP_sound (JL := [(3, [7, 8], [0, 1, 2])]) (JC := [(11, [], [0, 1, 2, 7, 8, 9])]) Tcall_ok mixed_ok Try.func39 (by kernel_rfl) (by kernel_rfl)
    (((by kernel_rfl : funP Try.prog Tcall [(3, [7, 8], [0, 1, 2])] [(11, [], [0, 1, 2, 7, 8, 9])] Try.f39 [v0, v1, v2] w R = Vc39 v0 v1 v2 w R)).mpr h)

-- qanatref07.Fold
def Vc40 (v0 : Value) (v1 : Value) (v2 : Value) (w : World) (R : Value → World → Prop) : Prop :=
  HCall Try.prog 69 [v0] w fun v12 w_1 =>
  HEq (.pointer 117) false v12 (.pointer Option.none) fun v14 =>
  HIf v14
  (R (.slice Option.none 0 0) w_1)
  (∃ (I : List Value → World → Prop) (μ : List Value → World → Nat), I [(.int .i64 0)] w_1 ∧
  ∀ (v8 : Value) w_2, I [v8] w_2 →
  HLenS v1 fun v18 =>
  HCall Try.prog 70 [v2, v18] w_2 fun v19 w_3 =>
  HBin .lss v8 v19 fun v20 =>
  HIf v20
  (∃ (I_1 : List Value → World → Prop) (μ_1 : List Value → World → Nat), I_1 [(.int .i64 0)] w_3 ∧
  ∀ (v9 : Value) w_4, I_1 [v9] w_4 →
  HIdx 5 v1 v8 fun v26 =>
  HFld 2 v26 fun v27 =>
  HLd v27 w_4 fun v28 =>
  HLenS v28 fun v29 =>
  HBin .lss v9 v29 fun v30 =>
  HIf v30
  (HIdx 5 v1 v8 fun v35 =>
  HFld 2 v35 fun v36 =>
  HLd v36 w_4 fun v37 =>
  HIdx 4 v37 v9 fun v39 =>
  HLdN 4 v39 w_4 fun v40 =>
  HNew [.int .i64 0, .int .i64 0, .bool false, .string ⟨#[]⟩] 99 w_4 fun v10 w_5 =>
  HStN 4 v10 v40 w_5 fun w_6 =>
  HFld 0 v10 fun v42 =>
  HLd v42 w_6 fun v43 =>
  HCall Try.prog 71 [v12, v43] w_6 fun v44 w_7 =>
  HIf v44
  (HLdN 4 v10 w_7 fun v46 =>
  HBldS (zrow [.int .i64 0, .int .i64 0, .bool false, .string ⟨#[]⟩] 1) [(0, 4, v46)] 99 1 w_7 fun v47 w_8 =>
  HCall Try.prog 72 [v12, v47] w_8 fun v48 w_9 =>
  HBin .add v9 (.int .i64 1) fun v32 =>
  I_1 [v32] w_9 ∧ μ_1 [v32] w_9 < μ_1 [v9] w_4)
  (HBin .add v9 (.int .i64 1) fun v32_1 =>
  I_1 [v32_1] w_7 ∧ μ_1 [v32_1] w_7 < μ_1 [v9] w_4))
  (HBin .add v8 (.int .i64 1) fun v22 =>
  I [v22] w_4 ∧ μ [v22] w_4 < μ [v8] w_2))
  (HNil v12 fun v50 =>
  HFld 0 v50 fun v51 =>
  HLd v51 w_3 fun v52 =>
  R v52 w_3))
theorem vc40 (v0 : Value) (v1 : Value) (v2 : Value) (w : World) (R : Value → World → Prop) (h : Vc40 v0 v1 v2 w R) : HCall Try.prog 40 [v0, v1, v2] w R :=
  funP_sound (JL := [(5, [8], [1, 2, 7]), (8, [9], [1, 2, 7, 8])]) (JC := []) Tcall_ok mixed_ok Try.func40 (by kernel_rfl) (by kernel_rfl)
    (((by kernel_rfl : funP Try.prog Tcall [(5, [8], [1, 2, 7]), (8, [9], [1, 2, 7, 8])] [] Try.f40 [v0, v1, v2] w R = Vc40 v0 v1 v2 w R)).mpr h)

-- audit.Table
def Vc41 (v0 : Value) (v1 : Value) (v2 : Value) (v3 : Value) (v4 : Value) (v5 : Value) (w : World) (R : Value → World → Prop) : Prop :=
  HBin .lss v1 (.int .i64 0) fun v15 =>
  HIf v15
  (R (.bool false) w)
  (HLenS v0 fun v19 =>
  HBin .gtr v1 v19 fun v20 =>
  HIf v20
  (R (.bool false) w)
  (HBld [.slice none 0 0] [(0, 1, v0)] fun v23 =>
  HBld [.slice none 0 0, .int .i64 0, .int .i64 0, .slice none 0 0] [(0, 1, v23), (1, 1, v1), (2, 1, v4), (3, 1, v5)] fun v27 =>
  HNew [.slice none 0 0, .int .i64 0, .int .i64 0, .slice none 0 0] 121 w fun v13 w_1 =>
  HStN 4 v13 v27 w_1 fun w_2 =>
  HCall Try.prog 37 [v2, v3, v4] w_2 fun v31 w_3 =>
  HBin .eql v31 (.int .i64 2) fun v33 =>
  HIf v33
  (HFld 0 v13 fun v34 =>
  HLdN 1 v34 w_3 fun v35 =>
  HFld 1 v13 fun v36 =>
  HLd v36 w_3 fun v37 =>
  HCall Try.prog 74 [v35, v37, v4] w_3 fun v39 w_4 =>
  HCall Try.prog 73 [v39, v5] w_4 fun v41 w_5 =>
  R v41 w_5)
  (HBin .eql v31 (.int .i64 1) fun v43 =>
  HIf v43
  (HDraw w_3 fun w_6 =>
  HLdN 4 v13 w_6 fun v44 =>
  HCall Try.prog 76 [v3, v4] w_6 fun v47 w_7 =>
  HLdN 4 v13 w_7 fun v44_1 =>
  v44_1 = v44 ∧
  HCall Try.prog 75 [v44, v47] w_7 fun v48 w_8 =>
  R v48 w_8)
  (HLenS v5 fun v50 =>
  HBin .eql v50 (.int .i64 0) fun v51 =>
  R v51 w_3))))
theorem vc41 (v0 : Value) (v1 : Value) (v2 : Value) (v3 : Value) (v4 : Value) (v5 : Value) (w : World) (R : Value → World → Prop) (h : Vc41 v0 v1 v2 v3 v4 v5 w R) : HCall Try.prog 41 [v0, v1, v2, v3, v4, v5] w R :=
  funP_sound (JL := []) (JC := []) Tcall_ok mixed_ok Try.func41 (by kernel_rfl) (by kernel_rfl)
    (((by kernel_rfl : funP Try.prog Tcall [] [] Try.f41 [v0, v1, v2, v3, v4, v5] w R = Vc41 v0 v1 v2 v3 v4 v5 w R)).mpr h)

-- qanatref31.Table
def Vc42 (v0 : Value) (v1 : Value) (v2 : Value) (v3 : Value) (v4 : Value) (v5 : Value) (w : World) (R : Value → World → Prop) : Prop :=
  HBin .lss v1 (.int .i64 0) fun v17 =>
  HIf v17
  (R (.bool false) w)
  (HLenS v0 fun v21 =>
  HBin .gtr v1 v21 fun v22 =>
  HIf v22
  (R (.bool false) w)
  (HCall Try.prog 38 [v2, v3, v4] w fun v27 w_1 =>
  HBin .eql v27 (.int .i64 0) fun v29 =>
  HIf v29
  (HLenS v5 fun v31 =>
  HBin .eql v31 (.int .i64 0) fun v32 =>
  R v32 w_1)
  (HBin .eql v27 (.int .i64 2) fun v34 =>
  HIf v34
  (HCall Try.prog 40 [(.int .i64 8), v0, v1] w_1 fun v38 w_2 =>
  HIdx 1 v38 v4 fun v40 =>
  HLd v40 w_2 fun v41 =>
  HCall Try.prog 77 [v5, v41] w_2 fun v42 w_3 =>
  R v42 w_3)
  (∃ (I : List Value → World → Prop) (μ : List Value → World → Nat), I [(.int .i64 0), (.int .i64 0)] w_1 ∧
  ∀ (v13 : Value) (v14 : Value) w_4, I [v13, v14] w_4 →
  HLenS v3 fun v45 =>
  HBin .lss v14 v45 fun v46 =>
  HIf v46
  (HIdx 7 v3 v14 fun v51 =>
  HFld 1 v51 fun v52 =>
  HLd v52 w_4 fun v53 =>
  HBin .eql v53 v4 fun v55 =>
  HIf v55
  (HIdx 7 v3 v14 fun v58 =>
  HFld 3 v58 fun v59 =>
  HLd v59 w_4 fun v60 =>
  HBin .add v14 (.int .i64 1) fun v48 =>
  I [v60, v48] w_4 ∧ μ [v60, v48] w_4 < μ [v13, v14] w_4)
  (HBin .add v14 (.int .i64 1) fun v48_1 =>
  I [v13, v48_1] w_4 ∧ μ [v13, v48_1] w_4 < μ [v13, v14] w_4))
  (∃ (I_1 : List Value → World → Prop) (μ_1 : List Value → World → Nat), I_1 [(.int .i64 0)] w_4 ∧
  ∀ (v15 : Value) w_5, I_1 [v15] w_5 →
  HLenS v5 fun v63 =>
  HBin .lss v15 v63 fun v64 =>
  HIf v64
  (HDraw w_5 fun w_6 =>
  HBin .gtr v15 (.int .i64 0) fun v68 =>
  HIf v68
  (HIdx 2 v5 v15 fun v72 =>
  HFld 0 v72 fun v73 =>
  HLd v73 w_6 fun v74 =>
  HBin .sub v15 (.int .i64 1) fun v77 =>
  HIdx 2 v5 v77 fun v78 =>
  HFld 0 v78 fun v79 =>
  HLd v79 w_6 fun v80 =>
  HBin .leq v74 v80 fun v81 =>
  HIf v81
  (R (.bool false) w_6)
  (HIdx 2 v5 v15 fun v90 =>
  HLdN 2 v90 w_6 fun v91 =>
  HCall Try.prog 78 [v0, v13, v1, v4, v91] w_6 fun v92 w_7 =>
  HNot v92 fun v93 =>
  HIf v93
  (R (.bool false) w_7)
  (HBin .add v15 (.int .i64 1) fun v66 =>
  I_1 [v66] w_7 ∧ μ_1 [v66] w_7 < μ_1 [v15] w_5)))
  (HIdx 2 v5 v15 fun v90_1 =>
  HLdN 2 v90_1 w_6 fun v91_1 =>
  HCall Try.prog 78 [v0, v13, v1, v4, v91_1] w_6 fun v92_1 w_8 =>
  HNot v92_1 fun v93_1 =>
  HIf v93_1
  (R (.bool false) w_8)
  (HBin .add v15 (.int .i64 1) fun v66_1 =>
  I_1 [v66_1] w_8 ∧ μ_1 [v66_1] w_8 < μ_1 [v15] w_5)))
  (R (.bool true) w_5))))))
theorem vc42 (v0 : Value) (v1 : Value) (v2 : Value) (v3 : Value) (v4 : Value) (v5 : Value) (w : World) (R : Value → World → Prop) (h : Vc42 v0 v1 v2 v3 v4 v5 w R) : HCall Try.prog 42 [v0, v1, v2, v3, v4, v5] w R :=
  funP_sound (JL := [(10, [13, 14], [0, 1, 3, 4, 5]), (15, [15], [0, 1, 4, 5, 13])]) (JC := []) Tcall_ok mixed_ok Try.func42 (by kernel_rfl) (by kernel_rfl)
    (((by kernel_rfl : funP Try.prog Tcall [(10, [13, 14], [0, 1, 3, 4, 5]), (15, [15], [0, 1, 4, 5, 13])] [] Try.f42 [v0, v1, v2, v3, v4, v5] w R = Vc42 v0 v1 v2 v3 v4 v5 w R)).mpr h)

-- qanatlaw32.few
def Vc43 (v0 : Value) (w : World) (R : Value → World → Prop) : Prop :=
  HLenS v0 fun v6 =>
  ∃ (I : List Value → World → Prop) (μ : List Value → World → Nat), I [v6, (.int .i64 0)] w ∧
  ∀ (v3 : Value) (v4 : Value) w_1, I [v3, v4] w_1 →
  HLenS v0 fun v9 =>
  HBin .lss v4 v9 fun v10 =>
  HIf v10
  (HBin .lss v3 (.int .i64 300) fun v13 =>
  HIf v13
  (HIdx 5 v0 v4 fun v20 =>
  HFld 2 v20 fun v21 =>
  HLd v21 w_1 fun v22 =>
  HLenS v22 fun v23 =>
  HBin .add v3 v23 fun v24 =>
  HBin .add v4 (.int .i64 1) fun v16 =>
  I [v24, v16] w_1 ∧ μ [v24, v16] w_1 < μ [v3, v4] w_1)
  (HBin .lss v3 (.int .i64 300) fun v26 =>
  R v26 w_1))
  (HBin .lss v3 (.int .i64 300) fun v26_1 =>
  R v26_1 w_1)
theorem vc43 (v0 : Value) (w : World) (R : Value → World → Prop) (h : Vc43 v0 w R) : HCall Try.prog 43 [v0] w R :=
  funP_sound (JL := [(3, [3, 4], [0])]) (JC := []) Tcall_ok mixed_ok Try.func43 (by kernel_rfl) (by kernel_rfl)
    (((by kernel_rfl : funP Try.prog Tcall [(3, [3, 4], [0])] [] Try.f43 [v0] w R = Vc43 v0 w R)).mpr h)

-- audit.Chunks
def Vc44 (v0 : Value) (v1 : Value) (v2 : Value) (w : World) (R : Value → World → Prop) : Prop :=
  HBin .lss v2 (.int .i64 1) fun v12 =>
  HIf v12
  (R (.bool false) w)
  (HCall Try.prog 79 [v1] w fun v15 w_1 =>
  HNot v15 fun v16 =>
  HIf v16
  (R (.bool false) w_1)
  (HBld [.slice none 0 0] [(0, 1, v0)] fun v19 =>
  HNew [.slice none 0 0] 119 w_1 fun v7 w_2 =>
  HStN 1 v7 v19 w_2 fun w_3 =>
  HLenS v1 fun v21 =>
  ∃ (I : List Value → World → Prop) (μ : List Value → World → Nat), I [(.int .i64 0)] w_3 ∧
  ∀ (v22 : Value) w_4, I [v22] w_4 →
  HBin .lss v22 v21 fun v23 =>
  HIf v23
  (HIdx 7 v1 v22 fun v24 =>
  HLdN 7 v24 w_4 fun v25 =>
  HNew [.int .i64 0, .int .i64 0, .int .i64 0, .int .i64 0, .int .i64 0, .int .i64 0, .bool false] 74 w_4 fun v9 w_5 =>
  HStN 7 v9 v25 w_5 fun w_6 =>
  HFld 3 v9 fun v26 =>
  HLd v26 w_6 fun v27 =>
  HLenS v0 fun v29 =>
  HBin .gtr v27 v29 fun v30 =>
  HIf v30
  (R (.bool false) w_6)
  (HDraw w_6 fun w_7 =>
  HLdN 1 v7 w_7 fun v31 =>
  HFld 3 v9 fun v32 =>
  HLd v32 w_7 fun v33 =>
  HBin .sub v33 (.int .i64 1) fun v34 =>
  HFld 1 v9 fun v35 =>
  HLd v35 w_7 fun v36 =>
  HLdN 1 v7 w_7 fun v39 =>
  HFld 3 v9 fun v40 =>
  HLd v40 w_7 fun v41 =>
  HFld 1 v9 fun v42 =>
  HLd v42 w_7 fun v43 =>
  HCall Try.prog 74 [v31, v34, v36] w_7 fun v37 w_8 =>
  HLdN 1 v7 w_8 fun v39_1 =>
  v39_1 = v39 ∧
  HLd v40 w_8 fun v41_1 =>
  v41_1 = v41 ∧
  HLd v42 w_8 fun v43_1 =>
  v43_1 = v43 ∧
  HLenS v37 fun v38 =>
  HCall Try.prog 80 [v39, v41, v43] w_8 fun v44 w_9 =>
  HBin .add v38 v44 fun v45 =>
  HDraw w_9 fun w_10 =>
  HFld 5 v9 fun v46 =>
  HLd v46 w_10 fun v47 =>
  HBin .quo v45 v2 fun v50 =>
  HBin .add v50 (.int .i64 1) fun v51 =>
  HBin .gtr v47 v51 fun v52 =>
  HIf v52
  (R (.bool false) w_10)
  (HBin .add v22 (.int .i64 1) fun v53 =>
  I [v53] w_10 ∧ μ [v53] w_10 < μ [v22] w_4)))
  (R (.bool true) w_4)))
theorem vc44 (v0 : Value) (v1 : Value) (v2 : Value) (w : World) (R : Value → World → Prop) (h : Vc44 v0 v1 v2 w R) : HCall Try.prog 44 [v0, v1, v2] w R :=
  funP_sound (JL := [(5, [22], [0, 2, 7, 20, 21])]) (JC := []) Tcall_ok mixed_ok Try.func44 (by kernel_rfl) (by kernel_rfl)
    (((by kernel_rfl : funP Try.prog Tcall [(5, [22], [0, 2, 7, 20, 21])] [] Try.f44 [v0, v1, v2] w R = Vc44 v0 v1 v2 w R)).mpr h)

-- qanatref31.Chunks
def Vc45 (v0 : Value) (v1 : Value) (v2 : Value) (w : World) (R : Value → World → Prop) : Prop :=
  HBin .lss v2 (.int .i64 1) fun v14 =>
  HIf v14
  (R (.bool false) w)
  (HCall Try.prog 81 [v1] w fun v17 w_1 =>
  HNot v17 fun v18 =>
  HIf v18
  (R (.bool false) w_1)
  (∃ (I : List Value → World → Prop) (μ : List Value → World → Nat), I [(.int .i64 0)] w_1 ∧
  ∀ (v7 : Value) w_2, I [v7] w_2 →
  HLenS v1 fun v22 =>
  HBin .lss v7 v22 fun v23 =>
  HIf v23
  (HIdx 7 v1 v7 fun v28 =>
  HLdN 7 v28 w_2 fun v29 =>
  HNew [.int .i64 0, .int .i64 0, .int .i64 0, .int .i64 0, .int .i64 0, .int .i64 0, .bool false] 74 w_2 fun v8 w_3 =>
  HStN 7 v8 v29 w_3 fun w_4 =>
  HFld 3 v8 fun v30 =>
  HLd v30 w_4 fun v31 =>
  HLenS v0 fun v33 =>
  HBin .gtr v31 v33 fun v34 =>
  HIf v34
  (R (.bool false) w_4)
  (HDraw w_4 fun w_5 =>
  HFld 3 v8 fun v36 =>
  HLd v36 w_5 fun v37 =>
  HBin .sub v37 (.int .i64 1) fun v38 =>
  HFld 1 v8 fun v40 =>
  HLd v40 w_5 fun v41 =>
  HCall Try.prog 40 [(.int .i64 8), v0, v38] w_5 fun v39 w_6 =>
  HLd v40 w_6 fun v41_1 =>
  v41_1 = v41 ∧
  HIdx 1 v39 v41 fun v42 =>
  HLd v42 w_6 fun v43 =>
  HLenS v43 fun v44 =>
  HFld 3 v8 fun v45 =>
  HLd v45 w_6 fun v46 =>
  HBin .sub v46 (.int .i64 1) fun v47 =>
  ∃ (I_1 : List Value → World → Prop) (μ_1 : List Value → World → Nat), I_1 [v44, v47] w_6 ∧
  ∀ (v9 : Value) (v10 : Value) w_7, I_1 [v9, v10] w_7 →
  HLenS v0 fun v50 =>
  HBin .lss v10 v50 fun v51 =>
  HIf v51
  (∃ (I_2 : List Value → World → Prop) (μ_2 : List Value → World → Nat), I_2 [v9, (.int .i64 0)] w_7 ∧
  ∀ (v9_1 : Value) (v11 : Value) w_8, I_2 [v9_1, v11] w_8 →
  HIdx 5 v0 v10 fun v57 =>
  HFld 2 v57 fun v58 =>
  HLd v58 w_8 fun v59 =>
  HLenS v59 fun v60 =>
  HBin .lss v11 v60 fun v61 =>
  HIf v61
  (HIdx 5 v0 v10 fun v66 =>
  HFld 2 v66 fun v67 =>
  HLd v67 w_8 fun v68 =>
  HIdx 4 v68 v11 fun v70 =>
  HLdN 4 v70 w_8 fun v71 =>
  HNew [.int .i64 0, .int .i64 0, .bool false, .string ⟨#[]⟩] 99 w_8 fun v12 w_9 =>
  HStN 4 v12 v71 w_9 fun w_10 =>
  HFld 0 v12 fun v72 =>
  HLd v72 w_10 fun v73 =>
  HFld 1 v8 fun v74 =>
  HLd v74 w_10 fun v75 =>
  HBin .eql v73 v75 fun v76 =>
  HIf v76
  (HFld 2 v12 fun v78 =>
  HLd v78 w_10 fun v79 =>
  HNot v79 fun v80 =>
  HIf v80
  (HBin .add v9_1 (.int .i64 1) fun v83 =>
  HBin .add v11 (.int .i64 1) fun v63 =>
  I_2 [v83, v63] w_10 ∧ μ_2 [v83, v63] w_10 < μ_2 [v9_1, v11] w_8)
  (HBin .add v11 (.int .i64 1) fun v63_1 =>
  I_2 [v9_1, v63_1] w_10 ∧ μ_2 [v9_1, v63_1] w_10 < μ_2 [v9_1, v11] w_8))
  (HBin .add v11 (.int .i64 1) fun v63_2 =>
  I_2 [v9_1, v63_2] w_10 ∧ μ_2 [v9_1, v63_2] w_10 < μ_2 [v9_1, v11] w_8))
  (HBin .add v10 (.int .i64 1) fun v53 =>
  I_1 [v9_1, v53] w_8 ∧ μ_1 [v9_1, v53] w_8 < μ_1 [v9, v10] w_7))
  (HDraw w_7 fun w_11 =>
  HFld 5 v8 fun v84 =>
  HLd v84 w_11 fun v85 =>
  HBin .quo v9 v2 fun v88 =>
  HBin .add v88 (.int .i64 1) fun v89 =>
  HBin .gtr v85 v89 fun v90 =>
  HIf v90
  (R (.bool false) w_11)
  (HBin .add v7 (.int .i64 1) fun v25 =>
  I [v25] w_11 ∧ μ [v25] w_11 < μ [v7] w_2))))
  (R (.bool true) w_2)))
theorem vc45 (v0 : Value) (v1 : Value) (v2 : Value) (w : World) (R : Value → World → Prop) (h : Vc45 v0 v1 v2 w R) : HCall Try.prog 45 [v0, v1, v2] w R :=
  funP_sound (JL := [(4, [7], [0, 1, 2]), (11, [9, 10], [0, 1, 2, 7, 8]), (14, [9, 11], [0, 1, 2, 7, 8, 10])]) (JC := []) Tcall_ok mixed_ok Try.func45 (by kernel_rfl) (by kernel_rfl)
    (((by kernel_rfl : funP Try.prog Tcall [(4, [7], [0, 1, 2]), (11, [9, 10], [0, 1, 2, 7, 8]), (14, [9, 11], [0, 1, 2, 7, 8, 10])] [] Try.f45 [v0, v1, v2] w R = Vc45 v0 v1 v2 w R)).mpr h)

-- qanatref13.Accept
def Vc64 (v0 : Value) (v1 : Value) (v2 : Value) (v3 : Value) (w : World) (R : Value → World → Prop) : Prop :=
  HBldS (zrow [.int .i64 0, .int .i64 0, .int .i64 0, .int .i64 0, .int .i64 0, .int .i64 0, .bool false] 0) [] 74 0 w fun v11 w_1 =>
  HApp 7 56 [.int .i64 0, .int .i64 0, .int .i64 0, .int .i64 0, .int .i64 0, .int .i64 0, .bool false] 74 v11 v0 w_1 fun v13 w_2 =>
  HLenS v0 fun v16 =>
  HBin .add v16 (.int .i64 1) fun v17 =>
  HBld [.int .i64 0, .int .i64 0, .int .i64 0, .int .i64 0, .int .i64 0, .int .i64 0, .bool false] [(0, 1, v17), (1, 1, v1), (2, 1, v2), (3, 1, v3)] fun v21 =>
  HBldS (zrow [.int .i64 0, .int .i64 0, .int .i64 0, .int .i64 0, .int .i64 0, .int .i64 0, .bool false] 1) [(0, 7, v21)] 74 1 w_2 fun v22 w_3 =>
  HApp 7 56 [.int .i64 0, .int .i64 0, .int .i64 0, .int .i64 0, .int .i64 0, .int .i64 0, .bool false] 74 v13 v22 w_3 fun v23 w_4 =>
  HCall Try.prog 81 [v0] w_4 fun v25 w_5 =>
  HNot v25 fun v26 =>
  HIf v26
  (R (.tuple #[(.slice Option.none 0 0), (.bool false)]) w_5)
  (HCall Try.prog 81 [v23] w_5 fun v29 w_6 =>
  HNot v29 fun v30 =>
  HIf v30
  (R (.tuple #[(.slice Option.none 0 0), (.bool false)]) w_6)
  (R (.tuple #[v23, (.bool true)]) w_6))
theorem vc64 (v0 : Value) (v1 : Value) (v2 : Value) (v3 : Value) (w : World) (R : Value → World → Prop) (h : Vc64 v0 v1 v2 v3 w R) : HCall Try.prog 64 [v0, v1, v2, v3] w R :=
  funP_sound (JL := []) (JC := []) Tcall_ok mixed_ok Try.func64 (by kernel_rfl) (by kernel_rfl)
    (((by kernel_rfl : funP Try.prog Tcall [] [] Try.f64 [v0, v1, v2, v3] w R = Vc64 v0 v1 v2 v3 w R)).mpr h)

-- qanatref13.Chunk
def Vc65 (v0 : Value) (v1 : Value) (v2 : Value) (v3 : Value) (w : World) (R : Value → World → Prop) : Prop :=
  HCall Try.prog 81 [v0] w fun v13 w_1 =>
  HNot v13 fun v14 =>
  HIf v14
  (R (.tuple #[(.slice Option.none 0 0), (.bool false)]) w_1)
  (HBin .lss v1 (.int .i64 1) fun v17 =>
  HIf v17
  (R (.tuple #[(.slice Option.none 0 0), (.bool false)]) w_1)
  (HLenS v0 fun v22 =>
  HBin .gtr v1 v22 fun v23 =>
  HIf v23
  (R (.tuple #[(.slice Option.none 0 0), (.bool false)]) w_1)
  (HBin .sub v1 (.int .i64 1) fun v27 =>
  HIdx 7 v0 v27 fun v28 =>
  HLdN 7 v28 w_1 fun v29 =>
  HNew [.int .i64 0, .int .i64 0, .int .i64 0, .int .i64 0, .int .i64 0, .int .i64 0, .bool false] 74 w_1 fun v10 w_2 =>
  HStN 7 v10 v29 w_2 fun w_3 =>
  HFld 6 v10 fun v30 =>
  HLd v30 w_3 fun v31 =>
  HIf v31
  (R (.tuple #[(.slice Option.none 0 0), (.bool false)]) w_3)
  (HFld 4 v10 fun v34 =>
  HLd v34 w_3 fun v35 =>
  HBin .lss v2 v35 fun v36 =>
  HIf v36
  (R (.tuple #[(.slice Option.none 0 0), (.bool false)]) w_3)
  (HBin .gtr v2 (.int .i64 1099511627776) fun v40 =>
  HIf v40
  (R (.tuple #[(.slice Option.none 0 0), (.bool false)]) w_3)
  (HFld 5 v10 fun v43 =>
  HLd v43 w_3 fun v44 =>
  HBin .eql v44 (.int .i64 1099511627776) fun v45 =>
  HIf v45
  (R (.tuple #[(.slice Option.none 0 0), (.bool false)]) w_3)
  (HBldS (zrow [.int .i64 0, .int .i64 0, .int .i64 0, .int .i64 0, .int .i64 0, .int .i64 0, .bool false] 0) [] 74 0 w_3 fun v47 w_4 =>
  HApp 7 56 [.int .i64 0, .int .i64 0, .int .i64 0, .int .i64 0, .int .i64 0, .int .i64 0, .bool false] 74 v47 v0 w_4 fun v49 w_5 =>
  HFld 4 v10 fun v51 =>
  HSt v51 v2 w_5 fun w_6 =>
  HFld 5 v10 fun v52 =>
  HLd v52 w_6 fun v53 =>
  HBin .add v53 (.int .i64 1) fun v54 =>
  HFld 5 v10 fun v55 =>
  HSt v55 v54 w_6 fun w_7 =>
  HFld 6 v10 fun v57 =>
  HSt v57 v3 w_7 fun w_8 =>
  HBin .sub v1 (.int .i64 1) fun v60 =>
  HLdN 7 v10 w_8 fun v61 =>
  HIdx 7 v49 v60 fun v62 =>
  HStN 7 v62 v61 w_8 fun w_9 =>
  R (.tuple #[v49, (.bool true)]) w_9)))))))
theorem vc65 (v0 : Value) (v1 : Value) (v2 : Value) (v3 : Value) (w : World) (R : Value → World → Prop) (h : Vc65 v0 v1 v2 v3 w R) : HCall Try.prog 65 [v0, v1, v2, v3] w R :=
  funP_sound (JL := []) (JC := []) Tcall_ok mixed_ok Try.func65 (by kernel_rfl) (by kernel_rfl)
    (((by kernel_rfl : funP Try.prog Tcall [] [] Try.f65 [v0, v1, v2, v3] w R = Vc65 v0 v1 v2 v3 w R)).mpr h)

-- qanatplay.Changes
def Vc67 (v0 : Value) (v1 : Value) (v2 : Value) (w : World) (R : Value → World → Prop) : Prop :=
  ∃ (I : List Value → World → Prop) (μ : List Value → World → Nat), I [(.slice Option.none 0 0), (.int .i64 0)] w ∧
  ∀ (v7 : Value) (v8 : Value) w_1, I [v7, v8] w_1 →
  HLenS v0 fun v11 =>
  HBin .lss v8 v11 fun v12 =>
  HIf v12
  (HBin .lss v8 v2 fun v16 =>
  HIf v16
  (HIdx 4 v0 v8 fun v23 =>
  HLdN 4 v23 w_1 fun v24 =>
  HCall Try.prog 91 [v24, v1] w_1 fun v26 w_2 =>
  HBldS (zrow [.int .i64 0, .int .i64 0, .bool false, .string ⟨#[]⟩] 1) [(0, 4, v26)] 99 1 w_2 fun v27 w_3 =>
  HApp 4 40 [.int .i64 0, .int .i64 0, .bool false, .string ⟨#[]⟩] 99 v7 v27 w_3 fun v28 w_4 =>
  HBin .add v8 (.int .i64 1) fun v19 =>
  I [v28, v19] w_4 ∧ μ [v28, v19] w_4 < μ [v7, v8] w_1)
  (R v7 w_1))
  (R v7 w_1)
theorem vc67 (v0 : Value) (v1 : Value) (v2 : Value) (w : World) (R : Value → World → Prop) (h : Vc67 v0 v1 v2 w R) : HCall Try.prog 67 [v0, v1, v2] w R :=
  funP_sound (JL := [(3, [7, 8], [0, 1, 2])]) (JC := []) Tcall_ok mixed_ok Try.func67 (by kernel_rfl) (by kernel_rfl)
    (((by kernel_rfl : funP Try.prog Tcall [(3, [7, 8], [0, 1, 2])] [] Try.f67 [v0, v1, v2] w R = Vc67 v0 v1 v2 w R)).mpr h)

-- qanatplay.Signals
def Vc68 (v0 : Value) (v1 : Value) (v2 : Value) (w : World) (R : Value → World → Prop) : Prop :=
  ∃ (I : List Value → World → Prop) (μ : List Value → World → Nat), I [(.slice Option.none 0 0), (.int .i64 0)] w ∧
  ∀ (v7 : Value) (v8 : Value) w_1, I [v7, v8] w_1 →
  HLenS v0 fun v11 =>
  HBin .lss v8 v11 fun v12 =>
  HIf v12
  (HBin .lss v8 v2 fun v16 =>
  HIf v16
  (HIdx 1 v0 v8 fun v23 =>
  HLd v23 w_1 fun v24 =>
  HCall Try.prog 92 [v24, v1] w_1 fun v26 w_2 =>
  HBldS (zrow [.string ⟨#[]⟩] 1) [(0, 1, v26)] 9 1 w_2 fun v27 w_3 =>
  HApp 1 16 [.string ⟨#[]⟩] 9 v7 v27 w_3 fun v28 w_4 =>
  HBin .add v8 (.int .i64 1) fun v19 =>
  I [v28, v19] w_4 ∧ μ [v28, v19] w_4 < μ [v7, v8] w_1)
  (R v7 w_1))
  (R v7 w_1)
theorem vc68 (v0 : Value) (v1 : Value) (v2 : Value) (w : World) (R : Value → World → Prop) (h : Vc68 v0 v1 v2 w R) : HCall Try.prog 68 [v0, v1, v2] w R :=
  funP_sound (JL := [(3, [7, 8], [0, 1, 2])]) (JC := []) Tcall_ok mixed_ok Try.func68 (by kernel_rfl) (by kernel_rfl)
    (((by kernel_rfl : funP Try.prog Tcall [(3, [7, 8], [0, 1, 2])] [] Try.f68 [v0, v1, v2] w R = Vc68 v0 v1 v2 w R)).mpr h)

-- qanatref07.NewSet
def Vc69 (v0 : Value) (w : World) (R : Value → World → Prop) : Prop :=
  HBin .lss v0 (.int .i64 1) fun v4 =>
  HIf v4
  (R (.pointer Option.none) w)
  (HBin .gtr v0 (.int .i64 8) fun v7 =>
  HIf v7
  (R (.pointer Option.none) w)
  (HMk [.slice none 0 0] 24 64 v0 v0 w fun v10 w_1 =>
  HBld [.slice none 0 0] [(0, 1, v10)] fun v11 =>
  ∃ cs : List Value, v11 = .agg cs.toArray ∧ HNew cs 117 w_1 fun v12 w_2 =>
  R v12 w_2))
theorem vc69 (v0 : Value) (w : World) (R : Value → World → Prop) (h : Vc69 v0 w R) : HCall Try.prog 69 [v0] w R :=
  funP_sound (JL := []) (JC := []) Tcall_ok mixed_ok Try.func69 (by kernel_rfl) (by kernel_rfl)
    (((by kernel_rfl : funP Try.prog Tcall [] [] Try.f69 [v0] w R = Vc69 v0 w R)).mpr h)

-- qanatref07.Held
def Vc70 (v0 : Value) (v1 : Value) (w : World) (R : Value → World → Prop) : Prop :=
  HMin v0 v1 fun v7 =>
  HMax (.int .i64 0) v7 fun v8 =>
  R v8 w
theorem vc70 (v0 : Value) (v1 : Value) (w : World) (R : Value → World → Prop) (h : Vc70 v0 v1 w R) : HCall Try.prog 70 [v0, v1] w R :=
  funP_sound (JL := []) (JC := []) Tcall_ok mixed_ok Try.func70 (by kernel_rfl) (by kernel_rfl)
    (((by kernel_rfl : funP Try.prog Tcall [] [] Try.f70 [v0, v1] w R = Vc70 v0 v1 w R)).mpr h)

-- qanatref07.Set.Is
def Vc71 (v0 : Value) (v1 : Value) (w : World) (R : Value → World → Prop) : Prop :=
  HBin .geq v1 (.int .i64 0) fun v6 =>
  HIf v6
  (HNil v0 fun v10 =>
  HFld 0 v10 fun v11 =>
  HLd v11 w fun v12 =>
  HLenS v12 fun v13 =>
  HBin .lss v1 v13 fun v14 =>
  R v14 w)
  (R (.bool false) w)
theorem vc71 (v0 : Value) (v1 : Value) (w : World) (R : Value → World → Prop) (h : Vc71 v0 v1 w R) : HCall Try.prog 71 [v0, v1] w R :=
  funP_sound (JL := []) (JC := []) Tcall_ok mixed_ok Try.func71 (by kernel_rfl) (by kernel_rfl)
    (((by kernel_rfl : funP Try.prog Tcall [] [] Try.f71 [v0, v1] w R = Vc71 v0 v1 w R)).mpr h)

-- qanatref07.Set.Apply
def Vc72 (v0 : Value) (v1 : Value) (w : World) (R : Value → World → Prop) : Prop :=
  ∃ (I : List Value → World → Prop) (μ : List Value → World → Nat), I [(.int .i64 0)] w ∧
  ∀ (v5 : Value) w_1, I [v5] w_1 →
  HLenS v1 fun v10 =>
  HBin .lss v5 v10 fun v11 =>
  HIf v11
  (HIdx 4 v1 v5 fun v17 =>
  HFld 0 v17 fun v18 =>
  HLd v18 w_1 fun v19 =>
  HCall Try.prog 71 [v0, v19] w_1 fun v20 w_2 =>
  HNot v20 fun v21 =>
  HIf v21
  (R (.bool false) w_2)
  (HBin .add v5 (.int .i64 1) fun v13 =>
  I [v13] w_2 ∧ μ [v13] w_2 < μ [v5] w_1))
  (∃ (I_1 : List Value → World → Prop) (μ_1 : List Value → World → Nat), I_1 [(.int .i64 0)] w_1 ∧
  ∀ (v6 : Value) w_3, I_1 [v6] w_3 →
  HLenS v1 fun v24 =>
  HBin .lss v6 v24 fun v25 =>
  HIf v25
  (HIdx 4 v1 v6 fun v30 =>
  HFld 0 v30 fun v31 =>
  HLd v31 w_3 fun v32 =>
  HIdx 4 v1 v6 fun v35 =>
  HFld 2 v35 fun v36 =>
  HLd v36 w_3 fun v37 =>
  HIf v37
  (HDraw w_3 fun w_4 =>
  HNil v0 fun v40 =>
  HFld 0 v40 fun v41 =>
  HLd v41 w_4 fun v42 =>
  HNil v0 fun v45 =>
  HFld 0 v45 fun v46 =>
  HLd v46 w_4 fun v47 =>
  HIdx 1 v47 v32 fun v49 =>
  HLd v49 w_4 fun v50 =>
  HIdx 4 v1 v6 fun v53 =>
  HFld 1 v53 fun v54 =>
  HLd v54 w_4 fun v55 =>
  HCall Try.prog 93 [v50, v55] w_4 fun v56 w_5 =>
  HLd v41 w_5 fun v42_1 =>
  v42_1 = v42 ∧
  HExt 0 v56 fun v57 =>
  HExt 1 v56 fun v58 =>
  HIdx 1 v42 v32 fun v59 =>
  HSt v59 v57 w_5 fun w_6 =>
  HBin .add v6 (.int .i64 1) fun v27 =>
  I_1 [v27] w_6 ∧ μ_1 [v27] w_6 < μ_1 [v6] w_3)
  (HDraw w_3 fun w_7 =>
  HNil v0 fun v62 =>
  HFld 0 v62 fun v63 =>
  HLd v63 w_7 fun v64 =>
  HNil v0 fun v67 =>
  HFld 0 v67 fun v68 =>
  HLd v68 w_7 fun v69 =>
  HIdx 1 v69 v32 fun v71 =>
  HLd v71 w_7 fun v72 =>
  HIdx 4 v1 v6 fun v75 =>
  HFld 1 v75 fun v76 =>
  HLd v76 w_7 fun v77 =>
  HIdx 4 v1 v6 fun v80 =>
  HFld 3 v80 fun v81 =>
  HLd v81 w_7 fun v82 =>
  HCall Try.prog 94 [v72, v77, v82] w_7 fun v83 w_8 =>
  HLd v63 w_8 fun v64_1 =>
  v64_1 = v64 ∧
  HExt 0 v83 fun v84 =>
  HExt 1 v83 fun v85 =>
  HIdx 1 v64 v32 fun v86 =>
  HSt v86 v84 w_8 fun w_9 =>
  HBin .add v6 (.int .i64 1) fun v27_1 =>
  I_1 [v27_1] w_9 ∧ μ_1 [v27_1] w_9 < μ_1 [v6] w_3))
  (R (.bool true) w_3))
theorem vc72 (v0 : Value) (v1 : Value) (w : World) (R : Value → World → Prop) (h : Vc72 v0 v1 w R) : HCall Try.prog 72 [v0, v1] w R :=
  funP_sound (JL := [(2, [5], [0, 1]), (7, [6], [0, 1])]) (JC := []) Tcall_ok mixed_ok Try.func72 (by kernel_rfl) (by kernel_rfl)
    (((by kernel_rfl : funP Try.prog Tcall [(2, [5], [0, 1]), (7, [6], [0, 1])] [] Try.f72 [v0, v1] w R = Vc72 v0 v1 w R)).mpr h)

-- slices.Equal[[]api.Row,api.Row]
def Vc73 (v0 : Value) (v1 : Value) (w : World) (R : Value → World → Prop) : Prop :=
  HLenS v0 fun v7 =>
  HLenS v1 fun v9 =>
  HBin .neq v7 v9 fun v10 =>
  HIf v10
  (R (.bool false) w)
  (HLenS v0 fun v12 =>
  ∃ (I : List Value → World → Prop) (μ : List Value → World → Nat), I [(.int .i64 0)] w ∧
  ∀ (v13 : Value) w_1, I [v13] w_1 →
  HBin .lss v13 v12 fun v14 =>
  HIf v14
  (HDraw w_1 fun w_2 =>
  HIdx 2 v0 v13 fun v18 =>
  HLdN 2 v18 w_2 fun v19 =>
  HIdx 2 v1 v13 fun v22 =>
  HLdN 2 v22 w_2 fun v23 =>
  HEqG Try.prog 69 true v19 v23 w_2 fun v24 =>
  HIf v24
  (R (.bool false) w_2)
  (HBin .add v13 (.int .i64 1) fun v25 =>
  I [v25] w_2 ∧ μ [v25] w_2 < μ [v13] w_1))
  (R (.bool true) w_1))
theorem vc73 (v0 : Value) (v1 : Value) (w : World) (R : Value → World → Prop) (h : Vc73 v0 v1 w R) : HCall Try.prog 73 [v0, v1] w R :=
  funP_sound (JL := [(4, [13], [0, 1, 12])]) (JC := []) Tcall_ok mixed_ok Try.func73 (by kernel_rfl) (by kernel_rfl)
    (((by kernel_rfl : funP Try.prog Tcall [(4, [13], [0, 1, 12])] [] Try.f73 [v0, v1] w R = Vc73 v0 v1 w R)).mpr h)

-- audit.record.rows
def Vc74 (v0 : Value) (v1 : Value) (v2 : Value) (w : World) (R : Value → World → Prop) : Prop :=
  ∃ cs : List Value, v0 = .agg cs.toArray ∧ HNew cs 119 w fun v3 w_1 =>
  HFld 0 v3 fun v7 =>
  HLd v7 w_1 fun v8 =>
  HCall Try.prog 95 [(.int .i64 8), v8, v1] w_1 fun v10 w_2 =>
  HIdx 1 v10 v2 fun v12 =>
  HLd v12 w_2 fun v13 =>
  R v13 w_2
theorem vc74 (v0 : Value) (v1 : Value) (v2 : Value) (w : World) (R : Value → World → Prop) (h : Vc74 v0 v1 v2 w R) : HCall Try.prog 74 [v0, v1, v2] w R :=
  funP_sound (JL := []) (JC := []) Tcall_ok mixed_ok Try.func74 (by kernel_rfl) (by kernel_rfl)
    (((by kernel_rfl : funP Try.prog Tcall [] [] Try.f74 [v0, v1, v2] w R = Vc74 v0 v1 v2 w R)).mpr h)

-- audit.look.was
def Vc75 (v0 : Value) (v1 : Value) (w : World) (R : Value → World → Prop) : Prop :=
  ∃ cs : List Value, v0 = .agg cs.toArray ∧ HNew cs 121 w fun v2 w_1 =>
  HMax v1 (.int .i64 0) fun v9 =>
  HMin v9 (.int .i64 1099511627776) fun v10 =>
  HFld 3 v2 fun v11 =>
  HLd v11 w_1 fun v12 =>
  HLenS v12 fun v13 =>
  ∃ (I : List Value → World → Prop) (μ : List Value → World → Nat), I [(.int .i64 0)] w_1 ∧
  ∀ (v14 : Value) w_2, I [v14] w_2 →
  HBin .lss v14 v13 fun v15 =>
  HIf v15
  (HIdx 2 v12 v14 fun v17 =>
  HLdN 2 v17 w_2 fun v18 =>
  HNew [.int .i64 0, .string ⟨#[]⟩] 69 w_2 fun v7 w_3 =>
  HStN 2 v7 v18 w_3 fun w_4 =>
  HDraw w_4 fun w_5 =>
  HBin .gtr v14 (.int .i64 0) fun v20 =>
  HIf v20
  (HFld 0 v7 fun v22 =>
  HLd v22 w_5 fun v23 =>
  HFld 3 v2 fun v24 =>
  HLd v24 w_5 fun v25 =>
  HBin .sub v14 (.int .i64 1) fun v27 =>
  HIdx 2 v25 v27 fun v28 =>
  HFld 0 v28 fun v29 =>
  HLd v29 w_5 fun v30 =>
  HBin .leq v23 v30 fun v31 =>
  HIf v31
  (R (.bool false) w_5)
  (HFld 0 v2 fun v34 =>
  HFld 0 v34 fun v35 =>
  HLd v35 w_5 fun v36 =>
  HFld 1 v2 fun v38 =>
  HLd v38 w_5 fun v39 =>
  HFld 2 v2 fun v40 =>
  HLd v40 w_5 fun v41 =>
  HLdN 2 v7 w_5 fun v42 =>
  HCall Try.prog 96 [v36, v10, v39, v41, v42] w_5 fun v43 w_6 =>
  HNot v43 fun v44 =>
  HIf v44
  (R (.bool false) w_6)
  (HBin .add v14 (.int .i64 1) fun v46 =>
  I [v46] w_6 ∧ μ [v46] w_6 < μ [v14] w_2)))
  (HFld 0 v2 fun v34_1 =>
  HFld 0 v34_1 fun v35_1 =>
  HLd v35_1 w_5 fun v36_1 =>
  HFld 1 v2 fun v38_1 =>
  HLd v38_1 w_5 fun v39_1 =>
  HFld 2 v2 fun v40_1 =>
  HLd v40_1 w_5 fun v41_1 =>
  HLdN 2 v7 w_5 fun v42_1 =>
  HCall Try.prog 96 [v36_1, v10, v39_1, v41_1, v42_1] w_5 fun v43_1 w_7 =>
  HNot v43_1 fun v44_1 =>
  HIf v44_1
  (R (.bool false) w_7)
  (HBin .add v14 (.int .i64 1) fun v46_1 =>
  I [v46_1] w_7 ∧ μ [v46_1] w_7 < μ [v14] w_2)))
  (R (.bool true) w_2)
theorem vc75 (v0 : Value) (v1 : Value) (w : World) (R : Value → World → Prop) (h : Vc75 v0 v1 w R) : HCall Try.prog 75 [v0, v1] w R :=
  funP_sound (JL := [(3, [14], [2, 5, 12, 13])]) (JC := []) Tcall_ok mixed_ok Try.func75 (by kernel_rfl) (by kernel_rfl)
    (((by kernel_rfl : funP Try.prog Tcall [(3, [14], [2, 5, 12, 13])] [] Try.f75 [v0, v1] w R = Vc75 v0 v1 w R)).mpr h)

-- audit.last
def Vc76 (v0 : Value) (v1 : Value) (w : World) (R : Value → World → Prop) : Prop :=
  HLenS v0 fun v9 =>
  ∃ (I : List Value → World → Prop) (μ : List Value → World → Nat), I [(.int .i64 0), (.int .i64 0)] w ∧
  ∀ (v5 : Value) (v10 : Value) w_1, I [v5, v10] w_1 →
  HBin .lss v10 v9 fun v11 =>
  HIf v11
  (HIdx 7 v0 v10 fun v12 =>
  HLdN 7 v12 w_1 fun v13 =>
  HNew [.int .i64 0, .int .i64 0, .int .i64 0, .int .i64 0, .int .i64 0, .int .i64 0, .bool false] 74 w_1 fun v7 w_2 =>
  HStN 7 v7 v13 w_2 fun w_3 =>
  HFld 1 v7 fun v14 =>
  HLd v14 w_3 fun v15 =>
  HBin .eql v15 v1 fun v17 =>
  HIf v17
  (HFld 3 v7 fun v18 =>
  HLd v18 w_3 fun v19 =>
  HBin .add v10 (.int .i64 1) fun v20 =>
  I [v19, v20] w_3 ∧ μ [v19, v20] w_3 < μ [v5, v10] w_1)
  (HBin .add v10 (.int .i64 1) fun v20_1 =>
  I [v5, v20_1] w_3 ∧ μ [v5, v20_1] w_3 < μ [v5, v10] w_1))
  (R v5 w_1)
theorem vc76 (v0 : Value) (v1 : Value) (w : World) (R : Value → World → Prop) (h : Vc76 v0 v1 w R) : HCall Try.prog 76 [v0, v1] w R :=
  funP_sound (JL := [(3, [5, 10], [1, 8, 9])]) (JC := []) Tcall_ok mixed_ok Try.func76 (by kernel_rfl) (by kernel_rfl)
    (((by kernel_rfl : funP Try.prog Tcall [(3, [5, 10], [1, 8, 9])] [] Try.f76 [v0, v1] w R = Vc76 v0 v1 w R)).mpr h)

-- qanatref31.rows
def Vc77 (v0 : Value) (v1 : Value) (w : World) (R : Value → World → Prop) : Prop :=
  HLenS v0 fun v7 =>
  HLenS v1 fun v9 =>
  HBin .neq v7 v9 fun v10 =>
  HIf v10
  (R (.bool false) w)
  (∃ (I : List Value → World → Prop) (μ : List Value → World → Nat), I [(.int .i64 0)] w ∧
  ∀ (v5 : Value) w_1, I [v5] w_1 →
  HLenS v0 fun v13 =>
  HBin .lss v5 v13 fun v14 =>
  HIf v14
  (HDraw w_1 fun w_2 =>
  HIdx 2 v0 v5 fun v19 =>
  HLdN 2 v19 w_2 fun v20 =>
  HIdx 2 v1 v5 fun v23 =>
  HLdN 2 v23 w_2 fun v24 =>
  HEqG Try.prog 69 true v20 v24 w_2 fun v25 =>
  HIf v25
  (R (.bool false) w_2)
  (HBin .add v5 (.int .i64 1) fun v16 =>
  I [v16] w_2 ∧ μ [v16] w_2 < μ [v5] w_1))
  (R (.bool true) w_1))
theorem vc77 (v0 : Value) (v1 : Value) (w : World) (R : Value → World → Prop) (h : Vc77 v0 v1 w R) : HCall Try.prog 77 [v0, v1] w R :=
  funP_sound (JL := [(4, [5], [0, 1])]) (JC := []) Tcall_ok mixed_ok Try.func77 (by kernel_rfl) (by kernel_rfl)
    (((by kernel_rfl : funP Try.prog Tcall [(4, [5], [0, 1])] [] Try.f77 [v0, v1] w R = Vc77 v0 v1 w R)).mpr h)

-- qanatref07.Between
def Vc78 (v0 : Value) (v1 : Value) (v2 : Value) (v3 : Value) (v4 : Value) (w : World) (R : Value → World → Prop) : Prop :=
  ∃ cs : List Value, v4 = .agg cs.toArray ∧ HNew cs 69 w fun v9 w_1 =>
  HLenS v0 fun v16 =>
  HCall Try.prog 70 [v1, v16] w_1 fun v17 w_2 =>
  ∃ (I : List Value → World → Prop) (μ : List Value → World → Nat), I [v17] w_2 ∧
  ∀ (v11 : Value) w_3, I [v11] w_3 →
  HLenS v0 fun v21 =>
  HCall Try.prog 70 [v2, v21] w_3 fun v22 w_4 =>
  HBin .leq v11 v22 fun v23 =>
  HIf v23
  (HFld 0 v9 fun v30 =>
  HLd v30 w_4 fun v31 =>
  HCall Try.prog 97 [v0, v11, v3, v31] w_4 fun v32 w_5 =>
  HExt 0 v32 fun v33 =>
  HExt 1 v32 fun v34 =>
  HIf v34
  (HFld 1 v9 fun v38 =>
  HLd v38 w_5 fun v39 =>
  HBin .eql v33 v39 fun v40 =>
  HIf v40
  (R (.bool true) w_5)
  (HBin .add v11 (.int .i64 1) fun v25 =>
  I [v25] w_5 ∧ μ [v25] w_5 < μ [v11] w_3))
  (HBin .add v11 (.int .i64 1) fun v25_1 =>
  I [v25_1] w_5 ∧ μ [v25_1] w_5 < μ [v11] w_3))
  (R (.bool false) w_4)
theorem vc78 (v0 : Value) (v1 : Value) (v2 : Value) (v3 : Value) (v4 : Value) (w : World) (R : Value → World → Prop) (h : Vc78 v0 v1 v2 v3 v4 w R) : HCall Try.prog 78 [v0, v1, v2, v3, v4] w R :=
  funP_sound (JL := [(2, [11], [0, 2, 3, 9])]) (JC := []) Tcall_ok mixed_ok Try.func78 (by kernel_rfl) (by kernel_rfl)
    (((by kernel_rfl : funP Try.prog Tcall [(2, [11], [0, 2, 3, 9])] [] Try.f78 [v0, v1, v2, v3, v4] w R = Vc78 v0 v1 v2 v3 v4 w R)).mpr h)

-- req.May
def Vc79 (v0 : Value) (w : World) (R : Value → World → Prop) : Prop :=
  HCall Try.prog 98 [v0] w fun v4 w_1 =>
  R v4 w_1
theorem vc79 (v0 : Value) (w : World) (R : Value → World → Prop) (h : Vc79 v0 w R) : HCall Try.prog 79 [v0] w R :=
  funP_sound (JL := []) (JC := []) Tcall_ok mixed_ok Try.func79 (by kernel_rfl) (by kernel_rfl)
    (((by kernel_rfl : funP Try.prog Tcall [] [] Try.f79 [v0] w R = Vc79 v0 w R)).mpr h)

-- audit.record.puts
def Vc80 (v0 : Value) (v1 : Value) (v2 : Value) (w : World) (R : Value → World → Prop) : Prop :=
  ∃ cs : List Value, v0 = .agg cs.toArray ∧ HNew cs 119 w fun v3 w_1 =>
  HFld 0 v3 fun v12 =>
  HLd v12 w_1 fun v13 =>
  HBin .sub v1 (.int .i64 1) fun v15 =>
  HSl 5 v13 (some v15) none none fun v16 =>
  HLenS v16 fun v17 =>
  ∃ (I : List Value → World → Prop) (μ : List Value → World → Nat), I [(.int .i64 0), (.int .i64 0)] w_1 ∧
  ∀ (v7 : Value) (v18 : Value) w_2, I [v7, v18] w_2 →
  HBin .lss v18 v17 fun v19 =>
  HIf v19
  (HIdx 5 v16 v18 fun v20 =>
  HLdN 5 v20 w_2 fun v21 =>
  HNew [.int .i64 0, .int .i64 0, .slice none 0 0, .slice none 0 0, .int .i64 0] 103 w_2 fun v9 w_3 =>
  HStN 5 v9 v21 w_3 fun w_4 =>
  HFld 2 v9 fun v22 =>
  HLd v22 w_4 fun v23 =>
  HLenS v23 fun v24 =>
  ∃ (I_1 : List Value → World → Prop) (μ_1 : List Value → World → Nat), I_1 [v7, (.int .i64 0)] w_4 ∧
  ∀ (v7_1 : Value) (v25 : Value) w_5, I_1 [v7_1, v25] w_5 →
  HBin .lss v25 v24 fun v26 =>
  HIf v26
  (HIdx 4 v23 v25 fun v27 =>
  HLdN 4 v27 w_5 fun v28 =>
  HNew [.int .i64 0, .int .i64 0, .bool false, .string ⟨#[]⟩] 99 w_5 fun v11 w_6 =>
  HStN 4 v11 v28 w_6 fun w_7 =>
  HFld 0 v11 fun v29 =>
  HLd v29 w_7 fun v30 =>
  HBin .eql v30 v2 fun v32 =>
  HIf v32
  (HFld 2 v11 fun v34 =>
  HLd v34 w_7 fun v35 =>
  HNot v35 fun v36 =>
  HIf v36
  (HBin .add v7_1 (.int .i64 1) fun v39 =>
  HBin .add v25 (.int .i64 1) fun v40 =>
  I_1 [v39, v40] w_7 ∧ μ_1 [v39, v40] w_7 < μ_1 [v7_1, v25] w_5)
  (HBin .add v25 (.int .i64 1) fun v40_1 =>
  I_1 [v7_1, v40_1] w_7 ∧ μ_1 [v7_1, v40_1] w_7 < μ_1 [v7_1, v25] w_5))
  (HBin .add v25 (.int .i64 1) fun v40_2 =>
  I_1 [v7_1, v40_2] w_7 ∧ μ_1 [v7_1, v40_2] w_7 < μ_1 [v7_1, v25] w_5))
  (HBin .add v18 (.int .i64 1) fun v41 =>
  I [v7_1, v41] w_5 ∧ μ [v7_1, v41] w_5 < μ [v7, v18] w_2))
  (R v7 w_2)
theorem vc80 (v0 : Value) (v1 : Value) (v2 : Value) (w : World) (R : Value → World → Prop) (h : Vc80 v0 v1 v2 w R) : HCall Try.prog 80 [v0, v1, v2] w R :=
  funP_sound (JL := [(3, [7, 18], [2, 16, 17]), (6, [7, 25], [2, 16, 17, 18, 23, 24])]) (JC := []) Tcall_ok mixed_ok Try.func80 (by kernel_rfl) (by kernel_rfl)
    (((by kernel_rfl : funP Try.prog Tcall [(3, [7, 18], [2, 16, 17]), (6, [7, 25], [2, 16, 17, 18, 23, 24])] [] Try.f80 [v0, v1, v2] w R = Vc80 v0 v1 v2 w R)).mpr h)

-- qanatref13.MayReqs
def Vc81 (v0 : Value) (w : World) (R : Value → World → Prop) : Prop :=
  HLenS v0 fun v7 =>
  HBin .gtr v7 (.int .i64 64) fun v8 =>
  HIf v8
  (R (.bool false) w)
  (∃ (I : List Value → World → Prop) (μ : List Value → World → Nat), I [(.int .i64 0)] w ∧
  ∀ (v3 : Value) w_1, I [v3] w_1 →
  HLenS v0 fun v11 =>
  HBin .lss v3 v11 fun v12 =>
  HIf v12
  (HIdx 7 v0 v3 fun v17 =>
  HLdN 7 v17 w_1 fun v18 =>
  HNew [.int .i64 0, .int .i64 0, .int .i64 0, .int .i64 0, .int .i64 0, .int .i64 0, .bool false] 74 w_1 fun v4 w_2 =>
  HStN 7 v4 v18 w_2 fun w_3 =>
  ∃ I_1 : List Value → World → Prop, (HDraw w_3 fun w_4 =>
  HFld 0 v4 fun v19 =>
  HLd v19 w_4 fun v20 =>
  HBin .add v3 (.int .i64 1) fun v22 =>
  HBin .neq v20 v22 fun v23 =>
  HIf v23
  (R (.bool false) w_4)
  (HFld 1 v4 fun v25 =>
  HLd v25 w_4 fun v26 =>
  HBin .lss v26 (.int .i64 0) fun v27 =>
  HIf v27
  (R (.bool false) w_4)
  (HFld 1 v4 fun v30 =>
  HLd v30 w_4 fun v31 =>
  HBin .geq v31 (.int .i64 8) fun v32 =>
  HIf v32
  (R (.bool false) w_4)
  (HFld 2 v4 fun v35 =>
  HLd v35 w_4 fun v36 =>
  HBin .lss v36 (.int .i64 1) fun v37 =>
  HIf v37
  (R (.bool false) w_4)
  (HFld 2 v4 fun v40 =>
  HLd v40 w_4 fun v41 =>
  HBin .gtr v41 (.int .i64 8) fun v42 =>
  HIf v42
  (R (.bool false) w_4)
  (HFld 3 v4 fun v45 =>
  HLd v45 w_4 fun v46 =>
  HBin .lss v46 (.int .i64 1) fun v47 =>
  HIf v47
  (R (.bool false) w_4)
  (HFld 3 v4 fun v50 =>
  HLd v50 w_4 fun v51 =>
  HBin .gtr v51 (.int .i64 1099511627776) fun v52 =>
  HIf v52
  (R (.bool false) w_4)
  (HBin .gtr v3 (.int .i64 0) fun v56 =>
  HIf v56
  (HFld 3 v4 fun v58 =>
  HLd v58 w_4 fun v59 =>
  HBin .sub v3 (.int .i64 1) fun v62 =>
  HIdx 7 v0 v62 fun v63 =>
  HFld 3 v63 fun v64 =>
  HLd v64 w_4 fun v65 =>
  HBin .lss v59 v65 fun v66 =>
  HIf v66
  (R (.bool false) w_4)
  (I_1 [] w_4))
  (I_1 [] w_4))))))))) ∧
  ∀ w_5, I_1 [] w_5 →
  HFld 4 v4 fun v69 =>
  HLd v69 w_5 fun v70 =>
  HBin .lss v70 (.int .i64 0) fun v71 =>
  HIf v71
  (R (.bool false) w_5)
  (HFld 4 v4 fun v73 =>
  HLd v73 w_5 fun v74 =>
  HBin .gtr v74 (.int .i64 1099511627776) fun v75 =>
  HIf v75
  (R (.bool false) w_5)
  (HFld 5 v4 fun v78 =>
  HLd v78 w_5 fun v79 =>
  HBin .lss v79 (.int .i64 0) fun v80 =>
  HIf v80
  (R (.bool false) w_5)
  (HFld 5 v4 fun v83 =>
  HLd v83 w_5 fun v84 =>
  HBin .gtr v84 (.int .i64 1099511627776) fun v85 =>
  HIf v85
  (R (.bool false) w_5)
  (∃ (I_2 : List Value → World → Prop) (μ_1 : List Value → World → Nat), I_2 [(.int .i64 0)] w_5 ∧
  ∀ (v5 : Value) w_6, I_2 [v5] w_6 →
  HBin .lss v5 v3 fun v89 =>
  HIf v89
  (HDraw w_6 fun w_7 =>
  HIdx 7 v0 v5 fun v94 =>
  HFld 1 v94 fun v95 =>
  HLd v95 w_7 fun v96 =>
  HFld 1 v4 fun v97 =>
  HLd v97 w_7 fun v98 =>
  HBin .eql v96 v98 fun v99 =>
  HIf v99
  (HIdx 7 v0 v5 fun v103 =>
  HFld 6 v103 fun v104 =>
  HLd v104 w_7 fun v105 =>
  HNot v105 fun v106 =>
  HIf v106
  (R (.bool false) w_7)
  (HBin .add v5 (.int .i64 1) fun v91 =>
  I_2 [v91] w_7 ∧ μ_1 [v91] w_7 < μ_1 [v5] w_6))
  (HBin .add v5 (.int .i64 1) fun v91_1 =>
  I_2 [v91_1] w_7 ∧ μ_1 [v91_1] w_7 < μ_1 [v5] w_6))
  (HBin .add v3 (.int .i64 1) fun v14 =>
  I [v14] w_6 ∧ μ [v14] w_6 < μ [v3] w_1))))))
  (R (.bool true) w_1))
theorem vc81 (v0 : Value) (w : World) (R : Value → World → Prop) (h : Vc81 v0 w R) : HCall Try.prog 81 [v0] w R :=
  funP_sound (JL := [(4, [3], [0]), (12, [5], [0, 3, 4])]) (JC := [(9, [], [0, 3, 4])]) Tcall_ok mixed_ok Try.func81 (by kernel_rfl) (by kernel_rfl)
    (((by kernel_rfl : funP Try.prog Tcall [(4, [3], [0]), (12, [5], [0, 3, 4])] [(9, [], [0, 3, 4])] Try.f81 [v0] w R = Vc81 v0 w R)).mpr h)

-- qanatplay.Change
def Vc91 (v0 : Value) (v1 : Value) (w : World) (R : Value → World → Prop) : Prop :=
  ∃ cs : List Value, v0 = .agg cs.toArray ∧ HNew cs 99 w fun v2 w_1 =>
  HNew [.int .i64 0, .int .i64 0, .bool false, .string ⟨#[]⟩] 99 w_1 fun v4 w_2 =>
  ∃ I : List Value → World → Prop, (HDraw w_2 fun w_3 =>
  HFld 0 v2 fun v6 =>
  HLd v6 w_3 fun v7 =>
  HFld 1 v2 fun v10 =>
  HLd v10 w_3 fun v11 =>
  HFld 2 v2 fun v14 =>
  HLd v14 w_3 fun v15 =>
  (HCall Try.prog 27 [v7, v1] w_3 fun v9 w_4 =>
  HLd v10 w_4 fun v11_1 =>
  v11_1 = v11 ∧
  HLd v14 w_4 fun v15_1 =>
  v15_1 = v15 ∧
  (HCall Try.prog 66 [v11, (.int .i64 12)] w_4 fun v12 w_5 =>
  HLd v14 w_5 fun v15_2 =>
  v15_2 = v15 ∧
  HBin .add (.int .i64 1) v12 fun v13 =>
  HBld [.int .i64 0, .int .i64 0, .bool false, .string ⟨#[]⟩] [(0, 1, v9), (1, 1, v13), (2, 1, v15)] fun v16 =>
  HNew [.int .i64 0, .int .i64 0, .bool false, .string ⟨#[]⟩] 99 w_5 fun v5 w_6 =>
  HLd v14 w_6 fun v15_3 =>
  v15_3 = v15 ∧
  HStN 4 v5 v16 w_6 fun w_7 =>
  I [v5] w_7) ∧
  (HNew [.int .i64 0, .int .i64 0, .bool false, .string ⟨#[]⟩] 99 w_4 fun v5_1 w_8 =>
  HLd v10 w_8 fun v11_2 =>
  v11_2 = v11 ∧
  HLd v14 w_8 fun v15_4 =>
  v15_4 = v15 ∧
  HCall Try.prog 66 [v11, (.int .i64 12)] w_8 fun v12_1 w_9 =>
  HLd v14 w_9 fun v15_5 =>
  v15_5 = v15 ∧
  HBin .add (.int .i64 1) v12_1 fun v13_1 =>
  HBld [.int .i64 0, .int .i64 0, .bool false, .string ⟨#[]⟩] [(0, 1, v9), (1, 1, v13_1), (2, 1, v15)] fun v16_1 =>
  HStN 4 v5_1 v16_1 w_9 fun w_10 =>
  I [v5_1] w_10)) ∧
  (HNew [.int .i64 0, .int .i64 0, .bool false, .string ⟨#[]⟩] 99 w_3 fun v5_2 w_11 =>
  HLd v6 w_11 fun v7_1 =>
  v7_1 = v7 ∧
  HLd v10 w_11 fun v11_3 =>
  v11_3 = v11 ∧
  HLd v14 w_11 fun v15_6 =>
  v15_6 = v15 ∧
  HCall Try.prog 27 [v7, v1] w_11 fun v9_1 w_12 =>
  HLd v10 w_12 fun v11_4 =>
  v11_4 = v11 ∧
  HLd v14 w_12 fun v15_7 =>
  v15_7 = v15 ∧
  HCall Try.prog 66 [v11, (.int .i64 12)] w_12 fun v12_2 w_13 =>
  HLd v14 w_13 fun v15_8 =>
  v15_8 = v15 ∧
  HBin .add (.int .i64 1) v12_2 fun v13_2 =>
  HBld [.int .i64 0, .int .i64 0, .bool false, .string ⟨#[]⟩] [(0, 1, v9_1), (1, 1, v13_2), (2, 1, v15)] fun v16_2 =>
  HStN 4 v5_2 v16_2 w_13 fun w_14 =>
  I [v5_2] w_14)) ∧
  ∀ (v5_3 : Value) w_15, I [v5_3] w_15 →
  ∃ I_1 : List Value → World → Prop, (HFld 1 v2 fun v17 =>
  HLd v17 w_15 fun v18 =>
  HCall Try.prog 66 [v18, (.int .i64 31)] w_15 fun v19 w_16 =>
  HBin .eql v19 (.int .i64 30) fun v20 =>
  HIf v20
  (HFld 1 v2 fun v21 =>
  HLd v21 w_16 fun v22 =>
  HCall Try.prog 66 [v22, (.int .i64 1099511627776)] w_16 fun v23 w_17 =>
  HBin .add (.int .i64 1) v23 fun v24 =>
  HFld 1 v5_3 fun v25 =>
  HSt v25 v24 w_17 fun w_18 =>
  I_1 [] w_18)
  (I_1 [] w_16)) ∧
  ∀ w_19, I_1 [] w_19 →
  HFld 2 v2 fun v26 =>
  HLd v26 w_19 fun v27 =>
  HNot v27 fun v28 =>
  HIf v28
  (HFld 3 v2 fun v29 =>
  HLd v29 w_19 fun v30 =>
  HCall Try.prog 102 [v30, (.int .i64 32)] w_19 fun v31 w_20 =>
  HFld 3 v5_3 fun v32 =>
  HSt v32 v31 w_20 fun w_21 =>
  HLdN 4 v5_3 w_21 fun v33 =>
  HStN 4 v4 v33 w_21 fun w_22 =>
  HLdN 4 v4 w_22 fun r =>
  R r w_22)
  (HLdN 4 v5_3 w_19 fun v33_1 =>
  HStN 4 v4 v33_1 w_19 fun w_23 =>
  HLdN 4 v4 w_23 fun r_1 =>
  R r_1 w_23)
theorem vc91 (v0 : Value) (v1 : Value) (w : World) (R : Value → World → Prop) (h : Vc91 v0 v1 w R) : HCall Try.prog 91 [v0, v1] w R :=
  funP_sound (JL := []) (JC := [(2, [5], [2, 4]), (4, [], [2, 4, 5])]) Tcall_ok mixed_ok Try.func91 (by kernel_rfl) (by kernel_rfl)
    (((by kernel_rfl : funP Try.prog Tcall [] [(2, [5], [2, 4]), (4, [], [2, 4, 5])] Try.f91 [v0, v1] w R = Vc91 v0 v1 w R)).mpr h)

-- qanatplay.Signal
def Vc92 (v0 : Value) (v1 : Value) (w : World) (R : Value → World → Prop) : Prop :=
  HBin .eql v0 (.string { data := #[] }) fun v8 =>
  HIf v8
  (R (.string { data := #[115, 110, 97, 112, 115, 104, 111, 116, 32, 48] }) w)
  (HRq Try.prog (Instr.index 9 v0 (.int .i64 0)) w fun v10 =>
  HCvI .i64 v10 fun v11 =>
  HBin .rem v11 (.int .i64 4) fun v13 =>
  HBin .eql v13 (.int .i64 3) fun v14 =>
  HIf v14
  (HCall Try.prog 102 [v0, (.int .i64 40)] w fun v16 w_1 =>
  R v16 w_1)
  (HBin .quo v11 (.int .i64 4) fun v18 =>
  HBin .rem v18 v1 fun v20 =>
  HBin .add (.int .i64 48) v20 fun v21 =>
  HCvI .u8 v21 fun v22 =>
  HBldS (zrow [.int .u8 0] 1) [(0, 1, v22)] 5 1 w fun v23 w_2 =>
  HRq Try.prog (convert 22 9 v23) w_2 fun v24 =>
  HBin .add (.string { data := #[115, 110, 97, 112, 115, 104, 111, 116, 32] }) v24 fun v25 =>
  HBin .rem v11 (.int .i64 4) fun v27 =>
  HBin .gtr v27 (.int .i64 0) fun v28 =>
  HIf v28
  (HBin .add v25 (.string { data := #[32] }) fun v30 =>
  HBin .quo v11 (.int .i64 16) fun v32 =>
  HBin .rem v32 (.int .i64 8) fun v33 =>
  HBin .add (.int .i64 49) v33 fun v34 =>
  HCvI .u8 v34 fun v35 =>
  HBldS (zrow [.int .u8 0] 1) [(0, 1, v35)] 5 1 w_2 fun v36 w_3 =>
  HRq Try.prog (convert 22 9 v36) w_3 fun v37 =>
  HBin .add v30 v37 fun v38 =>
  R v38 w_3)
  (R v25 w_2)))
theorem vc92 (v0 : Value) (v1 : Value) (w : World) (R : Value → World → Prop) (h : Vc92 v0 v1 w R) : HCall Try.prog 92 [v0, v1] w R :=
  funP_sound (JL := []) (JC := []) Tcall_ok mixed_ok Try.func92 (by kernel_rfl) (by kernel_rfl)
    (((by kernel_rfl : funP Try.prog Tcall [] [] Try.f92 [v0, v1] w R = Vc92 v0 v1 w R)).mpr h)

-- qanatref07.Del
def Vc93 (v0 : Value) (v1 : Value) (w : World) (R : Value → World → Prop) : Prop :=
  ∃ (I : List Value → World → Prop) (μ : List Value → World → Nat), I [(.int .i64 0)] w ∧
  ∀ (v6 : Value) w_1, I [v6] w_1 →
  HLenS v0 fun v9 =>
  HBin .lss v6 v9 fun v10 =>
  HIf v10
  (HIdx 2 v0 v6 fun v15 =>
  HFld 0 v15 fun v16 =>
  HLd v16 w_1 fun v17 =>
  HBin .eql v17 v1 fun v19 =>
  HIf v19
  (HDraw w_1 fun w_2 =>
  HSl 2 v0 none (some v6) none fun v23 =>
  HBin .add v6 (.int .i64 1) fun v27 =>
  HSl 2 v0 (some v27) none none fun v28 =>
  HBldS (zrow [.int .i64 0, .string ⟨#[]⟩] 0) [] 69 0 w_2 fun v20 w_3 =>
  HApp 2 24 [.int .i64 0, .string ⟨#[]⟩] 69 v20 v23 w_3 fun v24 w_4 =>
  HApp 2 24 [.int .i64 0, .string ⟨#[]⟩] 69 v24 v28 w_4 fun v29 w_5 =>
  R (.tuple #[v29, (.bool true)]) w_5)
  (HBin .add v6 (.int .i64 1) fun v12 =>
  I [v12] w_1 ∧ μ [v12] w_1 < μ [v6] w_1))
  (R (.tuple #[v0, (.bool false)]) w_1)
theorem vc93 (v0 : Value) (v1 : Value) (w : World) (R : Value → World → Prop) (h : Vc93 v0 v1 w R) : HCall Try.prog 93 [v0, v1] w R :=
  funP_sound (JL := [(2, [6], [0, 1])]) (JC := []) Tcall_ok mixed_ok Try.func93 (by kernel_rfl) (by kernel_rfl)
    (((by kernel_rfl : funP Try.prog Tcall [(2, [6], [0, 1])] [] Try.f93 [v0, v1] w R = Vc93 v0 v1 w R)).mpr h)

-- qanatref07.Put
def Vc94 (v0 : Value) (v1 : Value) (v2 : Value) (w : World) (R : Value → World → Prop) : Prop :=
  ∃ I : List Value → World → Prop, (∃ (I_1 : List Value → World → Prop) (μ : List Value → World → Nat), I_1 [(.int .i64 0)] w ∧
  ∀ (v8 : Value) w_1, I_1 [v8] w_1 →
  HLenS v0 fun v12 =>
  HBin .lss v8 v12 fun v13 =>
  HIf v13
  (HIdx 2 v0 v8 fun v17 =>
  HFld 0 v17 fun v18 =>
  HLd v18 w_1 fun v19 =>
  HBin .lss v19 v1 fun v21 =>
  HIf v21
  (HBin .add v8 (.int .i64 1) fun v24 =>
  I_1 [v24] w_1 ∧ μ [v24] w_1 < μ [v8] w_1)
  (I [v8] w_1))
  (I [v8] w_1)) ∧
  ∀ (v8_1 : Value) w_2, I [v8_1] w_2 →
  HBldS (zrow [.int .i64 0, .string ⟨#[]⟩] 0) [] 69 0 w_2 fun v25 w_3 =>
  HSl 2 v0 none (some v8_1) none fun v28 =>
  HApp 2 24 [.int .i64 0, .string ⟨#[]⟩] 69 v25 v28 w_3 fun v29 w_4 =>
  HBld [.int .i64 0, .string ⟨#[]⟩] [(0, 1, v1), (1, 1, v2)] fun v33 =>
  HBldS (zrow [.int .i64 0, .string ⟨#[]⟩] 1) [(0, 2, v33)] 69 1 w_4 fun v34 w_5 =>
  HApp 2 24 [.int .i64 0, .string ⟨#[]⟩] 69 v29 v34 w_5 fun v35 w_6 =>
  HLenS v0 fun v38 =>
  HBin .lss v8_1 v38 fun v39 =>
  HIf v39
  (HIdx 2 v0 v8_1 fun v43 =>
  HFld 0 v43 fun v44 =>
  HLd v44 w_6 fun v45 =>
  HBin .eql v45 v1 fun v47 =>
  HIf v47
  (HBin .add v8_1 (.int .i64 1) fun v52 =>
  HSl 2 v0 (some v52) none none fun v53 =>
  HApp 2 24 [.int .i64 0, .string ⟨#[]⟩] 69 v35 v53 w_6 fun v54 w_7 =>
  R (.tuple #[v54, (.bool false)]) w_7)
  (HSl 2 v0 (some v8_1) none none fun v58 =>
  HApp 2 24 [.int .i64 0, .string ⟨#[]⟩] 69 v35 v58 w_6 fun v59 w_8 =>
  R (.tuple #[v59, (.bool true)]) w_8))
  (HSl 2 v0 (some v8_1) none none fun v58_1 =>
  HApp 2 24 [.int .i64 0, .string ⟨#[]⟩] 69 v35 v58_1 w_6 fun v59_1 w_9 =>
  R (.tuple #[v59_1, (.bool true)]) w_9)
theorem vc94 (v0 : Value) (v1 : Value) (v2 : Value) (w : World) (R : Value → World → Prop) (h : Vc94 v0 v1 v2 w R) : HCall Try.prog 94 [v0, v1, v2] w R :=
  funP_sound (JL := [(2, [8], [0, 1, 2])]) (JC := [(4, [8], [0, 1, 2])]) Tcall_ok mixed_ok Try.func94 (by kernel_rfl) (by kernel_rfl)
    (((by kernel_rfl : funP Try.prog Tcall [(2, [8], [0, 1, 2])] [(4, [8], [0, 1, 2])] Try.f94 [v0, v1, v2] w R = Vc94 v0 v1 v2 w R)).mpr h)

-- fold.Fold
def Vc95 (v0 : Value) (v1 : Value) (v2 : Value) (w : World) (R : Value → World → Prop) : Prop :=
  HBin .lss v0 (.int .i64 1) fun v11 =>
  HIf v11
  (R (.slice Option.none 0 0) w)
  (HBin .gtr v0 (.int .i64 8) fun v14 =>
  HIf v14
  (R (.slice Option.none 0 0) w)
  (∃ (I : List Value → World → Prop) (μ : List Value → World → Nat), I [(.slice Option.none 0 0), (.int .i64 0)] w ∧
  ∀ (v7 : Value) (v17 : Value) w_1, I [v7, v17] w_1 →
  HBin .lss v17 v0 fun v18 =>
  HIf v18
  (HCall Try.prog 103 [v1, v17] w_1 fun v22 w_2 =>
  HLenS v1 fun v26 =>
  HCall Try.prog 105 [v2, v26] w_2 fun v27 w_3 =>
  HCall Try.prog 104 [v22, v27] w_3 fun v28 w_4 =>
  HCall Try.prog 106 [v22] w_4 fun v31 w_5 =>
  HBldS (zrow [.slice none 0 0] 1) [(0, 1, v31)] 64 1 w_5 fun v32 w_6 =>
  HApp 1 24 [.slice none 0 0] 64 v7 v32 w_6 fun v33 w_7 =>
  HBin .add v17 (.int .i64 1) fun v34 =>
  I [v33, v34] w_7 ∧ μ [v33, v34] w_7 < μ [v7, v17] w_1)
  (R v7 w_1)))
theorem vc95 (v0 : Value) (v1 : Value) (v2 : Value) (w : World) (R : Value → World → Prop) (h : Vc95 v0 v1 v2 w R) : HCall Try.prog 95 [v0, v1, v2] w R :=
  funP_sound (JL := [(5, [7, 17], [1, 2, 16])]) (JC := []) Tcall_ok mixed_ok Try.func95 (by kernel_rfl) (by kernel_rfl)
    (((by kernel_rfl : funP Try.prog Tcall [(5, [7, 17], [1, 2, 16])] [] Try.f95 [v0, v1, v2] w R = Vc95 v0 v1 v2 w R)).mpr h)

-- fold.Between
def Vc96 (v0 : Value) (v1 : Value) (v2 : Value) (v3 : Value) (v4 : Value) (w : World) (R : Value → World → Prop) : Prop :=
  ∃ cs : List Value, v4 = .agg cs.toArray ∧ HNew cs 69 w fun v9 w_1 =>
  HCall Try.prog 103 [v0, v3] w_1 fun v17 w_2 =>
  HLenS v0 fun v20 =>
  HCall Try.prog 105 [v1, v20] w_2 fun v21 w_3 =>
  ∃ (I : List Value → World → Prop) (μ : List Value → World → Nat), I [v21] w_3 ∧
  ∀ (v12 : Value) w_4, I [v12] w_4 →
  HLenS v0 fun v25 =>
  HCall Try.prog 105 [v2, v25] w_4 fun v26 w_5 =>
  HBin .leq v12 v26 fun v27 =>
  HIf v27
  (HCall Try.prog 104 [v17, v12] w_5 fun v32 w_6 =>
  HDraw w_6 fun w_7 =>
  HNil v17 fun v35 =>
  HFld 3 v35 fun v36 =>
  HLd v36 w_7 fun v37 =>
  HFld 0 v9 fun v38 =>
  HLd v38 w_7 fun v39 =>
  HRq Try.prog (Instr.lookup 152 v37 v39 true) w_7 fun v40 =>
  HExt 0 v40 fun v41 =>
  HExt 1 v40 fun v42 =>
  HIf v42
  (HFld 1 v9 fun v46 =>
  HLd v46 w_7 fun v47 =>
  HBin .eql v41 v47 fun v48 =>
  HIf v48
  (R (.bool true) w_7)
  (HBin .add v12 (.int .i64 1) fun v29 =>
  I [v29] w_7 ∧ μ [v29] w_7 < μ [v12] w_4))
  (HBin .add v12 (.int .i64 1) fun v29_1 =>
  I [v29_1] w_7 ∧ μ [v29_1] w_7 < μ [v12] w_4))
  (R (.bool false) w_5)
theorem vc96 (v0 : Value) (v1 : Value) (v2 : Value) (v3 : Value) (v4 : Value) (w : World) (R : Value → World → Prop) (h : Vc96 v0 v1 v2 v3 v4 w R) : HCall Try.prog 96 [v0, v1, v2, v3, v4] w R :=
  funP_sound (JL := [(3, [12], [0, 2, 9, 11])]) (JC := []) Tcall_ok mixed_ok Try.func96 (by kernel_rfl) (by kernel_rfl)
    (((by kernel_rfl : funP Try.prog Tcall [(3, [12], [0, 2, 9, 11])] [] Try.f96 [v0, v1, v2, v3, v4] w R = Vc96 v0 v1 v2 v3 v4 w R)).mpr h)

-- qanatref07.Value
def Vc97 (v0 : Value) (v1 : Value) (v2 : Value) (v3 : Value) (w : World) (R : Value → World → Prop) : Prop :=
  ∃ (I : List Value → World → Prop) (μ : List Value → World → Nat), I [(.string { data := #[] }), (.bool false), (.int .i64 0)] w ∧
  ∀ (v10 : Value) (v11 : Value) (v12 : Value) w_1, I [v10, v11, v12] w_1 →
  HLenS v0 fun v18 =>
  HCall Try.prog 70 [v1, v18] w_1 fun v19 w_2 =>
  HBin .lss v12 v19 fun v20 =>
  HIf v20
  (∃ (I_1 : List Value → World → Prop) (μ_1 : List Value → World → Nat), I_1 [v10, v11, (.int .i64 0)] w_2 ∧
  ∀ (v10_1 : Value) (v11_1 : Value) (v13 : Value) w_3, I_1 [v10_1, v11_1, v13] w_3 →
  HIdx 5 v0 v12 fun v26 =>
  HFld 2 v26 fun v27 =>
  HLd v27 w_3 fun v28 =>
  HLenS v28 fun v29 =>
  HBin .lss v13 v29 fun v30 =>
  HIf v30
  (HIdx 5 v0 v12 fun v35 =>
  HFld 2 v35 fun v36 =>
  HLd v36 w_3 fun v37 =>
  HIdx 4 v37 v13 fun v39 =>
  HLdN 4 v39 w_3 fun v40 =>
  HNew [.int .i64 0, .int .i64 0, .bool false, .string ⟨#[]⟩] 99 w_3 fun v14 w_4 =>
  HStN 4 v14 v40 w_4 fun w_5 =>
  HFld 0 v14 fun v41 =>
  HLd v41 w_5 fun v42 =>
  HBin .eql v42 v2 fun v44 =>
  HIf v44
  (HFld 1 v14 fun v46 =>
  HLd v46 w_5 fun v47 =>
  HBin .eql v47 v3 fun v49 =>
  HIf v49
  (HDraw w_5 fun w_6 =>
  HFld 3 v14 fun v51 =>
  HLd v51 w_6 fun v52 =>
  HFld 2 v14 fun v53 =>
  HLd v53 w_6 fun v54 =>
  HNot v54 fun v55 =>
  HLd v53 w_6 fun v54_1 =>
  v54_1 = v54 ∧
  HFld 2 v14 fun v56 =>
  HLd v56 w_6 fun v57 =>
  HIf v57
  (HBin .add v13 (.int .i64 1) fun v32 =>
  I_1 [(.string { data := #[] }), v55, v32] w_6 ∧ μ_1 [(.string { data := #[] }), v55, v32] w_6 < μ_1 [v10_1, v11_1, v13] w_3)
  (HBin .add v13 (.int .i64 1) fun v32_1 =>
  I_1 [v52, v55, v32_1] w_6 ∧ μ_1 [v52, v55, v32_1] w_6 < μ_1 [v10_1, v11_1, v13] w_3))
  (HBin .add v13 (.int .i64 1) fun v32_2 =>
  I_1 [v10_1, v11_1, v32_2] w_5 ∧ μ_1 [v10_1, v11_1, v32_2] w_5 < μ_1 [v10_1, v11_1, v13] w_3))
  (HBin .add v13 (.int .i64 1) fun v32_3 =>
  I_1 [v10_1, v11_1, v32_3] w_5 ∧ μ_1 [v10_1, v11_1, v32_3] w_5 < μ_1 [v10_1, v11_1, v13] w_3))
  (HBin .add v12 (.int .i64 1) fun v22 =>
  I [v10_1, v11_1, v22] w_3 ∧ μ [v10_1, v11_1, v22] w_3 < μ [v10, v11, v12] w_1))
  (R (.tuple #[v10, v11]) w_2)
theorem vc97 (v0 : Value) (v1 : Value) (v2 : Value) (v3 : Value) (w : World) (R : Value → World → Prop) (h : Vc97 v0 v1 v2 v3 w R) : HCall Try.prog 97 [v0, v1, v2, v3] w R :=
  funP_sound (JL := [(3, [10, 11, 12], [0, 1, 2, 3]), (6, [10, 11, 13], [0, 1, 2, 3, 12])]) (JC := []) Tcall_ok mixed_ok Try.func97 (by kernel_rfl) (by kernel_rfl)
    (((by kernel_rfl : funP Try.prog Tcall [(3, [10, 11, 12], [0, 1, 2, 3]), (6, [10, 11, 13], [0, 1, 2, 3, 12])] [] Try.f97 [v0, v1, v2, v3] w R = Vc97 v0 v1 v2 v3 w R)).mpr h)

-- req.list.may
def Vc98 (v0 : Value) (w : World) (R : Value → World → Prop) : Prop :=
  HNew [.bool false, .bool false, .bool false, .bool false, .bool false, .bool false, .bool false, .bool false] 155 w fun v3 w_1 =>
  HLenS v0 fun v8 =>
  ∃ (I : List Value → World → Prop) (μ : List Value → World → Nat), I [(.int .i64 0), (.int .i64 0)] w_1 ∧
  ∀ (v4 : Value) (v9 : Value) w_2, I [v4, v9] w_2 →
  HBin .lss v9 v8 fun v10 =>
  HIf v10
  (HIdx 7 v0 v9 fun v12 =>
  HLdN 7 v12 w_2 fun v13 =>
  HNew [.int .i64 0, .int .i64 0, .int .i64 0, .int .i64 0, .int .i64 0, .int .i64 0, .bool false] 74 w_2 fun v6 w_3 =>
  HStN 7 v6 v13 w_3 fun w_4 =>
  HFld 0 v6 fun v14 =>
  HLd v14 w_4 fun v15 =>
  HBin .add v9 (.int .i64 1) fun v17 =>
  HBin .neq v15 v17 fun v18 =>
  HIf v18
  (R (.bool false) w_4)
  (HLdN 7 v6 w_4 fun v20 =>
  HCall Try.prog 107 [v20, v4] w_4 fun v22 w_5 =>
  HNot v22 fun v23 =>
  HIf v23
  (R (.bool false) w_5)
  (HFld 1 v6 fun v26 =>
  HLd v26 w_5 fun v27 =>
  HIdxA 1 8 v3 v27 fun v28 =>
  HLd v28 w_5 fun v29 =>
  HIf v29
  (R (.bool false) w_5)
  (HDraw w_5 fun w_6 =>
  HFld 1 v6 fun v31 =>
  HLd v31 w_6 fun v32 =>
  HFld 3 v6 fun v33 =>
  HLd v33 w_6 fun v34 =>
  HFld 6 v6 fun v35 =>
  HLd v35 w_6 fun v36 =>
  HNot v36 fun v37 =>
  HLd v31 w_6 fun v32_1 =>
  v32_1 = v32 ∧
  HLd v35 w_6 fun v36_1 =>
  v36_1 = v36 ∧
  HIdxA 1 8 v3 v32 fun v38 =>
  HSt v38 v37 w_6 fun w_7 =>
  HBin .add v9 (.int .i64 1) fun v39 =>
  I [v34, v39] w_7 ∧ μ [v34, v39] w_7 < μ [v4, v9] w_2))))
  (HLenS v0 fun v41 =>
  HBin .leq v41 (.int .i64 64) fun v42 =>
  R v42 w_2)
theorem vc98 (v0 : Value) (w : World) (R : Value → World → Prop) (h : Vc98 v0 w R) : HCall Try.prog 98 [v0] w R :=
  funP_sound (JL := [(4, [4, 9], [0, 3, 7, 8])]) (JC := []) Tcall_ok mixed_ok Try.func98 (by kernel_rfl) (by kernel_rfl)
    (((by kernel_rfl : funP Try.prog Tcall [(4, [4, 9], [0, 3, 7, 8])] [] Try.f98 [v0] w R = Vc98 v0 w R)).mpr h)

-- qanatplay.Cut
def Vc102 (v0 : Value) (v1 : Value) (w : World) (R : Value → World → Prop) : Prop :=
  HLenT v0 fun v7 =>
  HMin v7 v1 fun v9 =>
  HSlS v0 none (some v9) fun v10 =>
  R v10 w
theorem vc102 (v0 : Value) (v1 : Value) (w : World) (R : Value → World → Prop) (h : Vc102 v0 v1 w R) : HCall Try.prog 102 [v0, v1] w R :=
  funP_sound (JL := []) (JC := []) Tcall_ok mixed_ok Try.func102 (by kernel_rfl) (by kernel_rfl)
    (((by kernel_rfl : funP Try.prog Tcall [] [] Try.f102 [v0, v1] w R = Vc102 v0 v1 w R)).mpr h)

-- fold.begin
def Vc103 (v0 : Value) (v1 : Value) (w : World) (R : Value → World → Prop) : Prop :=
  HBld [.int .i64 0, .slice none 0 0, .int .i64 0, .map none] [(1, 1, v0), (2, 1, v1), (3, 1, (.map (some w.heap.size)))] fun v8 =>
  ∃ cs : List Value, v8 = .agg cs.toArray ∧ HNew cs 154 (w.alloc (.map #[] 0)) fun v9 w_1 =>
  R v9 w_1
theorem vc103 (v0 : Value) (v1 : Value) (w : World) (R : Value → World → Prop) (h : Vc103 v0 v1 w R) : HCall Try.prog 103 [v0, v1] w R :=
  funP_sound (JL := []) (JC := []) Tcall_ok mixed_ok Try.func103 (by kernel_rfl) (by kernel_rfl)
    (((by kernel_rfl : funP Try.prog Tcall [] [] Try.f103 [v0, v1] w R = Vc103 v0 v1 w R)).mpr h)

-- fold.walk.to
def Vc104 (v0 : Value) (v1 : Value) (w : World) (R : Value → World → Prop) : Prop :=
  ∃ (I : List Value → World → Prop) (μ : List Value → World → Nat), I [] w ∧
  ∀ w_1, I [] w_1 →
  HNil v0 fun v7 =>
  HFld 0 v7 fun v8 =>
  HFld 0 v8 fun v9 =>
  HLd v9 w_1 fun v10 =>
  HBin .lss v10 v1 fun v12 =>
  HIf v12
  (HDraw w_1 fun w_2 =>
  HNil v0 fun v14 =>
  HFld 1 v14 fun v15 =>
  HLd v15 w_2 fun v16 =>
  HNil v0 fun v18 =>
  HFld 0 v18 fun v19 =>
  HFld 0 v19 fun v20 =>
  HLd v20 w_2 fun v21 =>
  HIdx 5 v16 v21 fun v22 =>
  HFld 2 v22 fun v23 =>
  HLd v23 w_2 fun v24 =>
  HLenS v24 fun v25 =>
  ∃ (I_1 : List Value → World → Prop) (μ_1 : List Value → World → Nat), I_1 [(.int .i64 0)] w_2 ∧
  ∀ (v26 : Value) w_3, I_1 [v26] w_3 →
  HBin .lss v26 v25 fun v27 =>
  HIf v27
  (HIdx 4 v24 v26 fun v28 =>
  HLdN 4 v28 w_3 fun v29 =>
  HNew [.int .i64 0, .int .i64 0, .bool false, .string ⟨#[]⟩] 99 w_3 fun v5 w_4 =>
  HStN 4 v5 v29 w_4 fun w_5 =>
  HDraw w_5 fun w_6 =>
  HFld 0 v5 fun v39 =>
  HLd v39 w_6 fun v40 =>
  HNil v0 fun v42 =>
  HFld 2 v42 fun v43 =>
  HLd v43 w_6 fun v44 =>
  HBin .neq v40 v44 fun v45 =>
  HIf v45
  (HBin .add v26 (.int .i64 1) fun v55 =>
  I_1 [v55] w_6 ∧ μ_1 [v55] w_6 < μ_1 [v26] w_3)
  (HFld 2 v5 fun v47 =>
  HLd v47 w_6 fun v48 =>
  HIf v48
  (HDraw w_6 fun w_7 =>
  HNil v0 fun v50 =>
  HFld 3 v50 fun v51 =>
  HLd v51 w_7 fun v52 =>
  HFld 1 v5 fun v53 =>
  HLd v53 w_7 fun v54 =>
  HRun Try.prog (Builtin.delete_ #[152, 2] 0 [v52, v54].toArray) w_7 fun u w_8 =>
  HBin .add v26 (.int .i64 1) fun v55_1 =>
  I_1 [v55_1] w_8 ∧ μ_1 [v55_1] w_8 < μ_1 [v26] w_3)
  (HDraw w_6 fun w_9 =>
  HNil v0 fun v31 =>
  HFld 3 v31 fun v32 =>
  HLd v32 w_9 fun v33 =>
  HFld 1 v5 fun v34 =>
  HLd v34 w_9 fun v35 =>
  HFld 3 v5 fun v36 =>
  HLd v36 w_9 fun v37 =>
  HRun Try.prog (do Instr.mapUpdate 152 v33 v35 v37; pure undef) w_9 fun u_1 w_10 =>
  HBin .add v26 (.int .i64 1) fun v55_2 =>
  I_1 [v55_2] w_10 ∧ μ_1 [v55_2] w_10 < μ_1 [v26] w_3)))
  (HNil v0 fun v57 =>
  HFld 0 v57 fun v58 =>
  HCall Try.prog 119 [v58] w_3 fun v59 w_11 =>
  I [] w_11 ∧ μ [] w_11 < μ [] w_1))
  (R (.tuple #[]) w_1)
theorem vc104 (v0 : Value) (v1 : Value) (w : World) (R : Value → World → Prop) (h : Vc104 v0 v1 w R) : HCall Try.prog 104 [v0, v1] w R :=
  funP_sound (JL := [(0, [], [0, 1]), (2, [26], [0, 1, 24, 25])]) (JC := []) Tcall_ok mixed_ok Try.func104 (by kernel_rfl) (by kernel_rfl)
    (((by kernel_rfl : funP Try.prog Tcall [(0, [], [0, 1]), (2, [26], [0, 1, 24, 25])] [] Try.f104 [v0, v1] w R = Vc104 v0 v1 w R)).mpr h)

-- fold.held
def Vc105 (v0 : Value) (v1 : Value) (w : World) (R : Value → World → Prop) : Prop :=
  HMax v0 (.int .i64 0) fun v6 =>
  HMin v6 v1 fun v8 =>
  R v8 w
theorem vc105 (v0 : Value) (v1 : Value) (w : World) (R : Value → World → Prop) (h : Vc105 v0 v1 w R) : HCall Try.prog 105 [v0, v1] w R :=
  funP_sound (JL := []) (JC := []) Tcall_ok mixed_ok Try.func105 (by kernel_rfl) (by kernel_rfl)
    (((by kernel_rfl : funP Try.prog Tcall [] [] Try.f105 [v0, v1] w R = Vc105 v0 v1 w R)).mpr h)

-- fold.walk.all
def Vc106 (v0 : Value) (w : World) (R : Value → World → Prop) : Prop :=
  HNil v0 fun v7 =>
  HFld 3 v7 fun v8 =>
  HLd v8 w fun v9 =>
  HCall Try.prog 121 [v9] w fun v10 w_1 =>
  HCall Try.prog 120 [v10] w_1 fun v11 w_2 =>
  HLenS v11 fun v12 =>
  ∃ (I : List Value → World → Prop) (μ : List Value → World → Nat), I [(.slice Option.none 0 0), (.int .i64 0)] w_2 ∧
  ∀ (v3 : Value) (v13 : Value) w_3, I [v3, v13] w_3 →
  HBin .lss v13 v12 fun v14 =>
  HIf v14
  (HIdx 1 v11 v13 fun v15 =>
  HLd v15 w_3 fun v16 =>
  HNil v0 fun v20 =>
  HFld 3 v20 fun v21 =>
  HLd v21 w_3 fun v22 =>
  HRq Try.prog (Instr.lookup 152 v22 v16 false) w_3 fun v24 =>
  HBld [.int .i64 0, .string ⟨#[]⟩] [(0, 1, v16), (1, 1, v24)] fun v25 =>
  HBldS (zrow [.int .i64 0, .string ⟨#[]⟩] 1) [(0, 2, v25)] 69 1 w_3 fun v26 w_4 =>
  HApp 2 24 [.int .i64 0, .string ⟨#[]⟩] 69 v3 v26 w_4 fun v27 w_5 =>
  HBin .add v13 (.int .i64 1) fun v28 =>
  I [v27, v28] w_5 ∧ μ [v27, v28] w_5 < μ [v3, v13] w_3)
  (R v3 w_3)
theorem vc106 (v0 : Value) (w : World) (R : Value → World → Prop) (h : Vc106 v0 w R) : HCall Try.prog 106 [v0] w R :=
  funP_sound (JL := [(3, [3, 13], [0, 11, 12])]) (JC := []) Tcall_ok mixed_ok Try.func106 (by kernel_rfl) (by kernel_rfl)
    (((by kernel_rfl : funP Try.prog Tcall [(3, [3, 13], [0, 11, 12])] [] Try.f106 [v0] w R = Vc106 v0 w R)).mpr h)

-- req.one
def Vc107 (v0 : Value) (v1 : Value) (w : World) (R : Value → World → Prop) : Prop :=
  ∃ cs : List Value, v0 = .agg cs.toArray ∧ HNew cs 74 w fun v2 w_1 =>
  HFld 1 v2 fun v5 =>
  HLd v5 w_1 fun v6 =>
  HBin .geq v6 (.int .i64 0) fun v7 =>
  HIf v7
  (HFld 1 v2 fun v9 =>
  HLd v9 w_1 fun v10 =>
  HBin .lss v10 (.int .i64 8) fun v11 =>
  HIf v11
  (HFld 2 v2 fun v14 =>
  HLd v14 w_1 fun v15 =>
  HBin .geq v15 (.int .i64 1) fun v16 =>
  HIf v16
  (HFld 2 v2 fun v19 =>
  HLd v19 w_1 fun v20 =>
  HBin .leq v20 (.int .i64 8) fun v21 =>
  HIf v21
  (HFld 3 v2 fun v24 =>
  HLd v24 w_1 fun v25 =>
  HMax v1 (.int .i64 1) fun v27 =>
  HBin .geq v25 v27 fun v28 =>
  HIf v28
  (HFld 3 v2 fun v31 =>
  HLd v31 w_1 fun v32 =>
  HBin .leq v32 (.int .i64 1099511627776) fun v33 =>
  HIf v33
  (HFld 4 v2 fun v36 =>
  HLd v36 w_1 fun v37 =>
  HBin .geq v37 (.int .i64 0) fun v38 =>
  HIf v38
  (HFld 4 v2 fun v41 =>
  HLd v41 w_1 fun v42 =>
  HBin .leq v42 (.int .i64 1099511627776) fun v43 =>
  HIf v43
  (HFld 5 v2 fun v46 =>
  HLd v46 w_1 fun v47 =>
  HBin .geq v47 (.int .i64 0) fun v48 =>
  HIf v48
  (HFld 5 v2 fun v51 =>
  HLd v51 w_1 fun v52 =>
  HBin .leq v52 (.int .i64 1099511627776) fun v53 =>
  R v53 w_1)
  (R (.bool false) w_1))
  (R (.bool false) w_1))
  (R (.bool false) w_1))
  (R (.bool false) w_1))
  (R (.bool false) w_1))
  (R (.bool false) w_1))
  (R (.bool false) w_1))
  (R (.bool false) w_1))
  (R (.bool false) w_1)
theorem vc107 (v0 : Value) (v1 : Value) (w : World) (R : Value → World → Prop) (h : Vc107 v0 v1 w R) : HCall Try.prog 107 [v0, v1] w R :=
  funP_sound (JL := []) (JC := []) Tcall_ok mixed_ok Try.func107 (by kernel_rfl) (by kernel_rfl)
    (((by kernel_rfl : funP Try.prog Tcall [] [] Try.f107 [v0, v1] w R = Vc107 v0 v1 w R)).mpr h)

-- fold.place.step
def Vc119 (v0 : Value) (w : World) (R : Value → World → Prop) : Prop :=
  HNil v0 fun v3 =>
  HFld 0 v3 fun v4 =>
  HLd v4 w fun v5 =>
  HBin .add v5 (.int .i64 1) fun v6 =>
  HNil v0 fun v7 =>
  HFld 0 v7 fun v8 =>
  HSt v8 v6 w fun w_1 =>
  R (.tuple #[]) w_1
theorem vc119 (v0 : Value) (w : World) (R : Value → World → Prop) (h : Vc119 v0 w R) : HCall Try.prog 119 [v0] w R :=
  funP_sound (JL := []) (JC := []) Tcall_ok mixed_ok Try.func119 (by kernel_rfl) (by kernel_rfl)
    (((by kernel_rfl : funP Try.prog Tcall [] [] Try.f119 [v0] w R = Vc119 v0 w R)).mpr h)

end Go.Proofs.Ythjnknpgcmmapaa
