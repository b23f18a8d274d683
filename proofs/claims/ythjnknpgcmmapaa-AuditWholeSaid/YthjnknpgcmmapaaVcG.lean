/-
  What calls of functions ask, printed by a program of mine (gen.py) out of the functions' code; each is checked by the kernel.
-/
import Derived.Test.YthjnknpgcmmapaaTab
namespace Go.Proofs.Ythjnknpgcmmapaa
set_option linter.unusedVariables false
set_option maxRecDepth 100000
open Go.RowKit

-- qanatlaw04.DiskOwn
def Vc3 (v0 : Value) (w : World) (R : Value → World → Prop) : Prop :=
  HCall Try.prog 12 [] w fun v10 w_1 =>
  HCall Try.prog 13 [v0, (.int .u8 9)] w_1 fun v12 w_2 =>
  HEq (.pointer 81) false v10 (.pointer Option.none) fun v14 =>
  HIf v14
  (R (.bool false) w_2)
  (HCall Try.prog 14 [v10, (.int .i64 0), v12] w_2 fun v18 w_3 =>
  HBin .neq v18 (.int .i64 0) fun v19 =>
  HIf v19
  (R (.bool false) w_3)
  (HCall Try.prog 15 [v12, v0, (.int .u8 9)] w_3 fun v24 w_4 =>
  HNot v24 fun v25 =>
  HIf v25
  (R (.bool false) w_4)
  (HCall Try.prog 16 [v12] w_4 fun v28 w_5 =>
  HCall Try.prog 17 [v10, (.int .i64 0)] w_5 fun v31 w_6 =>
  HExt 0 v31 fun v32 =>
  HExt 1 v31 fun v33 =>
  HCall Try.prog 16 [v32] w_6 fun v35 w_7 =>
  HCall Try.prog 17 [v10, (.int .i64 0)] w_7 fun v38 w_8 =>
  HExt 0 v38 fun v39 =>
  HExt 1 v38 fun v40 =>
  HCall Try.prog 18 [v10] w_8 fun v42 w_9 =>
  HCall Try.prog 19 [v42] w_9 fun v44 w_10 =>
  HCall Try.prog 20 [] w_10 fun v45 w_11 =>
  HIf v45
  (HIf v40
  (HCall Try.prog 21 [v39, v0] w_11 fun v52 w_12 =>
  HIf v52
  (HCall Try.prog 18 [v10] w_12 fun v56 w_13 =>
  HBldS (zrow [.int .i64 0] 1) [(0, 1, (.int .i64 0))] 3 1 w_13 fun v57 w_14 =>
  HCall Try.prog 22 [v56, v57] w_14 fun v58 w_15 =>
  R v58 w_15)
  (R (.bool false) w_12))
  (R (.bool false) w_11))
  (R (.bool false) w_11))))
theorem vc3 (v0 : Value) (w : World) (R : Value → World → Prop) (h : Vc3 v0 w R) : HCall Try.prog 3 [v0] w R :=
  funP_sound (JL := []) (JC := []) Tcall_ok mixed_ok Try.func3 (by kernel_rfl) (by kernel_rfl)
    (((by kernel_rfl : funP Try.prog Tcall [] [] Try.f3 [v0] w R = Vc3 v0 w R)).mpr h)

-- qanatlaw04.DiskSafe
def Vc4 (v0 : Value) (v1 : Value) (v2 : Value) (w : World) (R : Value → World → Prop) : Prop :=
  HCall Try.prog 12 [] w fun v11 w_1 =>
  HEq (.pointer 81) false v11 (.pointer Option.none) fun v13 =>
  HIf v13
  (R (.bool false) w_1)
  (HCall Try.prog 14 [v11, (.int .i64 3), v0] w_1 fun v17 w_2 =>
  HBin .neq v17 (.int .i64 0) fun v18 =>
  HIf v18
  (R (.bool false) w_2)
  (HCall Try.prog 23 [v11, (.int .i64 3)] w_2 fun v22 w_3 =>
  HBin .neq v22 (.int .i64 0) fun v23 =>
  HIf v23
  (R (.bool false) w_3)
  (HCall Try.prog 14 [v11, (.int .i64 3), v1] w_3 fun v28 w_4 =>
  HBin .neq v28 (.int .i64 0) fun v29 =>
  HIf v29
  (R (.bool false) w_4)
  (HBldS (zrow [.int .i64 0] 1) [(0, 1, v2)] 3 1 w_4 fun v33 w_5 =>
  HCall Try.prog 24 [v11, v33] w_5 fun v34 w_6 =>
  ∃ I : List Value → World → Prop, (HBin .gtr v2 (.int .i64 0) fun v36 =>
  HIf v36
  (HLenS v1 fun v39 =>
  HBin .add v39 (.int .i64 1) fun v40 =>
  HBin .rem v2 v40 fun v41 =>
  I [v41] w_6)
  (I [(.int .i64 0)] w_6)) ∧
  ∀ (v8 : Value) w_7, I [v8] w_7 →
  HCall Try.prog 17 [v11, (.int .i64 3)] w_7 fun v44 w_8 =>
  HExt 0 v44 fun v45 =>
  HExt 1 v44 fun v46 =>
  HDraw w_8 fun w_9 =>
  HCall Try.prog 20 [] w_9 fun v47 w_10 =>
  HIf v47
  (HIf v46
  (HRq Try.prog (convert 22 9 v45) w_10 fun v53 =>
  HRq Try.prog (convert 22 9 v0) w_10 fun v55 =>
  HSl 1 v1 none (some v8) none fun v58 =>
  HRq Try.prog (convert 22 9 v58) w_10 fun v59 =>
  HBin .add v55 v59 fun v60 =>
  HBin .eql v53 v60 fun v61 =>
  HIf v61
  (HLenS v45 fun v67 =>
  HCall Try.prog 25 [v11, (.int .i64 3)] w_10 fun v65 w_11 =>
  HBin .eql v65 v67 fun v68 =>
  HIf v68
  (HCall Try.prog 26 [v11] w_11 fun v72 w_12 =>
  HNot v72 fun v73 =>
  R v73 w_12)
  (R (.bool false) w_11))
  (R (.bool false) w_10))
  (R (.bool false) w_10))
  (R (.bool false) w_10)))))
theorem vc4 (v0 : Value) (v1 : Value) (v2 : Value) (w : World) (R : Value → World → Prop) (h : Vc4 v0 v1 v2 w R) : HCall Try.prog 4 [v0, v1, v2] w R :=
  funP_sound (JL := []) (JC := [(8, [8], [0, 1, 7])]) Tcall_ok mixed_ok Try.func4 (by kernel_rfl) (by kernel_rfl)
    (((by kernel_rfl : funP Try.prog Tcall [] [(8, [8], [0, 1, 7])] Try.f4 [v0, v1, v2] w R = Vc4 v0 v1 v2 w R)).mpr h)

-- qanatlaw04.DiskArms
def Vc5 (v0 : Value) (v1 : Value) (w : World) (R : Value → World → Prop) : Prop :=
  HCall Try.prog 12 [] w fun v11 w_1 =>
  HCall Try.prog 27 [v0, (.int .i64 6)] w_1 fun v13 w_2 =>
  HBin .add (.int .i64 1) v13 fun v14 =>
  HEq (.pointer 81) false v11 (.pointer Option.none) fun v16 =>
  HIf v16
  (R (.bool false) w_2)
  (HCall Try.prog 28 [v11, v14] w_2 fun v19 w_3 =>
  ∃ (I : List Value → World → Prop) (μ : List Value → World → Nat), I [(.int .i64 1)] w_3 ∧
  ∀ (v7 : Value) w_4, I [v7] w_4 →
  HBin .leq v7 (.int .i64 8) fun v21 =>
  HIf v21
  (∃ I_1 : List Value → World → Prop, (HBin .rem v7 (.int .i64 2) fun v25 =>
  HBin .eql v25 (.int .i64 1) fun v26 =>
  HIf v26
  (HCall Try.prog 14 [v11, (.int .i64 0), v1] w_4 fun v29 w_5 =>
  I_1 [v29] w_5)
  (HCall Try.prog 23 [v11, (.int .i64 0)] w_4 fun v31 w_6 =>
  I_1 [v31] w_6)) ∧
  ∀ (v8 : Value) w_7, I_1 [v8] w_7 →
  HBin .eql v8 (.int .i64 8) fun v33 =>
  HBin .geq v7 v14 fun v36 =>
  HEq .bool true v33 v36 fun v37 =>
  HIf v37
  (R (.bool false) w_7)
  (HBin .neq v8 (.int .i64 0) fun v40 =>
  HIf v40
  (HBin .neq v8 (.int .i64 8) fun v43 =>
  HIf v43
  (R (.bool false) w_7)
  (HCall Try.prog 26 [v11] w_7 fun v48 w_8 =>
  HBin .geq v7 v14 fun v51 =>
  HEq .bool true v48 v51 fun v52 =>
  HIf v52
  (R (.bool false) w_8)
  (HCall Try.prog 29 [v11] w_8 fun v56 w_9 =>
  HMin v7 v14 fun v59 =>
  HBin .neq v56 v59 fun v60 =>
  HIf v60
  (R (.bool false) w_9)
  (HBin .add v7 (.int .i64 1) fun v23 =>
  I [v23] w_9 ∧ μ [v23] w_9 < μ [v7] w_4))))
  (HCall Try.prog 26 [v11] w_7 fun v48_1 w_10 =>
  HBin .geq v7 v14 fun v51_1 =>
  HEq .bool true v48_1 v51_1 fun v52_1 =>
  HIf v52_1
  (R (.bool false) w_10)
  (HCall Try.prog 29 [v11] w_10 fun v56_1 w_11 =>
  HMin v7 v14 fun v59_1 =>
  HBin .neq v56_1 v59_1 fun v60_1 =>
  HIf v60_1
  (R (.bool false) w_11)
  (HBin .add v7 (.int .i64 1) fun v23_1 =>
  I [v23_1] w_11 ∧ μ [v23_1] w_11 < μ [v7] w_4)))))
  (HBin .add v14 (.int .i64 1) fun v63 =>
  HBin .quo v63 (.int .i64 2) fun v64 =>
  HLenS v1 fun v66 =>
  HBin .mul v64 v66 fun v67 =>
  HBin .sub v14 (.int .i64 1) fun v69 =>
  HBin .quo v69 (.int .i64 2) fun v70 =>
  HLenS v1 fun v72 =>
  HBin .mul v70 v72 fun v73 =>
  HCall Try.prog 30 [v11, (.int .i64 0)] w_4 fun v75 w_12 =>
  HBin .neq v75 v67 fun v77 =>
  HIf v77
  (R (.bool false) w_12)
  (HCall Try.prog 25 [v11, (.int .i64 0)] w_12 fun v80 w_13 =>
  HBin .neq v80 v73 fun v82 =>
  HIf v82
  (R (.bool false) w_13)
  (HCall Try.prog 24 [v11, (.slice Option.none 0 0)] w_13 fun v85 w_14 =>
  HCall Try.prog 20 [] w_14 fun v86 w_15 =>
  HIf v86
  (HCall Try.prog 30 [v11, (.int .i64 0)] w_15 fun v89 w_16 =>
  HBin .eql v89 v73 fun v91 =>
  HIf v91
  (HCall Try.prog 26 [v11] w_16 fun v95 w_17 =>
  HNot v95 fun v96 =>
  HIf v96
  (HCall Try.prog 14 [v11, (.int .i64 0), v1] w_17 fun v101 w_18 =>
  HBin .eql v101 (.int .i64 0) fun v102 =>
  R v102 w_18)
  (R (.bool false) w_17))
  (R (.bool false) w_16))
  (R (.bool false) w_15)))))
theorem vc5 (v0 : Value) (v1 : Value) (w : World) (R : Value → World → Prop) (h : Vc5 v0 v1 w R) : HCall Try.prog 5 [v0, v1] w R :=
  funP_sound (JL := [(7, [7], [1, 5, 6])]) (JC := [(13, [8], [1, 5, 6, 7])]) Tcall_ok mixed_ok Try.func5 (by kernel_rfl) (by kernel_rfl)
    (((by kernel_rfl : funP Try.prog Tcall [(7, [7], [1, 5, 6])] [(13, [8], [1, 5, 6, 7])] Try.f5 [v0, v1] w R = Vc5 v0 v1 w R)).mpr h)

-- qanatlaw04.DiskCuts
def Vc6 (v0 : Value) (v1 : Value) (v2 : Value) (w : World) (R : Value → World → Prop) : Prop :=
  HCall Try.prog 12 [] w fun v16 w_1 =>
  HEq (.pointer 81) false v16 (.pointer Option.none) fun v18 =>
  HIf v18
  (R (.bool false) w_1)
  (HCall Try.prog 14 [v16, (.int .i64 1), v0] w_1 fun v22 w_2 =>
  HBin .neq v22 (.int .i64 0) fun v23 =>
  HIf v23
  (R (.bool false) w_2)
  (HCall Try.prog 23 [v16, (.int .i64 1)] w_2 fun v27 w_3 =>
  HBin .neq v27 (.int .i64 0) fun v28 =>
  HIf v28
  (R (.bool false) w_3)
  (HCall Try.prog 14 [v16, (.int .i64 1), v1] w_3 fun v33 w_4 =>
  HBin .neq v33 (.int .i64 0) fun v34 =>
  HIf v34
  (R (.bool false) w_4)
  (HRq Try.prog (convert 22 9 v0) w_4 fun v37 =>
  HRq Try.prog (convert 22 9 v1) w_4 fun v39 =>
  HBin .add v37 v39 fun v40 =>
  HLenT v40 fun v43 =>
  HBin .add v43 (.int .i64 1) fun v44 =>
  HCall Try.prog 27 [v2, v44] w_4 fun v45 w_5 =>
  HLenT v40 fun v48 =>
  HBin .add v48 (.int .i64 1) fun v49 =>
  HCall Try.prog 31 [v16, (.int .i64 1), v49] w_5 fun v50 w_6 =>
  HBin .neq v50 (.int .i64 1) fun v51 =>
  HIf v51
  (R (.bool false) w_6)
  (HCall Try.prog 31 [v16, (.int .i64 1), (.int .i64 (-1))] w_6 fun v54 w_7 =>
  HBin .neq v54 (.int .i64 1) fun v55 =>
  HIf v55
  (R (.bool false) w_7)
  (HCall Try.prog 31 [v16, (.int .i64 2), (.int .i64 (-1))] w_7 fun v59 w_8 =>
  HBin .neq v59 (.int .i64 5) fun v60 =>
  HIf v60
  (R (.bool false) w_8)
  (HCall Try.prog 31 [v16, (.int .i64 1), v45] w_8 fun v65 w_9 =>
  HBin .neq v65 (.int .i64 0) fun v66 =>
  HIf v66
  (R (.bool false) w_9)
  (HCall Try.prog 25 [v16, (.int .i64 1)] w_9 fun v70 w_10 =>
  HLenS v0 fun v73 =>
  HMin v45 v73 fun v74 =>
  HBin .neq v70 v74 fun v75 =>
  HIf v75
  (R (.bool false) w_10)
  (HCall Try.prog 14 [v16, (.int .i64 1), v1] w_10 fun v79 w_11 =>
  HCall Try.prog 17 [v16, (.int .i64 1)] w_11 fun v82 w_12 =>
  HExt 0 v82 fun v83 =>
  HExt 1 v82 fun v84 =>
  HDraw w_12 fun w_13 =>
  HBin .neq v79 (.int .i64 0) fun v86 =>
  HIf v86
  (R (.bool false) w_13)
  (HNot v84 fun v89 =>
  HIf v89
  (R (.bool false) w_13)
  (HRq Try.prog (convert 22 9 v83) w_13 fun v93 =>
  HSlS v40 none (some v45) fun v96 =>
  HRq Try.prog (convert 22 9 v1) w_13 fun v98 =>
  HBin .add v96 v98 fun v99 =>
  HBin .neq v93 v99 fun v100 =>
  HIf v100
  (R (.bool false) w_13)
  (HCall Try.prog 32 [v16, (.int .i64 1)] w_13 fun v104 w_14 =>
  HBin .neq v104 (.int .i64 0) fun v105 =>
  HIf v105
  (R (.bool false) w_14)
  (HCall Try.prog 32 [v16, (.int .i64 1)] w_14 fun v109 w_15 =>
  HBin .neq v109 (.int .i64 5) fun v110 =>
  HIf v110
  (R (.bool false) w_15)
  (HCall Try.prog 23 [v16, (.int .i64 1)] w_15 fun v114 w_16 =>
  HBin .neq v114 (.int .i64 5) fun v115 =>
  HIf v115
  (R (.bool false) w_16)
  (HCall Try.prog 14 [v16, (.int .i64 1), v0] w_16 fun v119 w_17 =>
  HCall Try.prog 17 [v16, (.int .i64 1)] w_17 fun v122 w_18 =>
  HExt 0 v122 fun v123 =>
  HExt 1 v122 fun v124 =>
  HCall Try.prog 20 [] w_18 fun v125 w_19 =>
  HIf v125
  (HBin .eql v119 (.int .i64 0) fun v128 =>
  HIf v128
  (HCall Try.prog 21 [v123, v0] w_19 fun v133 w_20 =>
  HIf v133
  (HCall Try.prog 25 [v16, (.int .i64 1)] w_20 fun v137 w_21 =>
  HBin .eql v137 (.int .i64 0) fun v138 =>
  HIf v138
  (HCall Try.prog 14 [v16, (.int .i64 (-1)), v0] w_21 fun v143 w_22 =>
  HBin .eql v143 (.int .i64 1) fun v144 =>
  HIf v144
  (HCall Try.prog 14 [v16, (.int .i64 16384), v0] w_22 fun v149 w_23 =>
  HBin .eql v149 (.int .i64 1) fun v150 =>
  R v150 w_23)
  (R (.bool false) w_22))
  (R (.bool false) w_21))
  (R (.bool false) w_20))
  (R (.bool false) w_19))
  (R (.bool false) w_19))))))))))))))))
theorem vc6 (v0 : Value) (v1 : Value) (v2 : Value) (w : World) (R : Value → World → Prop) (h : Vc6 v0 v1 v2 w R) : HCall Try.prog 6 [v0, v1, v2] w R :=
  funP_sound (JL := []) (JC := []) Tcall_ok mixed_ok Try.func6 (by kernel_rfl) (by kernel_rfl)
    (((by kernel_rfl : funP Try.prog Tcall [] [] Try.f6 [v0, v1, v2] w R = Vc6 v0 v1 v2 w R)).mpr h)

-- qanatlaw04.DiskPlays
def Vc7 (v0 : Value) (w : World) (R : Value → World → Prop) : Prop :=
  HCall Try.prog 12 [] w fun v8 w_1 =>
  HBld [.slice none 0 0, .int .i64 0, .bool false, .int .i64 0] [] fun v9 =>
  ∃ cs : List Value, v9 = .agg cs.toArray ∧ HNew cs 52 w_1 fun v10 w_2 =>
  HEq (.pointer 81) false v8 (.pointer Option.none) fun v12 =>
  HIf v12
  (R (.bool false) w_2)
  (∃ (I : List Value → World → Prop) (μ : List Value → World → Nat), I [(.int .i64 0)] w_2 ∧
  ∀ (v5 : Value) w_3, I [v5] w_3 →
  HLenS v0 fun v15 =>
  HBin .lss v5 v15 fun v16 =>
  HIf v16
  (HBin .lss v5 (.int .i64 60) fun v19 =>
  HIf v19
  (HIdx 5 v0 v5 fun v27 =>
  HLdN 5 v27 w_3 fun v28 =>
  HCall Try.prog 33 [v8, v10, v28] w_3 fun v29 w_4 =>
  HNot v29 fun v30 =>
  HIf v30
  (R (.bool false) w_4)
  (HCall Try.prog 34 [v8, v10] w_4 fun v34 w_5 =>
  HNot v34 fun v35 =>
  HIf v35
  (R (.bool false) w_5)
  (HBin .add v5 (.int .i64 1) fun v22 =>
  I [v22] w_5 ∧ μ [v22] w_5 < μ [v5] w_3)))
  (HCall Try.prog 17 [v8, (.int .i64 (-1))] w_3 fun v39 w_6 =>
  HExt 0 v39 fun v40 =>
  HExt 1 v39 fun v41 =>
  HCall Try.prog 20 [] w_6 fun v42 w_7 =>
  HIf v42
  (HNot v41 fun v45 =>
  HIf v45
  (HCall Try.prog 30 [v8, (.int .i64 16384)] w_7 fun v49 w_8 =>
  HBin .eql v49 (.int .i64 (-1)) fun v50 =>
  HIf v50
  (HCall Try.prog 25 [v8, (.int .i64 (-5))] w_8 fun v54 w_9 =>
  HBin .eql v54 (.int .i64 (-1)) fun v55 =>
  R v55 w_9)
  (R (.bool false) w_8))
  (R (.bool false) w_7))
  (R (.bool false) w_7)))
  (HCall Try.prog 17 [v8, (.int .i64 (-1))] w_3 fun v39_1 w_10 =>
  HExt 0 v39_1 fun v40_1 =>
  HExt 1 v39_1 fun v41_1 =>
  HCall Try.prog 20 [] w_10 fun v42_1 w_11 =>
  HIf v42_1
  (HNot v41_1 fun v45_1 =>
  HIf v45_1
  (HCall Try.prog 30 [v8, (.int .i64 16384)] w_11 fun v49_1 w_12 =>
  HBin .eql v49_1 (.int .i64 (-1)) fun v50_1 =>
  HIf v50_1
  (HCall Try.prog 25 [v8, (.int .i64 (-5))] w_12 fun v54_1 w_13 =>
  HBin .eql v54_1 (.int .i64 (-1)) fun v55_1 =>
  R v55_1 w_13)
  (R (.bool false) w_12))
  (R (.bool false) w_11))
  (R (.bool false) w_11)))
theorem vc7 (v0 : Value) (w : World) (R : Value → World → Prop) (h : Vc7 v0 w R) : HCall Try.prog 7 [v0] w R :=
  funP_sound (JL := [(6, [5], [0, 3, 4])]) (JC := []) Tcall_ok mixed_ok Try.func7 (by kernel_rfl) (by kernel_rfl)
    (((by kernel_rfl : funP Try.prog Tcall [(6, [5], [0, 3, 4])] [] Try.f7 [v0] w R = Vc7 v0 w R)).mpr h)

-- disk.New
def Vc12 (w : World) (R : Value → World → Prop) : Prop :=
  HBld [.map none, .bool false, .int .i64 0, .int .i64 0] [(0, 1, (.map (some w.heap.size)))] fun v2 =>
  ∃ cs : List Value, v2 = .agg cs.toArray ∧ HNew cs 81 (w.alloc (.map #[] 0)) fun v3 w_1 =>
  R v3 w_1
theorem vc12 (w : World) (R : Value → World → Prop) (h : Vc12 w R) : HCall Try.prog 12 [] w R :=
  funP_sound (JL := []) (JC := []) Tcall_ok mixed_ok Try.func12 (by kernel_rfl) (by kernel_rfl)
    (((by kernel_rfl : funP Try.prog Tcall [] [] Try.f12 [] w R = Vc12 w R)).mpr h)

-- qanathelp.Own[byte]
def Vc13 (v0 : Value) (v1 : Value) (w : World) (R : Value → World → Prop) : Prop :=
  HBldS (zrow [.int .u8 0] 0) [] 5 0 w fun v6 w_1 =>
  HApp 1 1 [.int .u8 0] 5 v6 v0 w_1 fun v8 w_2 =>
  HBldS (zrow [.int .u8 0] 3) [(0, 1, v1), (1, 1, v1), (2, 1, v1)] 5 3 w_2 fun v13 w_3 =>
  HApp 1 1 [.int .u8 0] 5 v8 v13 w_3 fun v14 w_4 =>
  HLenS v14 fun v17 =>
  HBin .sub v17 (.int .i64 3) fun v18 =>
  HLenS v14 fun v20 =>
  HSl 1 v14 none (some v18) (some v20) fun v21 =>
  R v21 w_4
theorem vc13 (v0 : Value) (v1 : Value) (w : World) (R : Value → World → Prop) (h : Vc13 v0 v1 w R) : HCall Try.prog 13 [v0, v1] w R :=
  funP_sound (JL := []) (JC := []) Tcall_ok mixed_ok Try.func13 (by kernel_rfl) (by kernel_rfl)
    (((by kernel_rfl : funP Try.prog Tcall [] [] Try.f13 [v0, v1] w R = Vc13 v0 v1 w R)).mpr h)

-- disk.Disk.Append
def Vc14 (v0 : Value) (v1 : Value) (v2 : Value) (w : World) (R : Value → World → Prop) : Prop :=
  HCall Try.prog 46 [v0, v1] w fun v11 w_1 =>
  HBin .neq v11 (.int .i64 0) fun v13 =>
  HIf v13
  (R v11 w_1)
  (HNil v0 fun v16 =>
  HFld 0 v16 fun v17 =>
  HLd v17 w_1 fun v18 =>
  HRq Try.prog (Instr.lookup 79 v18 v1 false) w_1 fun v20 =>
  HEq (.pointer 84) false v20 (.pointer Option.none) fun v22 =>
  HIf v22
  (HBld [.slice none 0 0, .int .i64 0] [] fun v23 =>
  ∃ cs : List Value, v23 = .agg cs.toArray ∧ HNew cs 84 w_1 fun v24 w_2 =>
  HNil v0 fun v26 =>
  HFld 0 v26 fun v27 =>
  HLd v27 w_2 fun v28 =>
  HRun Try.prog (do Instr.mapUpdate 79 v28 v1 v24; pure undef) w_2 fun u w_3 =>
  HNil v24 fun v33 =>
  HFld 0 v33 fun v34 =>
  HLd v34 w_3 fun v35 =>
  HApp 1 1 [.int .u8 0] 5 v35 v2 w_3 fun v37 w_4 =>
  HNil v24 fun v38 =>
  HFld 0 v38 fun v39 =>
  HSt v39 v37 w_4 fun w_5 =>
  HCall Try.prog 47 [v0] w_5 fun v41 w_6 =>
  R v41 w_6)
  (HNil v20 fun v33_1 =>
  HFld 0 v33_1 fun v34_1 =>
  HLd v34_1 w_1 fun v35_1 =>
  HApp 1 1 [.int .u8 0] 5 v35_1 v2 w_1 fun v37_1 w_7 =>
  HNil v20 fun v38_1 =>
  HFld 0 v38_1 fun v39_1 =>
  HSt v39_1 v37_1 w_7 fun w_8 =>
  HCall Try.prog 47 [v0] w_8 fun v41_1 w_9 =>
  R v41_1 w_9))
theorem vc14 (v0 : Value) (v1 : Value) (v2 : Value) (w : World) (R : Value → World → Prop) (h : Vc14 v0 v1 v2 w R) : HCall Try.prog 14 [v0, v1, v2] w R :=
  funP_sound (JL := []) (JC := []) Tcall_ok mixed_ok Try.func14 (by kernel_rfl) (by kernel_rfl)
    (((by kernel_rfl : funP Try.prog Tcall [] [] Try.f14 [v0, v1, v2] w R = Vc14 v0 v1 v2 w R)).mpr h)

-- qanathelp.Kept[byte]
def Vc15 (v0 : Value) (v1 : Value) (v2 : Value) (w : World) (R : Value → World → Prop) : Prop :=
  HCall Try.prog 48 [v0, v1] w fun v11 w_1 =>
  HNot v11 fun v12 =>
  HIf v12
  (R (.bool false) w_1)
  (HRq Try.prog (Builtin.cap_ #[22] 3 [v0].toArray) w_1 fun v15 =>
  HLenS v1 fun v17 =>
  HBin .add v17 (.int .i64 3) fun v18 =>
  HBin .lss v15 v18 fun v19 =>
  HIf v19
  (R (.bool false) w_1)
  (HLenS v1 fun v23 =>
  HBin .add v23 (.int .i64 3) fun v24 =>
  HSl 1 v0 none (some v24) none fun v25 =>
  HLenS v1 fun v27 =>
  ∃ (I : List Value → World → Prop) (μ : List Value → World → Nat), I [v27] w_1 ∧
  ∀ (v8 : Value) w_2, I [v8] w_2 →
  HLenS v25 fun v30 =>
  HBin .lss v8 v30 fun v31 =>
  HIf v31
  (HIdx 1 v25 v8 fun v36 =>
  HLd v36 w_2 fun v37 =>
  HBin .neq v37 v2 fun v39 =>
  HIf v39
  (R (.bool false) w_2)
  (HBin .add v8 (.int .i64 1) fun v33 =>
  I [v33] w_2 ∧ μ [v33] w_2 < μ [v8] w_2))
  (R (.bool true) w_2)))
theorem vc15 (v0 : Value) (v1 : Value) (v2 : Value) (w : World) (R : Value → World → Prop) (h : Vc15 v0 v1 v2 w R) : HCall Try.prog 15 [v0, v1, v2] w R :=
  funP_sound (JL := [(5, [8], [2, 7])]) (JC := []) Tcall_ok mixed_ok Try.func15 (by kernel_rfl) (by kernel_rfl)
    (((by kernel_rfl : funP Try.prog Tcall [(5, [8], [2, 7])] [] Try.f15 [v0, v1, v2] w R = Vc15 v0 v1 v2 w R)).mpr h)

-- qanathelp.Spoil[byte]
def Vc16 (v0 : Value) (w : World) (R : Value → World → Prop) : Prop :=
  ∃ (I : List Value → World → Prop) (μ : List Value → World → Nat), I [(.int .i64 0)] w ∧
  ∀ (v3 : Value) w_1, I [v3] w_1 →
  HLenS v0 fun v6 =>
  HBin .lss v3 v6 fun v7 =>
  HIf v7
  (HIdx 1 v0 v3 fun v13 =>
  HSt v13 (.int .u8 0) w_1 fun w_2 =>
  HBin .add v3 (.int .i64 1) fun v9 =>
  I [v9] w_2 ∧ μ [v9] w_2 < μ [v3] w_1)
  (R (.tuple #[]) w_1)
theorem vc16 (v0 : Value) (w : World) (R : Value → World → Prop) (h : Vc16 v0 w R) : HCall Try.prog 16 [v0] w R :=
  funP_sound (JL := [(2, [3], [0, 2])]) (JC := []) Tcall_ok mixed_ok Try.func16 (by kernel_rfl) (by kernel_rfl)
    (((by kernel_rfl : funP Try.prog Tcall [(2, [3], [0, 2])] [] Try.f16 [v0] w R = Vc16 v0 w R)).mpr h)

-- disk.Disk.Read
def Vc17 (v0 : Value) (v1 : Value) (w : World) (R : Value → World → Prop) : Prop :=
  HNil v0 fun v8 =>
  HFld 0 v8 fun v9 =>
  HLd v9 w fun v10 =>
  HRq Try.prog (Instr.lookup 79 v10 v1 false) w fun v12 =>
  HEq (.pointer 84) false v12 (.pointer Option.none) fun v14 =>
  HIf v14
  (R (.tuple #[(.slice Option.none 0 0), (.bool false)]) w)
  (HNil v12 fun v16 =>
  HFld 0 v16 fun v17 =>
  HLd v17 w fun v18 =>
  HCall Try.prog 49 [v18] w fun v19 w_1 =>
  R (.tuple #[v19, (.bool true)]) w_1)
theorem vc17 (v0 : Value) (v1 : Value) (w : World) (R : Value → World → Prop) (h : Vc17 v0 v1 w R) : HCall Try.prog 17 [v0, v1] w R :=
  funP_sound (JL := []) (JC := []) Tcall_ok mixed_ok Try.func17 (by kernel_rfl) (by kernel_rfl)
    (((by kernel_rfl : funP Try.prog Tcall [] [] Try.f17 [v0, v1] w R = Vc17 v0 v1 w R)).mpr h)

-- disk.Disk.Files
def Vc18 (v0 : Value) (w : World) (R : Value → World → Prop) : Prop :=
  HNil v0 fun v4 =>
  HFld 0 v4 fun v5 =>
  HLd v5 w fun v6 =>
  HCall Try.prog 51 [v6] w fun v7 w_1 =>
  HCall Try.prog 50 [v7] w_1 fun v8 w_2 =>
  R v8 w_2
theorem vc18 (v0 : Value) (w : World) (R : Value → World → Prop) (h : Vc18 v0 w R) : HCall Try.prog 18 [v0] w R :=
  funP_sound (JL := []) (JC := []) Tcall_ok mixed_ok Try.func18 (by kernel_rfl) (by kernel_rfl)
    (((by kernel_rfl : funP Try.prog Tcall [] [] Try.f18 [v0] w R = Vc18 v0 w R)).mpr h)

-- qanathelp.Spoil[int]
def Vc19 (v0 : Value) (w : World) (R : Value → World → Prop) : Prop :=
  ∃ (I : List Value → World → Prop) (μ : List Value → World → Nat), I [(.int .i64 0)] w ∧
  ∀ (v3 : Value) w_1, I [v3] w_1 →
  HLenS v0 fun v6 =>
  HBin .lss v3 v6 fun v7 =>
  HIf v7
  (HIdx 1 v0 v3 fun v13 =>
  HSt v13 (.int .i64 0) w_1 fun w_2 =>
  HBin .add v3 (.int .i64 1) fun v9 =>
  I [v9] w_2 ∧ μ [v9] w_2 < μ [v3] w_1)
  (R (.tuple #[]) w_1)
theorem vc19 (v0 : Value) (w : World) (R : Value → World → Prop) (h : Vc19 v0 w R) : HCall Try.prog 19 [v0] w R :=
  funP_sound (JL := [(2, [3], [0, 2])]) (JC := []) Tcall_ok mixed_ok Try.func19 (by kernel_rfl) (by kernel_rfl)
    (((by kernel_rfl : funP Try.prog Tcall [(2, [3], [0, 2])] [] Try.f19 [v0] w R = Vc19 v0 w R)).mpr h)

-- qanatlaw04.awake
def Vc20 (w : World) (R : Value → World → Prop) : Prop :=
  HCall Try.prog 12 [] w fun v4 w_1 =>
  HEq (.pointer 81) false v4 (.pointer Option.none) fun v6 =>
  HIf v6
  (R (.bool false) w_1)
  (HBldS (zrow [.int .u8 0] 3) [(0, 1, (.int .u8 97)), (1, 1, (.int .u8 98)), (2, 1, (.int .u8 99))] 5 3 w_1 fun v9 w_2 =>
  HRun Try.prog (convert 22 22 v9) w_2 fun v10 w_3 =>
  HCall Try.prog 14 [v4, (.int .i64 0), v10] w_3 fun v11 w_4 =>
  HBin .neq v11 (.int .i64 0) fun v12 =>
  HIf v12
  (R (.bool false) w_4)
  (HCall Try.prog 23 [v4, (.int .i64 0)] w_4 fun v16 w_5 =>
  HBin .neq v16 (.int .i64 0) fun v17 =>
  HIf v17
  (R (.bool false) w_5)
  (HBldS (zrow [.int .u8 0] 2) [(0, 1, (.int .u8 100)), (1, 1, (.int .u8 101))] 5 2 w_5 fun v21 w_6 =>
  HRun Try.prog (convert 22 22 v21) w_6 fun v22 w_7 =>
  HCall Try.prog 14 [v4, (.int .i64 0), v22] w_7 fun v23 w_8 =>
  HBin .neq v23 (.int .i64 0) fun v24 =>
  HIf v24
  (R (.bool false) w_8)
  (HBldS (zrow [.int .i64 0] 1) [(0, 1, (.int .i64 1))] 3 1 w_8 fun v27 w_9 =>
  HCall Try.prog 24 [v4, v27] w_9 fun v28 w_10 =>
  HCall Try.prog 17 [v4, (.int .i64 0)] w_10 fun v31 w_11 =>
  HExt 0 v31 fun v32 =>
  HExt 1 v31 fun v33 =>
  HIf v33
  (HRq Try.prog (convert 22 9 v32) w_11 fun v37 =>
  HBin .eql v37 (.string { data := #[97, 98, 99, 100] }) fun v38 =>
  HIf v38
  (HCall Try.prog 30 [v4, (.int .i64 0)] w_11 fun v42 w_12 =>
  HBin .eql v42 (.int .i64 4) fun v43 =>
  HIf v43
  (HCall Try.prog 25 [v4, (.int .i64 0)] w_12 fun v47 w_13 =>
  HBin .eql v47 (.int .i64 4) fun v48 =>
  HIf v48
  (HCall Try.prog 30 [v4, (.int .i64 1)] w_13 fun v52 w_14 =>
  HBin .eql v52 (.int .i64 (-1)) fun v53 =>
  HIf v53
  (HCall Try.prog 29 [v4] w_14 fun v57 w_15 =>
  HBin .eql v57 (.int .i64 3) fun v58 =>
  R v58 w_15)
  (R (.bool false) w_14))
  (R (.bool false) w_13))
  (R (.bool false) w_12))
  (R (.bool false) w_11))
  (R (.bool false) w_11)))))
theorem vc20 (w : World) (R : Value → World → Prop) (h : Vc20 w R) : HCall Try.prog 20 [] w R :=
  funP_sound (JL := []) (JC := []) Tcall_ok mixed_ok Try.func20 (by kernel_rfl) (by kernel_rfl)
    (((by kernel_rfl : funP Try.prog Tcall [] [] Try.f20 [] w R = Vc20 w R)).mpr h)

-- qanathelp.Bytes
def Vc21 (v0 : Value) (v1 : Value) (w : World) (R : Value → World → Prop) : Prop :=
  HRq Try.prog (convert 22 9 v0) w fun v6 =>
  HRq Try.prog (convert 22 9 v1) w fun v8 =>
  HBin .eql v6 v8 fun v9 =>
  R v9 w
theorem vc21 (v0 : Value) (v1 : Value) (w : World) (R : Value → World → Prop) (h : Vc21 v0 v1 w R) : HCall Try.prog 21 [v0, v1] w R :=
  funP_sound (JL := []) (JC := []) Tcall_ok mixed_ok Try.func21 (by kernel_rfl) (by kernel_rfl)
    (((by kernel_rfl : funP Try.prog Tcall [] [] Try.f21 [v0, v1] w R = Vc21 v0 v1 w R)).mpr h)

-- qanathelp.Plain[int]
def Vc22 (v0 : Value) (v1 : Value) (w : World) (R : Value → World → Prop) : Prop :=
  HCall Try.prog 52 [v0, v1, (.func (.func 53) #[] #[])] w fun v7 w_1 =>
  R v7 w_1
theorem vc22 (v0 : Value) (v1 : Value) (w : World) (R : Value → World → Prop) (h : Vc22 v0 v1 w R) : HCall Try.prog 22 [v0, v1] w R :=
  funP_sound (JL := []) (JC := []) Tcall_ok mixed_ok Try.func22 (by kernel_rfl) (by kernel_rfl)
    (((by kernel_rfl : funP Try.prog Tcall [] [] Try.f22 [v0, v1] w R = Vc22 v0 v1 w R)).mpr h)

-- disk.Disk.Sync
def Vc23 (v0 : Value) (v1 : Value) (w : World) (R : Value → World → Prop) : Prop :=
  HCall Try.prog 54 [v0, v1] w fun v10 w_1 =>
  HExt 0 v10 fun v11 =>
  HExt 1 v10 fun v12 =>
  HBin .eql v12 (.int .i64 0) fun v14 =>
  HIf v14
  (HCall Try.prog 47 [v0] w_1 fun v16 w_2 =>
  HBin .eql v16 (.int .i64 0) fun v18 =>
  HIf v18
  (HNil v11 fun v21 =>
  HFld 0 v21 fun v22 =>
  HLd v22 w_2 fun v23 =>
  HLenS v23 fun v24 =>
  HNil v11 fun v25 =>
  HFld 1 v25 fun v26 =>
  HSt v26 v24 w_2 fun w_3 =>
  R v16 w_3)
  (R v16 w_2))
  (HBin .eql v12 (.int .i64 0) fun v18_1 =>
  HIf v18_1
  (HNil v11 fun v21_1 =>
  HFld 0 v21_1 fun v22_1 =>
  HLd v22_1 w_1 fun v23_1 =>
  HLenS v23_1 fun v24_1 =>
  HNil v11 fun v25_1 =>
  HFld 1 v25_1 fun v26_1 =>
  HSt v26_1 v24_1 w_1 fun w_4 =>
  R v12 w_4)
  (R v12 w_1))
theorem vc23 (v0 : Value) (v1 : Value) (w : World) (R : Value → World → Prop) (h : Vc23 v0 v1 w R) : HCall Try.prog 23 [v0, v1] w R :=
  funP_sound (JL := []) (JC := []) Tcall_ok mixed_ok Try.func23 (by kernel_rfl) (by kernel_rfl)
    (((by kernel_rfl : funP Try.prog Tcall [] [] Try.f23 [v0, v1] w R = Vc23 v0 v1 w R)).mpr h)

-- disk.Disk.Crash
def Vc24 (v0 : Value) (v1 : Value) (w : World) (R : Value → World → Prop) : Prop :=
  HCall Try.prog 18 [v0] w fun v9 w_1 =>
  HLenS v9 fun v10 =>
  ∃ (I : List Value → World → Prop) (μ : List Value → World → Nat), I [(.int .i64 0)] w_1 ∧
  ∀ (v11 : Value) w_2, I [v11] w_2 →
  HBin .lss v11 v10 fun v12 =>
  HIf v12
  (HIdx 1 v9 v11 fun v14 =>
  HLd v14 w_2 fun v15 =>
  HNil v0 fun v17 =>
  HFld 0 v17 fun v18 =>
  HLd v18 w_2 fun v19 =>
  HRq Try.prog (Instr.lookup 79 v19 v15 false) w_2 fun v21 =>
  ∃ I_1 : List Value → World → Prop, (HLenS v1 fun v24 =>
  HBin .lss v11 v24 fun v25 =>
  HIf v25
  (HIdx 1 v1 v11 fun v29 =>
  HLd v29 w_2 fun v30 =>
  HBin .gtr v30 (.int .i64 0) fun v31 =>
  HIf v31
  (HDraw w_2 fun w_3 =>
  HIdx 1 v1 v11 fun v35 =>
  HLd v35 w_3 fun v36 =>
  HNil v21 fun v38 =>
  HFld 0 v38 fun v39 =>
  HLd v39 w_3 fun v40 =>
  HLenS v40 fun v41 =>
  HNil v21 fun v43 =>
  HFld 1 v43 fun v44 =>
  HLd v44 w_3 fun v45 =>
  HBin .sub v41 v45 fun v46 =>
  HBin .add v46 (.int .i64 1) fun v47 =>
  HBin .rem v36 v47 fun v48 =>
  I_1 [v48] w_3)
  (I_1 [(.int .i64 0)] w_2))
  (I_1 [(.int .i64 0)] w_2)) ∧
  ∀ (v7 : Value) w_4, I_1 [v7] w_4 →
  HNil v21 fun v51 =>
  HFld 1 v51 fun v52 =>
  HLd v52 w_4 fun v53 =>
  HBin .add v53 v7 fun v55 =>
  HCall Try.prog 55 [v21, v55] w_4 fun v56 w_5 =>
  HNil v21 fun v59 =>
  HFld 0 v59 fun v60 =>
  HLd v60 w_5 fun v61 =>
  HLenS v61 fun v62 =>
  HNil v21 fun v63 =>
  HFld 1 v63 fun v64 =>
  HSt v64 v62 w_5 fun w_6 =>
  HBin .add v11 (.int .i64 1) fun v65 =>
  I [v65] w_6 ∧ μ [v65] w_6 < μ [v11] w_2)
  (HNil v0 fun v68 =>
  HFld 1 v68 fun v69 =>
  HSt v69 (.bool false) w_2 fun w_7 =>
  HNil v0 fun v70 =>
  HFld 2 v70 fun v71 =>
  HSt v71 (.int .i64 0) w_7 fun w_8 =>
  R (.tuple #[]) w_8)
theorem vc24 (v0 : Value) (v1 : Value) (w : World) (R : Value → World → Prop) (h : Vc24 v0 v1 w R) : HCall Try.prog 24 [v0, v1] w R :=
  funP_sound (JL := [(1, [11], [0, 1, 9, 10])]) (JC := [(7, [7], [0, 1, 6, 9, 10, 11])]) Tcall_ok mixed_ok Try.func24 (by kernel_rfl) (by kernel_rfl)
    (((by kernel_rfl : funP Try.prog Tcall [(1, [11], [0, 1, 9, 10])] [(7, [7], [0, 1, 6, 9, 10, 11])] Try.f24 [v0, v1] w R = Vc24 v0 v1 w R)).mpr h)

-- disk.Disk.Synced
def Vc25 (v0 : Value) (v1 : Value) (w : World) (R : Value → World → Prop) : Prop :=
  HNil v0 fun v7 =>
  HFld 0 v7 fun v8 =>
  HLd v8 w fun v9 =>
  HRq Try.prog (Instr.lookup 79 v9 v1 false) w fun v11 =>
  HEq (.pointer 84) true v11 (.pointer Option.none) fun v13 =>
  HIf v13
  (HNil v11 fun v15 =>
  HFld 1 v15 fun v16 =>
  HLd v16 w fun v17 =>
  R v17 w)
  (R (.int .i64 (-1)) w)
theorem vc25 (v0 : Value) (v1 : Value) (w : World) (R : Value → World → Prop) (h : Vc25 v0 v1 w R) : HCall Try.prog 25 [v0, v1] w R :=
  funP_sound (JL := []) (JC := []) Tcall_ok mixed_ok Try.func25 (by kernel_rfl) (by kernel_rfl)
    (((by kernel_rfl : funP Try.prog Tcall [] [] Try.f25 [v0, v1] w R = Vc25 v0 v1 w R)).mpr h)

-- disk.Disk.Down
def Vc26 (v0 : Value) (w : World) (R : Value → World → Prop) : Prop :=
  HNil v0 fun v4 =>
  HFld 1 v4 fun v5 =>
  HLd v5 w fun v6 =>
  R v6 w
theorem vc26 (v0 : Value) (w : World) (R : Value → World → Prop) (h : Vc26 v0 w R) : HCall Try.prog 26 [v0] w R :=
  funP_sound (JL := []) (JC := []) Tcall_ok mixed_ok Try.func26 (by kernel_rfl) (by kernel_rfl)
    (((by kernel_rfl : funP Try.prog Tcall [] [] Try.f26 [v0] w R = Vc26 v0 w R)).mpr h)

-- qanatplay.Mod
def Vc27 (v0 : Value) (v1 : Value) (w : World) (R : Value → World → Prop) : Prop :=
  HCvI .u64 v0 fun v6 =>
  HCvI .u64 v1 fun v8 =>
  HBin .rem v6 v8 fun v9 =>
  HCvI .i64 v9 fun v10 =>
  R v10 w
theorem vc27 (v0 : Value) (v1 : Value) (w : World) (R : Value → World → Prop) (h : Vc27 v0 v1 w R) : HCall Try.prog 27 [v0, v1] w R :=
  funP_sound (JL := []) (JC := []) Tcall_ok mixed_ok Try.func27 (by kernel_rfl) (by kernel_rfl)
    (((by kernel_rfl : funP Try.prog Tcall [] [] Try.f27 [v0, v1] w R = Vc27 v0 v1 w R)).mpr h)

-- disk.Disk.Arm
def Vc28 (v0 : Value) (v1 : Value) (w : World) (R : Value → World → Prop) : Prop :=
  HMax v1 (.int .i64 0) fun v6 =>
  HNil v0 fun v7 =>
  HFld 2 v7 fun v8 =>
  HSt v8 v6 w fun w_1 =>
  R (.tuple #[]) w_1
theorem vc28 (v0 : Value) (v1 : Value) (w : World) (R : Value → World → Prop) (h : Vc28 v0 v1 w R) : HCall Try.prog 28 [v0, v1] w R :=
  funP_sound (JL := []) (JC := []) Tcall_ok mixed_ok Try.func28 (by kernel_rfl) (by kernel_rfl)
    (((by kernel_rfl : funP Try.prog Tcall [] [] Try.f28 [v0, v1] w R = Vc28 v0 v1 w R)).mpr h)

-- disk.Disk.Ops
def Vc29 (v0 : Value) (w : World) (R : Value → World → Prop) : Prop :=
  HNil v0 fun v4 =>
  HFld 3 v4 fun v5 =>
  HLd v5 w fun v6 =>
  R v6 w
theorem vc29 (v0 : Value) (w : World) (R : Value → World → Prop) (h : Vc29 v0 w R) : HCall Try.prog 29 [v0] w R :=
  funP_sound (JL := []) (JC := []) Tcall_ok mixed_ok Try.func29 (by kernel_rfl) (by kernel_rfl)
    (((by kernel_rfl : funP Try.prog Tcall [] [] Try.f29 [v0] w R = Vc29 v0 w R)).mpr h)

-- disk.Disk.Len
def Vc30 (v0 : Value) (v1 : Value) (w : World) (R : Value → World → Prop) : Prop :=
  HNil v0 fun v7 =>
  HFld 0 v7 fun v8 =>
  HLd v8 w fun v9 =>
  HRq Try.prog (Instr.lookup 79 v9 v1 false) w fun v11 =>
  HEq (.pointer 84) true v11 (.pointer Option.none) fun v13 =>
  HIf v13
  (HNil v11 fun v15 =>
  HFld 0 v15 fun v16 =>
  HLd v16 w fun v17 =>
  HLenS v17 fun v18 =>
  R v18 w)
  (R (.int .i64 (-1)) w)
theorem vc30 (v0 : Value) (v1 : Value) (w : World) (R : Value → World → Prop) (h : Vc30 v0 v1 w R) : HCall Try.prog 30 [v0, v1] w R :=
  funP_sound (JL := []) (JC := []) Tcall_ok mixed_ok Try.func30 (by kernel_rfl) (by kernel_rfl)
    (((by kernel_rfl : funP Try.prog Tcall [] [] Try.f30 [v0, v1] w R = Vc30 v0 v1 w R)).mpr h)

-- disk.Disk.Cut
def Vc31 (v0 : Value) (v1 : Value) (v2 : Value) (w : World) (R : Value → World → Prop) : Prop :=
  HCall Try.prog 54 [v0, v1] w fun v12 w_1 =>
  HExt 0 v12 fun v13 =>
  HExt 1 v12 fun v14 =>
  ∃ I : List Value → World → Prop, (HBin .eql v14 (.int .i64 0) fun v16 =>
  HIf v16
  (HBin .lss v2 (.int .i64 0) fun v19 =>
  HIf v19
  (I [(.int .i64 1)] w_1)
  (HNil v13 fun v23 =>
  HFld 0 v23 fun v24 =>
  HLd v24 w_1 fun v25 =>
  HLenS v25 fun v26 =>
  HBin .gtr v2 v26 fun v27 =>
  HIf v27
  (I [(.int .i64 1)] w_1)
  (I [v14] w_1)))
  (I [v14] w_1)) ∧
  ∀ (v8 : Value) w_2, I [v8] w_2 →
  HBin .eql v8 (.int .i64 0) fun v31 =>
  HIf v31
  (HCall Try.prog 47 [v0] w_2 fun v33 w_3 =>
  HBin .eql v33 (.int .i64 0) fun v35 =>
  HIf v35
  (HCall Try.prog 55 [v13, v2] w_3 fun v38 w_4 =>
  R v33 w_4)
  (R v33 w_3))
  (HBin .eql v8 (.int .i64 0) fun v35_1 =>
  HIf v35_1
  (HCall Try.prog 55 [v13, v2] w_2 fun v38_1 w_5 =>
  R v8 w_5)
  (R v8 w_2))
theorem vc31 (v0 : Value) (v1 : Value) (v2 : Value) (w : World) (R : Value → World → Prop) (h : Vc31 v0 v1 v2 w R) : HCall Try.prog 31 [v0, v1, v2] w R :=
  funP_sound (JL := []) (JC := [(4, [8], [0, 2, 7])]) Tcall_ok mixed_ok Try.func31 (by kernel_rfl) (by kernel_rfl)
    (((by kernel_rfl : funP Try.prog Tcall [] [(4, [8], [0, 2, 7])] Try.f31 [v0, v1, v2] w R = Vc31 v0 v1 v2 w R)).mpr h)

-- disk.Disk.Remove
def Vc32 (v0 : Value) (v1 : Value) (w : World) (R : Value → World → Prop) : Prop :=
  HCall Try.prog 54 [v0, v1] w fun v10 w_1 =>
  HExt 0 v10 fun v11 =>
  HExt 1 v10 fun v12 =>
  HBin .eql v12 (.int .i64 0) fun v14 =>
  HIf v14
  (HCall Try.prog 47 [v0] w_1 fun v16 w_2 =>
  HBin .eql v16 (.int .i64 0) fun v18 =>
  HIf v18
  (HNil v0 fun v20 =>
  HFld 0 v20 fun v21 =>
  HLd v21 w_2 fun v22 =>
  HRun Try.prog (Builtin.delete_ #[79, 3] 0 [v22, v1].toArray) w_2 fun u w_3 =>
  R v16 w_3)
  (R v16 w_2))
  (HBin .eql v12 (.int .i64 0) fun v18_1 =>
  HIf v18_1
  (HNil v0 fun v20_1 =>
  HFld 0 v20_1 fun v21_1 =>
  HLd v21_1 w_1 fun v22_1 =>
  HRun Try.prog (Builtin.delete_ #[79, 3] 0 [v22_1, v1].toArray) w_1 fun u_1 w_4 =>
  R v12 w_4)
  (R v12 w_1))
theorem vc32 (v0 : Value) (v1 : Value) (w : World) (R : Value → World → Prop) (h : Vc32 v0 v1 w R) : HCall Try.prog 32 [v0, v1] w R :=
  funP_sound (JL := []) (JC := []) Tcall_ok mixed_ok Try.func32 (by kernel_rfl) (by kernel_rfl)
    (((by kernel_rfl : funP Try.prog Tcall [] [] Try.f32 [v0, v1] w R = Vc32 v0 v1 w R)).mpr h)

-- qanatlaw04.do
def Vc33 (v0 : Value) (v1 : Value) (v2 : Value) (w : World) (R : Value → World → Prop) : Prop :=
  ∃ cs : List Value, v2 = .agg cs.toArray ∧ HNew cs 55 w fun v5 w_1 =>
  HLdN 5 v5 w_1 fun v11 =>
  HCall Try.prog 56 [v11] w_1 fun v12 w_2 =>
  HFld 0 v5 fun v13 =>
  HLd v13 w_2 fun v14 =>
  HCall Try.prog 27 [v14, (.int .i64 10)] w_2 fun v15 w_3 =>
  HBin .lss v15 (.int .i64 4) fun v18 =>
  HIf v18
  (HDraw w_3 fun w_4 =>
  HFld 3 v5 fun v21 =>
  HLd v21 w_4 fun v22 =>
  HFld 3 v5 fun v26 =>
  HLd v26 w_4 fun v27 =>
  HCall Try.prog 14 [v0, v12, v22] w_4 fun v23 w_5 =>
  HLd v26 w_5 fun v27_1 =>
  v27_1 = v27 ∧
  HCall Try.prog 57 [v1, v12, v27] w_5 fun v28 w_6 =>
  HBin .eql v23 v28 fun v29 =>
  R v29 w_6)
  (HBin .lss v15 (.int .i64 6) fun v32 =>
  HIf v32
  (HCall Try.prog 23 [v0, v12] w_3 fun v35 w_7 =>
  HCall Try.prog 58 [v1, v12] w_7 fun v38 w_8 =>
  HBin .eql v35 v38 fun v39 =>
  R v39 w_8)
  (HBin .eql v15 (.int .i64 6) fun v42 =>
  HIf v42
  (HFld 2 v5 fun v43 =>
  HLd v43 w_3 fun v44 =>
  ∃ I : List Value → World → Prop, (HBin .geq v44 (.int .i64 0) fun v46 =>
  HIf v46
  (HBin .rem v44 (.int .i64 5) fun v49 =>
  HBin .gtr v49 (.int .i64 0) fun v50 =>
  HIf v50
  (HCall Try.prog 59 [v1, v12] w_3 fun v55 w_9 =>
  HBin .gtr v55 (.int .i64 0) fun v56 =>
  HIf v56
  (HCall Try.prog 59 [v1, v12] w_9 fun v61 w_10 =>
  HBin .add v61 (.int .i64 1) fun v62 =>
  HBin .rem v44 v62 fun v63 =>
  I [v63] w_10)
  (I [v44] w_9))
  (I [v44] w_3))
  (I [v44] w_3)) ∧
  ∀ (v9 : Value) w_11, I [v9] w_11 →
  HCall Try.prog 31 [v0, v12, v9] w_11 fun v67 w_12 =>
  HCall Try.prog 60 [v1, v12, v9] w_12 fun v71 w_13 =>
  HBin .eql v67 v71 fun v72 =>
  R v72 w_13)
  (HBin .eql v15 (.int .i64 7) fun v75 =>
  HIf v75
  (HCall Try.prog 32 [v0, v12] w_3 fun v78 w_14 =>
  HCall Try.prog 61 [v1, v12] w_14 fun v81 w_15 =>
  HBin .eql v78 v81 fun v82 =>
  R v82 w_15)
  (HBin .eql v15 (.int .i64 8) fun v85 =>
  HIf v85
  (HFld 2 v5 fun v86 =>
  HLd v86 w_3 fun v87 =>
  HBin .gtr v87 (.int .i64 0) fun v89 =>
  HIf v89
  (HBin .rem v87 (.int .i64 9) fun v91 =>
  HCall Try.prog 28 [v0, v91] w_3 fun v94 w_16 =>
  HCall Try.prog 62 [v1, v91] w_16 fun v97 w_17 =>
  R (.bool true) w_17)
  (HCall Try.prog 28 [v0, v87] w_3 fun v94_1 w_18 =>
  HCall Try.prog 62 [v1, v87] w_18 fun v97_1 w_19 =>
  R (.bool true) w_19))
  (HFld 4 v5 fun v99 =>
  HLd v99 w_3 fun v100 =>
  HCall Try.prog 24 [v0, v100] w_3 fun v101 w_20 =>
  HFld 4 v5 fun v103 =>
  HLd v103 w_20 fun v104 =>
  HCall Try.prog 63 [v1, v104] w_20 fun v105 w_21 =>
  R (.bool true) w_21)))))
theorem vc33 (v0 : Value) (v1 : Value) (v2 : Value) (w : World) (R : Value → World → Prop) (h : Vc33 v0 v1 v2 w R) : HCall Try.prog 33 [v0, v1, v2] w R :=
  funP_sound (JL := []) (JC := [(11, [9], [0, 1, 7])]) Tcall_ok mixed_ok Try.func33 (by kernel_rfl) (by kernel_rfl)
    (((by kernel_rfl : funP Try.prog Tcall [] [(11, [9], [0, 1, 7])] Try.f33 [v0, v1, v2] w R = Vc33 v0 v1 v2 w R)).mpr h)

-- qanatlaw04.alike
def Vc34 (v0 : Value) (v1 : Value) (w : World) (R : Value → World → Prop) : Prop :=
  HCall Try.prog 18 [v0] w fun v11 w_1 =>
  HDraw w_1 fun w_2 =>
  HLenS v11 fun v13 =>
  HNil v1 fun v15 =>
  HFld 0 v15 fun v16 =>
  HLd v16 w_2 fun v17 =>
  HLenS v17 fun v18 =>
  HBin .neq v13 v18 fun v19 =>
  HIf v19
  (R (.bool false) w_2)
  (HNil v1 fun v24 =>
  HFld 2 v24 fun v25 =>
  HLd v25 w_2 fun v26 =>
  HCall Try.prog 26 [v0] w_2 fun v22 w_3 =>
  HLd v25 w_3 fun v26_1 =>
  v26_1 = v26 ∧
  HEq .bool true v22 v26 fun v27 =>
  HIf v27
  (R (.bool false) w_3)
  (HNil v1 fun v33 =>
  HFld 3 v33 fun v34 =>
  HLd v34 w_3 fun v35 =>
  HCall Try.prog 29 [v0] w_3 fun v31 w_4 =>
  HLd v34 w_4 fun v35_1 =>
  v35_1 = v35 ∧
  HBin .neq v31 v35 fun v36 =>
  HIf v36
  (R (.bool false) w_4)
  (∃ (I : List Value → World → Prop) (μ : List Value → World → Nat), I [(.int .i64 0)] w_4 ∧
  ∀ (v6 : Value) w_5, I [v6] w_5 →
  HLenS v11 fun v40 =>
  HBin .lss v6 v40 fun v41 =>
  HIf v41
  (HIdx 1 v11 v6 fun v48 =>
  HLd v48 w_5 fun v49 =>
  HCall Try.prog 17 [v0, v49] w_5 fun v50 w_6 =>
  HExt 0 v50 fun v51 =>
  HExt 1 v50 fun v52 =>
  HNil v1 fun v54 =>
  HFld 0 v54 fun v55 =>
  HLd v55 w_6 fun v56 =>
  HIdx 3 v56 v6 fun v58 =>
  HLdN 3 v58 w_6 fun v59 =>
  HNew [.int .i64 0, .int .i64 0, .slice none 0 0] 97 w_6 fun v9 w_7 =>
  HStN 3 v9 v59 w_7 fun w_8 =>
  HDraw w_8 fun w_9 =>
  HIdx 1 v11 v6 fun v62 =>
  HLd v62 w_9 fun v63 =>
  HFld 0 v9 fun v64 =>
  HLd v64 w_9 fun v65 =>
  HBin .neq v63 v65 fun v66 =>
  HIf v66
  (R (.bool false) w_9)
  (HNot v52 fun v69 =>
  HIf v69
  (R (.bool false) w_9)
  (HFld 2 v9 fun v73 =>
  HLd v73 w_9 fun v74 =>
  HCall Try.prog 21 [v51, v74] w_9 fun v75 w_10 =>
  HNot v75 fun v76 =>
  HIf v76
  (R (.bool false) w_10)
  (HFld 0 v9 fun v80 =>
  HLd v80 w_10 fun v81 =>
  HFld 2 v9 fun v83 =>
  HLd v83 w_10 fun v84 =>
  HLenS v84 fun v85 =>
  HCall Try.prog 30 [v0, v81] w_10 fun v82 w_11 =>
  HLd v83 w_11 fun v84_1 =>
  v84_1 = v84 ∧
  HBin .neq v82 v85 fun v86 =>
  HIf v86
  (R (.bool false) w_11)
  (HFld 0 v9 fun v90 =>
  HLd v90 w_11 fun v91 =>
  HFld 1 v9 fun v93 =>
  HLd v93 w_11 fun v94 =>
  HCall Try.prog 25 [v0, v91] w_11 fun v92 w_12 =>
  HLd v93 w_12 fun v94_1 =>
  v94_1 = v94 ∧
  HBin .neq v92 v94 fun v95 =>
  HIf v95
  (R (.bool false) w_12)
  (HBin .add v6 (.int .i64 1) fun v43 =>
  I [v43] w_12 ∧ μ [v43] w_12 < μ [v6] w_5))))))
  (R (.bool true) w_5))))
theorem vc34 (v0 : Value) (v1 : Value) (w : World) (R : Value → World → Prop) (h : Vc34 v0 v1 w R) : HCall Try.prog 34 [v0, v1] w R :=
  funP_sound (JL := [(5, [6], [0, 1, 5])]) (JC := []) Tcall_ok mixed_ok Try.func34 (by kernel_rfl) (by kernel_rfl)
    (((by kernel_rfl : funP Try.prog Tcall [(5, [6], [0, 1, 5])] [] Try.f34 [v0, v1] w R = Vc34 v0 v1 w R)).mpr h)

-- disk.Disk.may
def Vc46 (v0 : Value) (v1 : Value) (w : World) (R : Value → World → Prop) : Prop :=
  HNil v0 fun v7 =>
  HFld 1 v7 fun v8 =>
  HLd v8 w fun v9 =>
  HIf v9
  (R (.int .i64 8) w)
  (HBin .lss v1 (.int .i64 0) fun v12 =>
  HIf v12
  (R (.int .i64 1) w)
  (HBin .geq v1 (.int .i64 16384) fun v15 =>
  HIf v15
  (R (.int .i64 1) w)
  (R (.int .i64 0) w)))
theorem vc46 (v0 : Value) (v1 : Value) (w : World) (R : Value → World → Prop) (h : Vc46 v0 v1 w R) : HCall Try.prog 46 [v0, v1] w R :=
  funP_sound (JL := []) (JC := []) Tcall_ok mixed_ok Try.func46 (by kernel_rfl) (by kernel_rfl)
    (((by kernel_rfl : funP Try.prog Tcall [] [] Try.f46 [v0, v1] w R = Vc46 v0 v1 w R)).mpr h)

-- disk.Disk.count
def Vc47 (v0 : Value) (w : World) (R : Value → World → Prop) : Prop :=
  HNil v0 fun v4 =>
  HFld 3 v4 fun v5 =>
  HLd v5 w fun v6 =>
  HBin .add v6 (.int .i64 1) fun v7 =>
  HNil v0 fun v8 =>
  HFld 3 v8 fun v9 =>
  HSt v9 v7 w fun w_1 =>
  HNil v0 fun v11 =>
  HFld 2 v11 fun v12 =>
  HLd v12 w_1 fun v13 =>
  HBin .gtr v13 (.int .i64 0) fun v14 =>
  HIf v14
  (HNil v0 fun v16 =>
  HFld 2 v16 fun v17 =>
  HLd v17 w_1 fun v18 =>
  HBin .sub v18 (.int .i64 1) fun v19 =>
  HNil v0 fun v20 =>
  HFld 2 v20 fun v21 =>
  HSt v21 v19 w_1 fun w_2 =>
  HNil v0 fun v24 =>
  HFld 2 v24 fun v25 =>
  HLd v25 w_2 fun v26 =>
  HBin .eql v26 (.int .i64 0) fun v27 =>
  HNil v0 fun v28 =>
  HFld 1 v28 fun v29 =>
  HSt v29 v27 w_2 fun w_3 =>
  HNil v0 fun v31 =>
  HFld 1 v31 fun v32 =>
  HLd v32 w_3 fun v33 =>
  HIf v33
  (R (.int .i64 8) w_3)
  (R (.int .i64 0) w_3))
  (HNil v0 fun v31_1 =>
  HFld 1 v31_1 fun v32_1 =>
  HLd v32_1 w_1 fun v33_1 =>
  HIf v33_1
  (R (.int .i64 8) w_1)
  (R (.int .i64 0) w_1))
theorem vc47 (v0 : Value) (w : World) (R : Value → World → Prop) (h : Vc47 v0 w R) : HCall Try.prog 47 [v0] w R :=
  funP_sound (JL := []) (JC := []) Tcall_ok mixed_ok Try.func47 (by kernel_rfl) (by kernel_rfl)
    (((by kernel_rfl : funP Try.prog Tcall [] [] Try.f47 [v0] w R = Vc47 v0 w R)).mpr h)

-- qanathelp.Plain[byte]
def Vc48 (v0 : Value) (v1 : Value) (w : World) (R : Value → World → Prop) : Prop :=
  HCall Try.prog 82 [v0, v1, (.func (.func 83) #[] #[])] w fun v7 w_1 =>
  R v7 w_1
theorem vc48 (v0 : Value) (v1 : Value) (w : World) (R : Value → World → Prop) (h : Vc48 v0 v1 w R) : HCall Try.prog 48 [v0, v1] w R :=
  funP_sound (JL := []) (JC := []) Tcall_ok mixed_ok Try.func48 (by kernel_rfl) (by kernel_rfl)
    (((by kernel_rfl : funP Try.prog Tcall [] [] Try.f48 [v0, v1] w R = Vc48 v0 v1 w R)).mpr h)

-- slices.Clone[[]byte,byte]
def Vc49 (v0 : Value) (w : World) (R : Value → World → Prop) : Prop :=
  HEq (.slice 5) false v0 (.slice Option.none 0 0) fun v4 =>
  HIf v4
  (R (.slice Option.none 0 0) w)
  (HBldS (zrow [.int .u8 0] 0) [] 5 0 w fun v5 w_1 =>
  HApp 1 1 [.int .u8 0] 5 v5 v0 w_1 fun v7 w_2 =>
  R v7 w_2)
theorem vc49 (v0 : Value) (w : World) (R : Value → World → Prop) (h : Vc49 v0 w R) : HCall Try.prog 49 [v0] w R :=
  funP_sound (JL := []) (JC := []) Tcall_ok mixed_ok Try.func49 (by kernel_rfl) (by kernel_rfl)
    (((by kernel_rfl : funP Try.prog Tcall [] [] Try.f49 [v0] w R = Vc49 v0 w R)).mpr h)

-- qanathelp.Same[int]
def Vc52 (v0 : Value) (v1 : Value) (v2 : Value) (w : World) (R : Value → World → Prop) : Prop :=
  HLenS v0 fun v9 =>
  HLenS v1 fun v11 =>
  HBin .neq v9 v11 fun v12 =>
  HIf v12
  (R (.bool false) w)
  (∃ (I : List Value → World → Prop) (μ : List Value → World → Nat), I [(.int .i64 0)] w ∧
  ∀ (v7 : Value) w_1, I [v7] w_1 →
  HLenS v0 fun v15 =>
  HBin .lss v7 v15 fun v16 =>
  HIf v16
  (HDraw w_1 fun w_2 =>
  HIdx 1 v0 v7 fun v22 =>
  HLd v22 w_2 fun v23 =>
  HIdx 1 v1 v7 fun v26 =>
  HLd v26 w_2 fun v27 =>
  HCallV Try.prog Tcall v2 [v23, v27] w_2 fun v28 w_3 =>
  HNot v28 fun v29 =>
  HIf v29
  (R (.bool false) w_3)
  (HBin .add v7 (.int .i64 1) fun v18 =>
  I [v18] w_3 ∧ μ [v18] w_3 < μ [v7] w_1))
  (R (.bool true) w_1))
theorem vc52 (v0 : Value) (v1 : Value) (v2 : Value) (w : World) (R : Value → World → Prop) (h : Vc52 v0 v1 v2 w R) : HCall Try.prog 52 [v0, v1, v2] w R :=
  funP_sound (JL := [(4, [7], [0, 1, 2])]) (JC := []) Tcall_ok mixed_ok Try.func52 (by kernel_rfl) (by kernel_rfl)
    (((by kernel_rfl : funP Try.prog Tcall [(4, [7], [0, 1, 2])] [] Try.f52 [v0, v1, v2] w R = Vc52 v0 v1 v2 w R)).mpr h)

-- qanathelp.Plain[int]$1
def Vc53 (v0 : Value) (v1 : Value) (w : World) (R : Value → World → Prop) : Prop :=
  HBin .eql v0 v1 fun v7 =>
  R v7 w
theorem vc53 (v0 : Value) (v1 : Value) (w : World) (R : Value → World → Prop) (h : Vc53 v0 v1 w R) : HCall Try.prog 53 [v0, v1] w R :=
  funP_sound (JL := []) (JC := []) Tcall_ok mixed_ok Try.func53 (by kernel_rfl) (by kernel_rfl)
    (((by kernel_rfl : funP Try.prog Tcall [] [] Try.f53 [v0, v1] w R = Vc53 v0 v1 w R)).mpr h)

-- disk.Disk.find
def Vc54 (v0 : Value) (v1 : Value) (w : World) (R : Value → World → Prop) : Prop :=
  HCall Try.prog 46 [v0, v1] w fun v10 w_1 =>
  HBin .neq v10 (.int .i64 0) fun v12 =>
  HIf v12
  (R (.tuple #[(.pointer Option.none), v10]) w_1)
  (HNil v0 fun v15 =>
  HFld 0 v15 fun v16 =>
  HLd v16 w_1 fun v17 =>
  HRq Try.prog (Instr.lookup 79 v17 v1 false) w_1 fun v19 =>
  HEq (.pointer 84) false v19 (.pointer Option.none) fun v21 =>
  HIf v21
  (R (.tuple #[(.pointer Option.none), (.int .i64 5)]) w_1)
  (R (.tuple #[v19, (.int .i64 0)]) w_1))
theorem vc54 (v0 : Value) (v1 : Value) (w : World) (R : Value → World → Prop) (h : Vc54 v0 v1 w R) : HCall Try.prog 54 [v0, v1] w R :=
  funP_sound (JL := []) (JC := []) Tcall_ok mixed_ok Try.func54 (by kernel_rfl) (by kernel_rfl)
    (((by kernel_rfl : funP Try.prog Tcall [] [] Try.f54 [v0, v1] w R = Vc54 v0 v1 w R)).mpr h)

-- disk.file.cut
def Vc55 (v0 : Value) (v1 : Value) (w : World) (R : Value → World → Prop) : Prop :=
  HNil v0 fun v6 =>
  HFld 0 v6 fun v7 =>
  HLd v7 w fun v8 =>
  HSl 1 v8 none (some v1) none fun v10 =>
  HCall Try.prog 49 [v10] w fun v11 w_1 =>
  HNil v0 fun v12 =>
  HFld 0 v12 fun v13 =>
  HSt v13 v11 w_1 fun w_2 =>
  HNil v0 fun v16 =>
  HFld 1 v16 fun v17 =>
  HLd v17 w_2 fun v18 =>
  HMin v18 v1 fun v20 =>
  HNil v0 fun v21 =>
  HFld 1 v21 fun v22 =>
  HSt v22 v20 w_2 fun w_3 =>
  R (.tuple #[]) w_3
theorem vc55 (v0 : Value) (v1 : Value) (w : World) (R : Value → World → Prop) (h : Vc55 v0 v1 w R) : HCall Try.prog 55 [v0, v1] w R :=
  funP_sound (JL := []) (JC := []) Tcall_ok mixed_ok Try.func55 (by kernel_rfl) (by kernel_rfl)
    (((by kernel_rfl : funP Try.prog Tcall [] [] Try.f55 [v0, v1] w R = Vc55 v0 v1 w R)).mpr h)

-- qanatlaw04.Op.file
def Vc56 (v0 : Value) (w : World) (R : Value → World → Prop) : Prop :=
  ∃ cs : List Value, v0 = .agg cs.toArray ∧ HNew cs 55 w fun v1 w_1 =>
  HFld 1 v1 fun v3 =>
  HLd v3 w_1 fun v4 =>
  HCall Try.prog 27 [v4, (.int .i64 17)] w_1 fun v5 w_2 =>
  HBin .eql v5 (.int .i64 16) fun v6 =>
  HIf v6
  (HFld 1 v1 fun v7 =>
  HLd v7 w_2 fun v8 =>
  R v8 w_2)
  (HFld 1 v1 fun v9 =>
  HLd v9 w_2 fun v10 =>
  HCall Try.prog 27 [v10, (.int .i64 4)] w_2 fun v11 w_3 =>
  R v11 w_3)
theorem vc56 (v0 : Value) (w : World) (R : Value → World → Prop) (h : Vc56 v0 w R) : HCall Try.prog 56 [v0] w R :=
  funP_sound (JL := []) (JC := []) Tcall_ok mixed_ok Try.func56 (by kernel_rfl) (by kernel_rfl)
    (((by kernel_rfl : funP Try.prog Tcall [] [] Try.f56 [v0] w R = Vc56 v0 w R)).mpr h)

-- qanatref04.Disk.Append
def Vc57 (v0 : Value) (v1 : Value) (v2 : Value) (w : World) (R : Value → World → Prop) : Prop :=
  HCall Try.prog 87 [v0, v1, (.bool false)] w fun v14 w_1 =>
  HBin .neq v14 (.int .i64 0) fun v16 =>
  HIf v16
  (R v14 w_1)
  (HCall Try.prog 88 [v0] w_1 fun v19 w_2 =>
  HCall Try.prog 89 [v0, v1] w_2 fun v23 w_3 =>
  HExt 0 v23 fun v24 =>
  HExt 1 v23 fun v25 =>
  ∃ I : List Value → World → Prop, (HNot v25 fun v27 =>
  HIf v27
  (HBldS (zrow [.int .i64 0, .int .i64 0, .slice none 0 0] 0) [] 97 0 w_3 fun v28 w_4 =>
  HNil v0 fun v30 =>
  HFld 0 v30 fun v31 =>
  HLd v31 w_4 fun v32 =>
  HSl 3 v32 none (some v24) none fun v34 =>
  HApp 3 40 [.int .i64 0, .int .i64 0, .slice none 0 0] 97 v28 v34 w_4 fun v35 w_5 =>
  HBld [.int .i64 0, .int .i64 0, .slice none 0 0] [(0, 1, v1)] fun v38 =>
  HBldS (zrow [.int .i64 0, .int .i64 0, .slice none 0 0] 1) [(0, 3, v38)] 97 1 w_5 fun v39 w_6 =>
  HApp 3 40 [.int .i64 0, .int .i64 0, .slice none 0 0] 97 v35 v39 w_6 fun v40 w_7 =>
  HNil v0 fun v44 =>
  HFld 0 v44 fun v45 =>
  HLd v45 w_7 fun v46 =>
  HSl 3 v46 (some v24) none none fun v48 =>
  HApp 3 40 [.int .i64 0, .int .i64 0, .slice none 0 0] 97 v40 v48 w_7 fun v49 w_8 =>
  HNil v0 fun v50 =>
  HFld 0 v50 fun v51 =>
  HSt v51 v49 w_8 fun w_9 =>
  I [] w_9)
  (I [] w_3)) ∧
  ∀ w_10, I [] w_10 →
  HDraw w_10 fun w_11 =>
  HNil v0 fun v53 =>
  HFld 0 v53 fun v54 =>
  HLd v54 w_11 fun v55 =>
  HNil v0 fun v59 =>
  HFld 0 v59 fun v60 =>
  HLd v60 w_11 fun v61 =>
  HIdx 3 v61 v24 fun v63 =>
  HFld 2 v63 fun v64 =>
  HLd v64 w_11 fun v65 =>
  HBldS (zrow [.int .u8 0] 0) [] 5 0 w_11 fun v57 w_12 =>
  HLd v54 w_12 fun v55_1 =>
  v55_1 = v55 ∧
  HLd v60 w_12 fun v61_1 =>
  v61_1 = v61 ∧
  HLd v64 w_12 fun v65_1 =>
  v65_1 = v65 ∧
  HApp 1 1 [.int .u8 0] 5 v57 v65 w_12 fun v66 w_13 =>
  HLd v54 w_13 fun v55_2 =>
  v55_2 = v55 ∧
  HApp 1 1 [.int .u8 0] 5 v66 v2 w_13 fun v68 w_14 =>
  HLd v54 w_14 fun v55_3 =>
  v55_3 = v55 ∧
  HIdx 3 v55 v24 fun v69 =>
  HFld 2 v69 fun v70 =>
  HSt v70 v68 w_14 fun w_15 =>
  HCall Try.prog 90 [v19] w_15 fun v72 w_16 =>
  R v72 w_16)
theorem vc57 (v0 : Value) (v1 : Value) (v2 : Value) (w : World) (R : Value → World → Prop) (h : Vc57 v0 v1 v2 w R) : HCall Try.prog 57 [v0, v1, v2] w R :=
  funP_sound (JL := []) (JC := [(10, [], [0, 2, 8, 9])]) Tcall_ok mixed_ok Try.func57 (by kernel_rfl) (by kernel_rfl)
    (((by kernel_rfl : funP Try.prog Tcall [] [(10, [], [0, 2, 8, 9])] Try.f57 [v0, v1, v2] w R = Vc57 v0 v1 v2 w R)).mpr h)

-- qanatref04.Disk.Sync
def Vc58 (v0 : Value) (v1 : Value) (w : World) (R : Value → World → Prop) : Prop :=
  HCall Try.prog 87 [v0, v1, (.bool true)] w fun v11 w_1 =>
  HBin .neq v11 (.int .i64 0) fun v13 =>
  HIf v13
  (R v11 w_1)
  (HCall Try.prog 88 [v0] w_1 fun v16 w_2 =>
  HNot v16 fun v18 =>
  HIf v18
  (HCall Try.prog 89 [v0, v1] w_2 fun v22 w_3 =>
  HExt 0 v22 fun v23 =>
  HExt 1 v22 fun v24 =>
  HDraw w_3 fun w_4 =>
  HNil v0 fun v26 =>
  HFld 0 v26 fun v27 =>
  HLd v27 w_4 fun v28 =>
  HNil v0 fun v31 =>
  HFld 0 v31 fun v32 =>
  HLd v32 w_4 fun v33 =>
  HIdx 3 v33 v23 fun v35 =>
  HFld 2 v35 fun v36 =>
  HLd v36 w_4 fun v37 =>
  HLenS v37 fun v38 =>
  HIdx 3 v28 v23 fun v39 =>
  HFld 1 v39 fun v40 =>
  HSt v40 v38 w_4 fun w_5 =>
  HCall Try.prog 90 [v16] w_5 fun v42 w_6 =>
  R v42 w_6)
  (HCall Try.prog 90 [v16] w_2 fun v42_1 w_7 =>
  R v42_1 w_7))
theorem vc58 (v0 : Value) (v1 : Value) (w : World) (R : Value → World → Prop) (h : Vc58 v0 v1 w R) : HCall Try.prog 58 [v0, v1] w R :=
  funP_sound (JL := []) (JC := []) Tcall_ok mixed_ok Try.func58 (by kernel_rfl) (by kernel_rfl)
    (((by kernel_rfl : funP Try.prog Tcall [] [] Try.f58 [v0, v1] w R = Vc58 v0 v1 w R)).mpr h)

-- qanatref04.Disk.Len
def Vc59 (v0 : Value) (v1 : Value) (w : World) (R : Value → World → Prop) : Prop :=
  HCall Try.prog 89 [v0, v1] w fun v10 w_1 =>
  HExt 0 v10 fun v11 =>
  HExt 1 v10 fun v12 =>
  HNot v12 fun v14 =>
  HIf v14
  (R (.int .i64 (-1)) w_1)
  (HNil v0 fun v16 =>
  HFld 0 v16 fun v17 =>
  HLd v17 w_1 fun v18 =>
  HIdx 3 v18 v11 fun v20 =>
  HFld 2 v20 fun v21 =>
  HLd v21 w_1 fun v22 =>
  HLenS v22 fun v23 =>
  R v23 w_1)
theorem vc59 (v0 : Value) (v1 : Value) (w : World) (R : Value → World → Prop) (h : Vc59 v0 v1 w R) : HCall Try.prog 59 [v0, v1] w R :=
  funP_sound (JL := []) (JC := []) Tcall_ok mixed_ok Try.func59 (by kernel_rfl) (by kernel_rfl)
    (((by kernel_rfl : funP Try.prog Tcall [] [] Try.f59 [v0, v1] w R = Vc59 v0 v1 w R)).mpr h)

-- qanatref04.Disk.Cut
def Vc60 (v0 : Value) (v1 : Value) (v2 : Value) (w : World) (R : Value → World → Prop) : Prop :=
  HCall Try.prog 87 [v0, v1, (.bool true)] w fun v13 w_1 =>
  HBin .neq v13 (.int .i64 0) fun v15 =>
  HIf v15
  (R v13 w_1)
  (HCall Try.prog 89 [v0, v1] w_1 fun v20 w_2 =>
  HExt 0 v20 fun v21 =>
  HExt 1 v20 fun v22 =>
  HBin .lss v2 (.int .i64 0) fun v24 =>
  HIf v24
  (R (.int .i64 1) w_2)
  (HNil v0 fun v28 =>
  HFld 0 v28 fun v29 =>
  HLd v29 w_2 fun v30 =>
  HIdx 3 v30 v21 fun v32 =>
  HFld 2 v32 fun v33 =>
  HLd v33 w_2 fun v34 =>
  HLenS v34 fun v35 =>
  HBin .gtr v2 v35 fun v36 =>
  HIf v36
  (R (.int .i64 1) w_2)
  (HCall Try.prog 88 [v0] w_2 fun v39 w_3 =>
  HNot v39 fun v41 =>
  HIf v41
  (HDraw w_3 fun w_4 =>
  HNil v0 fun v43 =>
  HFld 0 v43 fun v44 =>
  HLd v44 w_4 fun v45 =>
  HNil v0 fun v49 =>
  HFld 0 v49 fun v50 =>
  HLd v50 w_4 fun v51 =>
  HIdx 3 v51 v21 fun v53 =>
  HFld 2 v53 fun v54 =>
  HLd v54 w_4 fun v55 =>
  HSl 1 v55 none (some v2) none fun v57 =>
  HBldS (zrow [.int .u8 0] 0) [] 5 0 w_4 fun v47 w_5 =>
  HLd v44 w_5 fun v45_1 =>
  v45_1 = v45 ∧
  HLd v50 w_5 fun v51_1 =>
  v51_1 = v51 ∧
  HLd v54 w_5 fun v55_1 =>
  v55_1 = v55 ∧
  HApp 1 1 [.int .u8 0] 5 v47 v57 w_5 fun v58 w_6 =>
  HLd v44 w_6 fun v45_2 =>
  v45_2 = v45 ∧
  HIdx 3 v45 v21 fun v59 =>
  HFld 2 v59 fun v60 =>
  HSt v60 v58 w_6 fun w_7 =>
  HDraw w_7 fun w_8 =>
  HNil v0 fun v62 =>
  HFld 0 v62 fun v63 =>
  HLd v63 w_8 fun v64 =>
  HNil v0 fun v67 =>
  HFld 0 v67 fun v68 =>
  HLd v68 w_8 fun v69 =>
  HIdx 3 v69 v21 fun v71 =>
  HFld 1 v71 fun v72 =>
  HLd v72 w_8 fun v73 =>
  HMin v73 v2 fun v75 =>
  HIdx 3 v64 v21 fun v76 =>
  HFld 1 v76 fun v77 =>
  HSt v77 v75 w_8 fun w_9 =>
  HCall Try.prog 90 [v39] w_9 fun v79 w_10 =>
  R v79 w_10)
  (HCall Try.prog 90 [v39] w_3 fun v79_1 w_11 =>
  R v79_1 w_11))))
theorem vc60 (v0 : Value) (v1 : Value) (v2 : Value) (w : World) (R : Value → World → Prop) (h : Vc60 v0 v1 v2 w R) : HCall Try.prog 60 [v0, v1, v2] w R :=
  funP_sound (JL := []) (JC := []) Tcall_ok mixed_ok Try.func60 (by kernel_rfl) (by kernel_rfl)
    (((by kernel_rfl : funP Try.prog Tcall [] [] Try.f60 [v0, v1, v2] w R = Vc60 v0 v1 v2 w R)).mpr h)

-- qanatref04.Disk.Remove
def Vc61 (v0 : Value) (v1 : Value) (w : World) (R : Value → World → Prop) : Prop :=
  HCall Try.prog 87 [v0, v1, (.bool true)] w fun v11 w_1 =>
  HBin .neq v11 (.int .i64 0) fun v13 =>
  HIf v13
  (R v11 w_1)
  (HCall Try.prog 88 [v0] w_1 fun v16 w_2 =>
  HNot v16 fun v18 =>
  HIf v18
  (HCall Try.prog 89 [v0, v1] w_2 fun v22 w_3 =>
  HExt 0 v22 fun v23 =>
  HExt 1 v22 fun v24 =>
  HDraw w_3 fun w_4 =>
  HNil v0 fun v28 =>
  HFld 0 v28 fun v29 =>
  HLd v29 w_4 fun v30 =>
  HSl 3 v30 none (some v23) none fun v32 =>
  HNil v0 fun v35 =>
  HFld 0 v35 fun v36 =>
  HLd v36 w_4 fun v37 =>
  HBin .add v23 (.int .i64 1) fun v39 =>
  HSl 3 v37 (some v39) none none fun v40 =>
  HBldS (zrow [.int .i64 0, .int .i64 0, .slice none 0 0] 0) [] 97 0 w_4 fun v26 w_5 =>
  HLd v29 w_5 fun v30_1 =>
  v30_1 = v30 ∧
  HLd v36 w_5 fun v37_1 =>
  v37_1 = v37 ∧
  HApp 3 40 [.int .i64 0, .int .i64 0, .slice none 0 0] 97 v26 v32 w_5 fun v33 w_6 =>
  HLd v36 w_6 fun v37_2 =>
  v37_2 = v37 ∧
  HApp 3 40 [.int .i64 0, .int .i64 0, .slice none 0 0] 97 v33 v40 w_6 fun v41 w_7 =>
  HNil v0 fun v42 =>
  HFld 0 v42 fun v43 =>
  HSt v43 v41 w_7 fun w_8 =>
  HCall Try.prog 90 [v16] w_8 fun v45 w_9 =>
  R v45 w_9)
  (HCall Try.prog 90 [v16] w_2 fun v45_1 w_10 =>
  R v45_1 w_10))
theorem vc61 (v0 : Value) (v1 : Value) (w : World) (R : Value → World → Prop) (h : Vc61 v0 v1 w R) : HCall Try.prog 61 [v0, v1] w R :=
  funP_sound (JL := []) (JC := []) Tcall_ok mixed_ok Try.func61 (by kernel_rfl) (by kernel_rfl)
    (((by kernel_rfl : funP Try.prog Tcall [] [] Try.f61 [v0, v1] w R = Vc61 v0 v1 w R)).mpr h)

-- qanatref04.Disk.Arm
def Vc62 (v0 : Value) (v1 : Value) (w : World) (R : Value → World → Prop) : Prop :=
  HMax v1 (.int .i64 0) fun v6 =>
  HNil v0 fun v7 =>
  HFld 1 v7 fun v8 =>
  HSt v8 v6 w fun w_1 =>
  R (.tuple #[]) w_1
theorem vc62 (v0 : Value) (v1 : Value) (w : World) (R : Value → World → Prop) (h : Vc62 v0 v1 w R) : HCall Try.prog 62 [v0, v1] w R :=
  funP_sound (JL := []) (JC := []) Tcall_ok mixed_ok Try.func62 (by kernel_rfl) (by kernel_rfl)
    (((by kernel_rfl : funP Try.prog Tcall [] [] Try.f62 [v0, v1] w R = Vc62 v0 v1 w R)).mpr h)

-- qanatref04.Disk.Crash
def Vc63 (v0 : Value) (v1 : Value) (w : World) (R : Value → World → Prop) : Prop :=
  ∃ (I : List Value → World → Prop) (μ : List Value → World → Nat), I [(.int .i64 0)] w ∧
  ∀ (v4 : Value) w_1, I [v4] w_1 →
  HNil v0 fun v9 =>
  HFld 0 v9 fun v10 =>
  HLd v10 w_1 fun v11 =>
  HLenS v11 fun v12 =>
  HBin .lss v4 v12 fun v13 =>
  HIf v13
  (HDraw w_1 fun w_2 =>
  HNil v0 fun v17 =>
  HFld 0 v17 fun v18 =>
  HLd v18 w_2 fun v19 =>
  HIdx 3 v19 v4 fun v21 =>
  HFld 2 v21 fun v22 =>
  HLd v22 w_2 fun v23 =>
  HLenS v23 fun v24 =>
  HNil v0 fun v26 =>
  HFld 0 v26 fun v27 =>
  HLd v27 w_2 fun v28 =>
  HIdx 3 v28 v4 fun v30 =>
  HFld 1 v30 fun v31 =>
  HLd v31 w_2 fun v32 =>
  HBin .sub v24 v32 fun v33 =>
  ∃ I_1 : List Value → World → Prop, (HLenS v1 fun v36 =>
  HBin .lss v4 v36 fun v37 =>
  HIf v37
  (HIdx 1 v1 v4 fun v41 =>
  HLd v41 w_2 fun v42 =>
  HBin .gtr v42 (.int .i64 0) fun v43 =>
  HIf v43
  (HIdx 1 v1 v4 fun v47 =>
  HLd v47 w_2 fun v48 =>
  HBin .add v33 (.int .i64 1) fun v50 =>
  HBin .rem v48 v50 fun v51 =>
  I_1 [v51] w_2)
  (I_1 [(.int .i64 0)] w_2))
  (I_1 [(.int .i64 0)] w_2)) ∧
  ∀ (v6 : Value) w_3, I_1 [v6] w_3 →
  HDraw w_3 fun w_4 =>
  HNil v0 fun v53 =>
  HFld 0 v53 fun v54 =>
  HLd v54 w_4 fun v55 =>
  HNil v0 fun v59 =>
  HFld 0 v59 fun v60 =>
  HLd v60 w_4 fun v61 =>
  HIdx 3 v61 v4 fun v63 =>
  HFld 2 v63 fun v64 =>
  HLd v64 w_4 fun v65 =>
  HNil v0 fun v67 =>
  HFld 0 v67 fun v68 =>
  HLd v68 w_4 fun v69 =>
  HIdx 3 v69 v4 fun v71 =>
  HFld 1 v71 fun v72 =>
  HLd v72 w_4 fun v73 =>
  HBin .add v73 v6 fun v75 =>
  HSl 1 v65 none (some v75) none fun v76 =>
  HBldS (zrow [.int .u8 0] 0) [] 5 0 w_4 fun v57 w_5 =>
  HLd v54 w_5 fun v55_1 =>
  v55_1 = v55 ∧
  HLd v60 w_5 fun v61_1 =>
  v61_1 = v61 ∧
  HLd v64 w_5 fun v65_1 =>
  v65_1 = v65 ∧
  HLd v68 w_5 fun v69_1 =>
  v69_1 = v69 ∧
  HLd v72 w_5 fun v73_1 =>
  v73_1 = v73 ∧
  HApp 1 1 [.int .u8 0] 5 v57 v76 w_5 fun v77 w_6 =>
  HLd v54 w_6 fun v55_2 =>
  v55_2 = v55 ∧
  HIdx 3 v55 v4 fun v78 =>
  HFld 2 v78 fun v79 =>
  HSt v79 v77 w_6 fun w_7 =>
  HDraw w_7 fun w_8 =>
  HNil v0 fun v81 =>
  HFld 0 v81 fun v82 =>
  HLd v82 w_8 fun v83 =>
  HNil v0 fun v86 =>
  HFld 0 v86 fun v87 =>
  HLd v87 w_8 fun v88 =>
  HIdx 3 v88 v4 fun v90 =>
  HFld 2 v90 fun v91 =>
  HLd v91 w_8 fun v92 =>
  HLenS v92 fun v93 =>
  HIdx 3 v83 v4 fun v94 =>
  HFld 1 v94 fun v95 =>
  HSt v95 v93 w_8 fun w_9 =>
  HBin .add v4 (.int .i64 1) fun v15 =>
  I [v15] w_9 ∧ μ [v15] w_9 < μ [v4] w_1)
  (HNil v0 fun v97 =>
  HFld 2 v97 fun v98 =>
  HSt v98 (.bool false) w_1 fun w_10 =>
  HNil v0 fun v100 =>
  HFld 1 v100 fun v101 =>
  HSt v101 (.int .i64 0) w_10 fun w_11 =>
  R (.tuple #[]) w_11)
theorem vc63 (v0 : Value) (v1 : Value) (w : World) (R : Value → World → Prop) (h : Vc63 v0 v1 w R) : HCall Try.prog 63 [v0, v1] w R :=
  funP_sound (JL := [(1, [4], [0, 1])]) (JC := [(7, [6], [0, 1, 4])]) Tcall_ok mixed_ok Try.func63 (by kernel_rfl) (by kernel_rfl)
    (((by kernel_rfl : funP Try.prog Tcall [(1, [4], [0, 1])] [(7, [6], [0, 1, 4])] Try.f63 [v0, v1] w R = Vc63 v0 v1 w R)).mpr h)

-- qanatplay.Big
def Vc66 (v0 : Value) (v1 : Value) (w : World) (R : Value → World → Prop) : Prop :=
  HCvI .u64 v0 fun v6 =>
  HCvI .u64 v1 fun v8 =>
  HBin .rem v6 v8 fun v9 =>
  HCvI .i64 v9 fun v10 =>
  R v10 w
theorem vc66 (v0 : Value) (v1 : Value) (w : World) (R : Value → World → Prop) (h : Vc66 v0 v1 w R) : HCall Try.prog 66 [v0, v1] w R :=
  funP_sound (JL := []) (JC := []) Tcall_ok mixed_ok Try.func66 (by kernel_rfl) (by kernel_rfl)
    (((by kernel_rfl : funP Try.prog Tcall [] [] Try.f66 [v0, v1] w R = Vc66 v0 v1 w R)).mpr h)

-- qanathelp.Same[byte]
def Vc82 (v0 : Value) (v1 : Value) (v2 : Value) (w : World) (R : Value → World → Prop) : Prop :=
  HLenS v0 fun v9 =>
  HLenS v1 fun v11 =>
  HBin .neq v9 v11 fun v12 =>
  HIf v12
  (R (.bool false) w)
  (∃ (I : List Value → World → Prop) (μ : List Value → World → Nat), I [(.int .i64 0)] w ∧
  ∀ (v7 : Value) w_1, I [v7] w_1 →
  HLenS v0 fun v15 =>
  HBin .lss v7 v15 fun v16 =>
  HIf v16
  (HDraw w_1 fun w_2 =>
  HIdx 1 v0 v7 fun v22 =>
  HLd v22 w_2 fun v23 =>
  HIdx 1 v1 v7 fun v26 =>
  HLd v26 w_2 fun v27 =>
  HCallV Try.prog Tcall v2 [v23, v27] w_2 fun v28 w_3 =>
  HNot v28 fun v29 =>
  HIf v29
  (R (.bool false) w_3)
  (HBin .add v7 (.int .i64 1) fun v18 =>
  I [v18] w_3 ∧ μ [v18] w_3 < μ [v7] w_1))
  (R (.bool true) w_1))
theorem vc82 (v0 : Value) (v1 : Value) (v2 : Value) (w : World) (R : Value → World → Prop) (h : Vc82 v0 v1 v2 w R) : HCall Try.prog 82 [v0, v1, v2] w R :=
  funP_sound (JL := [(4, [7], [0, 1, 2])]) (JC := []) Tcall_ok mixed_ok Try.func82 (by kernel_rfl) (by kernel_rfl)
    (((by kernel_rfl : funP Try.prog Tcall [(4, [7], [0, 1, 2])] [] Try.f82 [v0, v1, v2] w R = Vc82 v0 v1 v2 w R)).mpr h)

-- qanathelp.Plain[byte]$1
def Vc83 (v0 : Value) (v1 : Value) (w : World) (R : Value → World → Prop) : Prop :=
  HBin .eql v0 v1 fun v7 =>
  R v7 w
theorem vc83 (v0 : Value) (v1 : Value) (w : World) (R : Value → World → Prop) (h : Vc83 v0 v1 w R) : HCall Try.prog 83 [v0, v1] w R :=
  funP_sound (JL := []) (JC := []) Tcall_ok mixed_ok Try.func83 (by kernel_rfl) (by kernel_rfl)
    (((by kernel_rfl : funP Try.prog Tcall [] [] Try.f83 [v0, v1] w R = Vc83 v0 v1 w R)).mpr h)

-- qanatref04.Disk.refused
def Vc87 (v0 : Value) (v1 : Value) (v2 : Value) (w : World) (R : Value → World → Prop) : Prop :=
  HNil v0 fun v10 =>
  HFld 2 v10 fun v11 =>
  HLd v11 w fun v12 =>
  HIf v12
  (R (.int .i64 8) w)
  (HBin .lss v1 (.int .i64 0) fun v14 =>
  HIf v14
  (R (.int .i64 1) w)
  (HBin .geq v1 (.int .i64 16384) fun v17 =>
  HIf v17
  (R (.int .i64 1) w)
  (HCall Try.prog 89 [v0, v1] w fun v22 w_1 =>
  HExt 0 v22 fun v23 =>
  HExt 1 v22 fun v24 =>
  HIf v2
  (HNot v24 fun v28 =>
  HIf v28
  (R (.int .i64 5) w_1)
  (R (.int .i64 0) w_1))
  (R (.int .i64 0) w_1))))
theorem vc87 (v0 : Value) (v1 : Value) (v2 : Value) (w : World) (R : Value → World → Prop) (h : Vc87 v0 v1 v2 w R) : HCall Try.prog 87 [v0, v1, v2] w R :=
  funP_sound (JL := []) (JC := []) Tcall_ok mixed_ok Try.func87 (by kernel_rfl) (by kernel_rfl)
    (((by kernel_rfl : funP Try.prog Tcall [] [] Try.f87 [v0, v1, v2] w R = Vc87 v0 v1 v2 w R)).mpr h)

-- qanatref04.Disk.goes
def Vc88 (v0 : Value) (w : World) (R : Value → World → Prop) : Prop :=
  HNil v0 fun v4 =>
  HFld 3 v4 fun v5 =>
  HLd v5 w fun v6 =>
  HBin .add v6 (.int .i64 1) fun v7 =>
  HNil v0 fun v8 =>
  HFld 3 v8 fun v9 =>
  HSt v9 v7 w fun w_1 =>
  HNil v0 fun v11 =>
  HFld 1 v11 fun v12 =>
  HLd v12 w_1 fun v13 =>
  HBin .gtr v13 (.int .i64 0) fun v14 =>
  HIf v14
  (HNil v0 fun v16 =>
  HFld 1 v16 fun v17 =>
  HLd v17 w_1 fun v18 =>
  HBin .sub v18 (.int .i64 1) fun v19 =>
  HNil v0 fun v20 =>
  HFld 1 v20 fun v21 =>
  HSt v21 v19 w_1 fun w_2 =>
  HNil v0 fun v23 =>
  HFld 1 v23 fun v24 =>
  HLd v24 w_2 fun v25 =>
  HBin .eql v25 (.int .i64 0) fun v26 =>
  HIf v26
  (HNil v0 fun v28 =>
  HFld 2 v28 fun v29 =>
  HSt v29 (.bool true) w_2 fun w_3 =>
  HNil v0 fun v31 =>
  HFld 2 v31 fun v32 =>
  HLd v32 w_3 fun v33 =>
  R v33 w_3)
  (HNil v0 fun v31_1 =>
  HFld 2 v31_1 fun v32_1 =>
  HLd v32_1 w_2 fun v33_1 =>
  R v33_1 w_2))
  (HNil v0 fun v31_2 =>
  HFld 2 v31_2 fun v32_2 =>
  HLd v32_2 w_1 fun v33_2 =>
  R v33_2 w_1)
theorem vc88 (v0 : Value) (w : World) (R : Value → World → Prop) (h : Vc88 v0 w R) : HCall Try.prog 88 [v0] w R :=
  funP_sound (JL := []) (JC := []) Tcall_ok mixed_ok Try.func88 (by kernel_rfl) (by kernel_rfl)
    (((by kernel_rfl : funP Try.prog Tcall [] [] Try.f88 [v0] w R = Vc88 v0 w R)).mpr h)

-- qanatref04.Disk.At
def Vc89 (v0 : Value) (v1 : Value) (w : World) (R : Value → World → Prop) : Prop :=
  ∃ (I : List Value → World → Prop) (μ : List Value → World → Nat), I [(.int .i64 0)] w ∧
  ∀ (v6 : Value) w_1, I [v6] w_1 →
  HNil v0 fun v9 =>
  HFld 0 v9 fun v10 =>
  HLd v10 w_1 fun v11 =>
  HLenS v11 fun v12 =>
  HBin .lss v6 v12 fun v13 =>
  HIf v13
  (HNil v0 fun v16 =>
  HFld 0 v16 fun v17 =>
  HLd v17 w_1 fun v18 =>
  HIdx 3 v18 v6 fun v20 =>
  HFld 0 v20 fun v21 =>
  HLd v21 w_1 fun v22 =>
  HBin .lss v22 v1 fun v24 =>
  HIf v24
  (HBin .add v6 (.int .i64 1) fun v27 =>
  I [v27] w_1 ∧ μ [v27] w_1 < μ [v6] w_1)
  (HDraw w_1 fun w_2 =>
  HNil v0 fun v31 =>
  HFld 0 v31 fun v32 =>
  HLd v32 w_2 fun v33 =>
  HLenS v33 fun v34 =>
  HBin .lss v6 v34 fun v35 =>
  HIf v35
  (HNil v0 fun v38 =>
  HFld 0 v38 fun v39 =>
  HLd v39 w_2 fun v40 =>
  HIdx 3 v40 v6 fun v42 =>
  HFld 0 v42 fun v43 =>
  HLd v43 w_2 fun v44 =>
  HBin .eql v44 v1 fun v46 =>
  HLd v39 w_2 fun v40_1 =>
  v40_1 = v40 ∧
  HLd v43 w_2 fun v44_1 =>
  v44_1 = v44 ∧
  R (.tuple #[v6, v46]) w_2)
  (R (.tuple #[v6, (.bool false)]) w_2)))
  (HDraw w_1 fun w_3 =>
  HNil v0 fun v31_1 =>
  HFld 0 v31_1 fun v32_1 =>
  HLd v32_1 w_3 fun v33_1 =>
  HLenS v33_1 fun v34_1 =>
  HBin .lss v6 v34_1 fun v35_1 =>
  HIf v35_1
  (HNil v0 fun v38_1 =>
  HFld 0 v38_1 fun v39_1 =>
  HLd v39_1 w_3 fun v40_2 =>
  HIdx 3 v40_2 v6 fun v42_1 =>
  HFld 0 v42_1 fun v43_1 =>
  HLd v43_1 w_3 fun v44_2 =>
  HBin .eql v44_2 v1 fun v46_1 =>
  HLd v39_1 w_3 fun v40_3 =>
  v40_3 = v40_2 ∧
  HLd v43_1 w_3 fun v44_3 =>
  v44_3 = v44_2 ∧
  R (.tuple #[v6, v46_1]) w_3)
  (R (.tuple #[v6, (.bool false)]) w_3))
theorem vc89 (v0 : Value) (v1 : Value) (w : World) (R : Value → World → Prop) (h : Vc89 v0 v1 w R) : HCall Try.prog 89 [v0, v1] w R :=
  funP_sound (JL := [(2, [6], [0, 1])]) (JC := []) Tcall_ok mixed_ok Try.func89 (by kernel_rfl) (by kernel_rfl)
    (((by kernel_rfl : funP Try.prog Tcall [(2, [6], [0, 1])] [] Try.f89 [v0, v1] w R = Vc89 v0 v1 w R)).mpr h)

-- qanatref04.told
def Vc90 (v0 : Value) (w : World) (R : Value → World → Prop) : Prop :=
  HIf v0
  (R (.int .i64 8) w)
  (R (.int .i64 0) w)
theorem vc90 (v0 : Value) (w : World) (R : Value → World → Prop) (h : Vc90 v0 w R) : HCall Try.prog 90 [v0] w R :=
  funP_sound (JL := []) (JC := []) Tcall_ok mixed_ok Try.func90 (by kernel_rfl) (by kernel_rfl)
    (((by kernel_rfl : funP Try.prog Tcall [] [] Try.f90 [v0] w R = Vc90 v0 w R)).mpr h)

end Go.Proofs.Ythjnknpgcmmapaa
