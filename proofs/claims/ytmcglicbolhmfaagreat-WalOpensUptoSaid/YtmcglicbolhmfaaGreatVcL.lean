/-
  What calls of functions ask, printed by a program of mine (gen.py) out of the functions' code; each is checked by the kernel.
-/
import Derived.Test.YtmcglicbolhmfaaGreatTab
namespace Go.Proofs.YtmcglicbolhmfaaGreat
set_option linter.unusedVariables false
set_option maxRecDepth 100000
open Go.RowKit

-- wal.Open
def Vc12 (v0 : Value) (v1 : Value) (v2 : Value) (w : World) (R : Value → World → Prop) : Prop :=
  HBin .lss v1 (.int .i64 0) fun v18 =>
  HIf v18
  (R (.tuple #[(.pointer Option.none), (.int .i64 1)]) w)
  (HBin .gtr v1 (.int .i64 12288) fun v21 =>
  HIf v21
  (R (.tuple #[(.pointer Option.none), (.int .i64 1)]) w)
  (HBin .lss v2 (.int .i64 64) fun v25 =>
  HIf v25
  (R (.tuple #[(.pointer Option.none), (.int .i64 1)]) w)
  (HBin .gtr v2 (.int .i64 65536) fun v29 =>
  HIf v29
  (R (.tuple #[(.pointer Option.none), (.int .i64 1)]) w)
  (HCall Tryz.prog 30 [v0] w fun v33 w_1 =>
  HIf v33
  (R (.tuple #[(.pointer Option.none), (.int .i64 8)]) w_1)
  (HBld [.slice none 0 0, .pointer none, .int .i64 0, .int .i64 0, .pointer none] [(1, 1, v0), (2, 1, v1), (3, 1, v2)] fun v37 =>
  ∃ cs : List Value, v37 = .agg cs.toArray ∧ HNew cs 58 w_1 fun v38 w_2 =>
  HCall Tryz.prog 31 [v38] w_2 fun v40 w_3 =>
  HLenS v40 fun v42 =>
  ∃ (I : List Value → World → Prop) (μ : List Value → World → Nat), I [(.bool true), (.int .i64 0)] w_3 ∧
  ∀ (v10 : Value) (v43 : Value) w_4, I [v10, v43] w_4 →
  HBin .lss v43 v42 fun v44 =>
  HIf v44
  (HIdx 1 v40 v43 fun v46 =>
  HLd v46 w_4 fun v47 =>
  HLenS v40 fun v53 =>
  HBin .sub v53 (.int .i64 1) fun v54 =>
  HBin .eql v43 v54 fun v55 =>
  HCall Tryz.prog 32 [v38, v47, v55] w_4 fun v56 w_5 =>
  HExt 0 v56 fun v57 =>
  HExt 1 v56 fun v58 =>
  HNot v58 fun v60 =>
  HIf v60
  (R (.tuple #[(.pointer Option.none), (.int .i64 3)]) w_5)
  (HBin .gtr v43 (.int .i64 0) fun v63 =>
  HIf v63
  (HBin .sub v43 (.int .i64 1) fun v68 =>
  HIdx 1 v40 v68 fun v69 =>
  HLd v69 w_5 fun v70 =>
  HBin .add v70 (.int .i64 1) fun v71 =>
  HBin .neq v47 v71 fun v72 =>
  HIf v72
  (R (.tuple #[(.pointer Option.none), (.int .i64 3)]) w_5)
  (HBin .add v43 (.int .i64 1) fun v76 =>
  I [v57, v76] w_5 ∧ μ [v57, v76] w_5 < μ [v10, v43] w_4))
  (HBin .add v43 (.int .i64 1) fun v76_1 =>
  I [v57, v76_1] w_5 ∧ μ [v57, v76_1] w_5 < μ [v10, v43] w_4)))
  (HCall Tryz.prog 33 [v38, v40, v10] w_4 fun v80 w_6 =>
  HBin .neq v80 (.int .i64 0) fun v82 =>
  HIf v82
  (R (.tuple #[(.pointer Option.none), v80]) w_6)
  (R (.tuple #[v38, (.int .i64 0)]) w_6)))))))
theorem vc12 (v0 : Value) (v1 : Value) (v2 : Value) (w : World) (R : Value → World → Prop) (h : Vc12 v0 v1 v2 w R) : HCall Tryz.prog 12 [v0, v1, v2] w R :=
  funP_sound (JL := [(9, [10, 43], [8, 9, 41, 42])]) (JC := []) Tcall_ok mixed_ok Tryz.func12 (by kernel_rfl) (by kernel_rfl)
    (((by kernel_rfl : funP Tryz.prog Tcall [(9, [10, 43], [8, 9, 41, 42])] [] Tryz.f12 [v0, v1, v2] w R = Vc12 v0 v1 v2 w R)).mpr h)

-- wal.reader.Low
def Vc16 (v0 : Value) (w : World) (R : Value → World → Prop) : Prop :=
  HNil v0 fun v4 =>
  HFld 0 v4 fun v5 =>
  HLd v5 w fun v6 =>
  HLenS v6 fun v7 =>
  HBin .eql v7 (.int .i64 0) fun v8 =>
  HIf v8
  (R (.int .i64 1) w)
  (HNil v0 fun v10 =>
  HFld 0 v10 fun v11 =>
  HLd v11 w fun v12 =>
  HIdx 4 v12 (.int .i64 0) fun v13 =>
  HFld 1 v13 fun v14 =>
  HLd v14 w fun v15 =>
  R v15 w)
theorem vc16 (v0 : Value) (w : World) (R : Value → World → Prop) (h : Vc16 v0 w R) : HCall Tryz.prog 16 [v0] w R :=
  funP_sound (JL := []) (JC := []) Tcall_ok mixed_ok Tryz.func16 (by kernel_rfl) (by kernel_rfl)
    (((by kernel_rfl : funP Tryz.prog Tcall [] [] Tryz.f16 [v0] w R = Vc16 v0 w R)).mpr h)

-- wal.reader.Head
def Vc17 (v0 : Value) (w : World) (R : Value → World → Prop) : Prop :=
  HNil v0 fun v4 =>
  HFld 0 v4 fun v5 =>
  HLd v5 w fun v6 =>
  HLenS v6 fun v7 =>
  HBin .eql v7 (.int .i64 0) fun v8 =>
  HIf v8
  (R (.int .i64 0) w)
  (HDraw w fun w_1 =>
  HNil v0 fun v10 =>
  HFld 0 v10 fun v11 =>
  HLd v11 w_1 fun v12 =>
  HNil v0 fun v14 =>
  HFld 0 v14 fun v15 =>
  HLd v15 w_1 fun v16 =>
  HLenS v16 fun v17 =>
  HBin .sub v17 (.int .i64 1) fun v18 =>
  HIdx 4 v12 v18 fun v19 =>
  HLdN 4 v19 w_1 fun v20 =>
  HCall Tryz.prog 46 [v20] w_1 fun v21 w_2 =>
  HBin .sub v21 (.int .i64 1) fun v22 =>
  R v22 w_2)
theorem vc17 (v0 : Value) (w : World) (R : Value → World → Prop) (h : Vc17 v0 w R) : HCall Tryz.prog 17 [v0] w R :=
  funP_sound (JL := []) (JC := []) Tcall_ok mixed_ok Tryz.func17 (by kernel_rfl) (by kernel_rfl)
    (((by kernel_rfl : funP Tryz.prog Tcall [] [] Tryz.f17 [v0] w R = Vc17 v0 w R)).mpr h)

-- wal.Log.Append
def Vc18 (v0 : Value) (v1 : Value) (w : World) (R : Value → World → Prop) : Prop :=
  HCall Tryz.prog 47 [v0, v1] w fun v12 w_1 =>
  HExt 0 v12 fun v13 =>
  HExt 1 v12 fun v14 =>
  HNew [.int .i64 0, .bool false, .slice none 0 0] 99 w_1 fun v6 w_2 =>
  HStN 3 v6 v13 w_2 fun w_3 =>
  ∃ I : List Value → World → Prop, (HBin .eql v14 (.int .i64 0) fun v16 =>
  HIf v16
  (HDraw w_3 fun w_4 =>
  HNil v0 fun v18 =>
  HFld 1 v18 fun v19 =>
  HLd v19 w_4 fun v20 =>
  HFld 0 v6 fun v21 =>
  HLd v21 w_4 fun v22 =>
  HFld 2 v6 fun v23 =>
  HLd v23 w_4 fun v24 =>
  HCall Tryz.prog 9 [v20, v22, v24] w_4 fun v25 w_5 =>
  I [v25] w_5)
  (I [v14] w_3)) ∧
  ∀ (v7 : Value) w_6, I [v7] w_6 →
  ∃ I_1 : List Value → World → Prop, (HBin .eql v7 (.int .i64 0) fun v27 =>
  HIf v27
  (HDraw w_6 fun w_7 =>
  HNil v0 fun v29 =>
  HFld 1 v29 fun v30 =>
  HLd v30 w_7 fun v31 =>
  HFld 0 v6 fun v32 =>
  HLd v32 w_7 fun v33 =>
  HCall Tryz.prog 48 [v31, v33] w_7 fun v34 w_8 =>
  I_1 [v34] w_8)
  (I_1 [v7] w_6)) ∧
  ∀ (v7_1 : Value) w_9, I_1 [v7_1] w_9 →
  HBin .neq v7_1 (.int .i64 0) fun v36 =>
  HIf v36
  (R (.tuple #[(.int .i64 0), v7_1]) w_9)
  (∃ I_2 : List Value → World → Prop, (HFld 1 v6 fun v38 =>
  HLd v38 w_9 fun v39 =>
  HIf v39
  (HDraw w_9 fun w_10 =>
  HNil v0 fun v42 =>
  HFld 0 v42 fun v43 =>
  HFld 0 v43 fun v44 =>
  HLd v44 w_10 fun v45 =>
  HFld 0 v6 fun v46 =>
  HLd v46 w_10 fun v47 =>
  HNil v0 fun v49 =>
  HFld 0 v49 fun v50 =>
  HCall Tryz.prog 17 [v50] w_10 fun v51 w_11 =>
  HLd v44 w_11 fun v45_1 =>
  v45_1 = v45 ∧
  HLd v46 w_11 fun v47_1 =>
  v47_1 = v47 ∧
  HBin .add v51 (.int .i64 1) fun v52 =>
  HBld [.int .i64 0, .int .i64 0, .int .i64 0, .slice none 0 0] [(0, 1, v47), (1, 1, v52)] fun v53 =>
  HBldS (zrow [.int .i64 0, .int .i64 0, .int .i64 0, .slice none 0 0] 1) [(0, 4, v53)] 97 1 w_11 fun v54 w_12 =>
  HLd v44 w_12 fun v45_2 =>
  v45_2 = v45 ∧
  HApp 4 48 [.int .i64 0, .int .i64 0, .int .i64 0, .slice none 0 0] 97 v45 v54 w_12 fun v55 w_13 =>
  HNil v0 fun v56 =>
  HFld 0 v56 fun v57 =>
  HFld 0 v57 fun v58 =>
  HSt v58 v55 w_13 fun w_14 =>
  I_2 [] w_14)
  (I_2 [] w_9)) ∧
  ∀ w_15, I_2 [] w_15 →
  HDraw w_15 fun w_16 =>
  HNil v0 fun v60 =>
  HFld 0 v60 fun v61 =>
  HFld 0 v61 fun v62 =>
  HLd v62 w_16 fun v63 =>
  HNil v0 fun v65 =>
  HFld 0 v65 fun v66 =>
  HFld 0 v66 fun v67 =>
  HLd v67 w_16 fun v68 =>
  HLenS v68 fun v69 =>
  HBin .sub v69 (.int .i64 1) fun v70 =>
  HIdx 4 v63 v70 fun v71 =>
  HDraw w_16 fun w_17 =>
  HNil v71 fun v73 =>
  HFld 2 v73 fun v74 =>
  HLd v74 w_17 fun v75 =>
  HFld 2 v6 fun v76 =>
  HLd v76 w_17 fun v77 =>
  HLenS v77 fun v78 =>
  HBin .add v75 v78 fun v79 =>
  HNil v71 fun v80 =>
  HFld 2 v80 fun v81 =>
  HSt v81 v79 w_17 fun w_18 =>
  HDraw w_18 fun w_19 =>
  HNil v71 fun v84 =>
  HFld 3 v84 fun v85 =>
  HLd v85 w_19 fun v86 =>
  HCall Tryz.prog 49 [v1] w_19 fun v88 w_20 =>
  HLd v85 w_20 fun v86_1 =>
  v86_1 = v86 ∧
  HBldS (zrow [.slice none 0 0] 1) [(0, 1, v88)] 31 1 w_20 fun v89 w_21 =>
  HLd v85 w_21 fun v86_2 =>
  v86_2 = v86 ∧
  HApp 1 24 [.slice none 0 0] 31 v86 v89 w_21 fun v90 w_22 =>
  HNil v71 fun v91 =>
  HFld 3 v91 fun v92 =>
  HSt v92 v90 w_22 fun w_23 =>
  HNil v0 fun v94 =>
  HFld 0 v94 fun v95 =>
  HCall Tryz.prog 17 [v95] w_23 fun v96 w_24 =>
  R (.tuple #[v96, (.int .i64 0)]) w_24)
theorem vc18 (v0 : Value) (v1 : Value) (w : World) (R : Value → World → Prop) (h : Vc18 v0 v1 w R) : HCall Tryz.prog 18 [v0, v1] w R :=
  funP_sound (JL := []) (JC := [(4, [7], [0, 1, 6]), (6, [7], [0, 1, 6]), (10, [], [0, 1, 6])]) Tcall_ok mixed_ok Tryz.func18 (by kernel_rfl) (by kernel_rfl)
    (((by kernel_rfl : funP Tryz.prog Tcall [] [(4, [7], [0, 1, 6]), (6, [7], [0, 1, 6]), (10, [], [0, 1, 6])] Tryz.f18 [v0, v1] w R = Vc18 v0 v1 w R)).mpr h)

-- wal.reader.Read
def Vc19 (v0 : Value) (v1 : Value) (w : World) (R : Value → World → Prop) : Prop :=
  HNil v0 fun v9 =>
  HFld 0 v9 fun v10 =>
  HLd v10 w fun v11 =>
  HLenS v11 fun v12 =>
  ∃ (I : List Value → World → Prop) (μ : List Value → World → Nat), I [(.int .i64 0)] w ∧
  ∀ (v13 : Value) w_1, I [v13] w_1 →
  HBin .lss v13 v12 fun v14 =>
  HIf v14
  (HIdx 4 v11 v13 fun v15 =>
  HLdN 4 v15 w_1 fun v16 =>
  HNew [.int .i64 0, .int .i64 0, .int .i64 0, .slice none 0 0] 97 w_1 fun v7 w_2 =>
  HStN 4 v7 v16 w_2 fun w_3 =>
  HFld 1 v7 fun v18 =>
  HLd v18 w_3 fun v19 =>
  HBin .geq v1 v19 fun v20 =>
  HIf v20
  (HLdN 4 v7 w_3 fun v23 =>
  HCall Tryz.prog 46 [v23] w_3 fun v24 w_4 =>
  HBin .lss v1 v24 fun v25 =>
  HIf v25
  (HFld 3 v7 fun v27 =>
  HLd v27 w_4 fun v28 =>
  HFld 1 v7 fun v30 =>
  HLd v30 w_4 fun v31 =>
  HBin .sub v1 v31 fun v32 =>
  HIdx 1 v28 v32 fun v33 =>
  HLd v33 w_4 fun v34 =>
  HCall Tryz.prog 49 [v34] w_4 fun v35 w_5 =>
  R (.tuple #[v35, (.int .i64 0)]) w_5)
  (HBin .add v13 (.int .i64 1) fun v36 =>
  I [v36] w_4 ∧ μ [v36] w_4 < μ [v13] w_1))
  (HBin .add v13 (.int .i64 1) fun v36_1 =>
  I [v36_1] w_3 ∧ μ [v36_1] w_3 < μ [v13] w_1))
  (R (.tuple #[(.slice Option.none 0 0), (.int .i64 5)]) w_1)
theorem vc19 (v0 : Value) (v1 : Value) (w : World) (R : Value → World → Prop) (h : Vc19 v0 v1 w R) : HCall Tryz.prog 19 [v0, v1] w R :=
  funP_sound (JL := [(2, [13], [1, 11, 12])]) (JC := []) Tcall_ok mixed_ok Tryz.func19 (by kernel_rfl) (by kernel_rfl)
    (((by kernel_rfl : funP Tryz.prog Tcall [(2, [13], [1, 11, 12])] [] Tryz.f19 [v0, v1] w R = Vc19 v0 v1 w R)).mpr h)

-- wal.reader.Segments
def Vc20 (v0 : Value) (w : World) (R : Value → World → Prop) : Prop :=
  HNil v0 fun v4 =>
  HFld 0 v4 fun v5 =>
  HLd v5 w fun v6 =>
  HLenS v6 fun v7 =>
  R v7 w
theorem vc20 (v0 : Value) (w : World) (R : Value → World → Prop) (h : Vc20 v0 w R) : HCall Tryz.prog 20 [v0] w R :=
  funP_sound (JL := []) (JC := []) Tcall_ok mixed_ok Tryz.func20 (by kernel_rfl) (by kernel_rfl)
    (((by kernel_rfl : funP Tryz.prog Tcall [] [] Tryz.f20 [v0] w R = Vc20 v0 w R)).mpr h)

-- wal.Log.files
def Vc31 (v0 : Value) (w : World) (R : Value → World → Prop) : Prop :=
  HNil v0 fun v7 =>
  HFld 1 v7 fun v8 =>
  HLd v8 w fun v9 =>
  HCall Tryz.prog 39 [v9] w fun v10 w_1 =>
  HLenS v10 fun v11 =>
  ∃ (I : List Value → World → Prop) (μ : List Value → World → Nat), I [(.slice Option.none 0 0), (.int .i64 0)] w_1 ∧
  ∀ (v3 : Value) (v12 : Value) w_2, I [v3, v12] w_2 →
  HBin .lss v12 v11 fun v13 =>
  HIf v13
  (HIdx 1 v10 v12 fun v14 =>
  HLd v14 w_2 fun v15 =>
  HNil v0 fun v18 =>
  HFld 2 v18 fun v19 =>
  HLd v19 w_2 fun v20 =>
  HBin .geq v15 v20 fun v21 =>
  HIf v21
  (HNil v0 fun v25 =>
  HFld 2 v25 fun v26 =>
  HLd v26 w_2 fun v27 =>
  HBin .add v27 (.int .i64 4096) fun v28 =>
  HBin .lss v15 v28 fun v29 =>
  HIf v29
  (HBldS (zrow [.int .i64 0] 1) [(0, 1, v15)] 3 1 w_2 fun v33 w_3 =>
  HApp 1 8 [.int .i64 0] 3 v3 v33 w_3 fun v34 w_4 =>
  HBin .add v12 (.int .i64 1) fun v35 =>
  I [v34, v35] w_4 ∧ μ [v34, v35] w_4 < μ [v3, v12] w_2)
  (HBin .add v12 (.int .i64 1) fun v35_1 =>
  I [v3, v35_1] w_2 ∧ μ [v3, v35_1] w_2 < μ [v3, v12] w_2))
  (HBin .add v12 (.int .i64 1) fun v35_2 =>
  I [v3, v35_2] w_2 ∧ μ [v3, v35_2] w_2 < μ [v3, v12] w_2))
  (R v3 w_2)
theorem vc31 (v0 : Value) (w : World) (R : Value → World → Prop) (h : Vc31 v0 w R) : HCall Tryz.prog 31 [v0] w R :=
  funP_sound (JL := [(3, [3, 12], [0, 10, 11])]) (JC := []) Tcall_ok mixed_ok Tryz.func31 (by kernel_rfl) (by kernel_rfl)
    (((by kernel_rfl : funP Tryz.prog Tcall [(3, [3, 12], [0, 10, 11])] [] Tryz.f31 [v0] w R = Vc31 v0 w R)).mpr h)

-- wal.Log.load
def Vc32 (v0 : Value) (v1 : Value) (v2 : Value) (w : World) (R : Value → World → Prop) : Prop :=
  HNil v0 fun v17 =>
  HFld 1 v17 fun v18 =>
  HLd v18 w fun v19 =>
  HCall Tryz.prog 40 [v19, v1] w fun v21 w_1 =>
  HExt 0 v21 fun v22 =>
  HExt 1 v21 fun v23 =>
  HCall Tryz.prog 53 [v22] w_1 fun v26 w_2 =>
  HExt 0 v26 fun v27 =>
  HExt 1 v26 fun v28 =>
  HExt 2 v26 fun v29 =>
  HExt 3 v26 fun v30 =>
  HBin .neq v30 (.int .i64 0) fun v32 =>
  HIf v32
  (R (.tuple #[(.bool false), v2]) w_2)
  (HBld [.int .i64 0, .int .i64 0, .int .i64 0, .slice none 0 0] [(0, 1, v1), (1, 1, v27), (2, 1, v29), (3, 1, v28)] fun v38 =>
  HNew [.int .i64 0, .int .i64 0, .int .i64 0, .slice none 0 0] 97 w_2 fun v14 w_3 =>
  HStN 4 v14 v38 w_3 fun w_4 =>
  ∃ I : List Value → World → Prop, (HNot v2 fun v40 =>
  HIf v40
  (HLenS v22 fun v44 =>
  HBin .neq v29 v44 fun v45 =>
  HIf v45
  (I [(.bool true)] w_4)
  (HLenS v28 fun v48 =>
  HBin .eql v48 (.int .i64 0) fun v49 =>
  HIf v49
  (I [(.bool true)] w_4)
  (HNil v0 fun v54 =>
  HFld 0 v54 fun v55 =>
  HFld 0 v55 fun v56 =>
  HLd v56 w_4 fun v57 =>
  HLenS v57 fun v58 =>
  HBin .gtr v58 (.int .i64 0) fun v59 =>
  HIf v59
  (HNil v0 fun v63 =>
  HFld 0 v63 fun v64 =>
  HCall Tryz.prog 17 [v64] w_4 fun v65 w_5 =>
  HBin .add v65 (.int .i64 1) fun v66 =>
  HBin .neq v27 v66 fun v67 =>
  HIf v67
  (I [(.bool true)] w_5)
  (HLdN 4 v14 w_5 fun v71 =>
  HCall Tryz.prog 46 [v71] w_5 fun v72 w_6 =>
  HBin .sub v72 (.int .i64 1) fun v73 =>
  HBin .gtr v73 (.int .i64 1099511627776) fun v74 =>
  I [v74] w_6))
  (HLdN 4 v14 w_4 fun v71_1 =>
  HCall Tryz.prog 46 [v71_1] w_4 fun v72_1 w_7 =>
  HBin .sub v72_1 (.int .i64 1) fun v73_1 =>
  HBin .gtr v73_1 (.int .i64 1099511627776) fun v74_1 =>
  I [v74_1] w_7))))
  (HNil v0 fun v54_1 =>
  HFld 0 v54_1 fun v55_1 =>
  HFld 0 v55_1 fun v56_1 =>
  HLd v56_1 w_4 fun v57_1 =>
  HLenS v57_1 fun v58_1 =>
  HBin .gtr v58_1 (.int .i64 0) fun v59_1 =>
  HIf v59_1
  (HNil v0 fun v63_1 =>
  HFld 0 v63_1 fun v64_1 =>
  HCall Tryz.prog 17 [v64_1] w_4 fun v65_1 w_8 =>
  HBin .add v65_1 (.int .i64 1) fun v66_1 =>
  HBin .neq v27 v66_1 fun v67_1 =>
  HIf v67_1
  (I [(.bool true)] w_8)
  (HLdN 4 v14 w_8 fun v71_2 =>
  HCall Tryz.prog 46 [v71_2] w_8 fun v72_2 w_9 =>
  HBin .sub v72_2 (.int .i64 1) fun v73_2 =>
  HBin .gtr v73_2 (.int .i64 1099511627776) fun v74_2 =>
  I [v74_2] w_9))
  (HLdN 4 v14 w_4 fun v71_3 =>
  HCall Tryz.prog 46 [v71_3] w_4 fun v72_3 w_10 =>
  HBin .sub v72_3 (.int .i64 1) fun v73_3 =>
  HBin .gtr v73_3 (.int .i64 1099511627776) fun v74_3 =>
  I [v74_3] w_10))) ∧
  ∀ (v75 : Value) w_11, I [v75] w_11 →
  HIf v75
  (R (.tuple #[(.bool true), (.bool false)]) w_11)
  (HDraw w_11 fun w_12 =>
  HNil v0 fun v78 =>
  HFld 0 v78 fun v79 =>
  HFld 0 v79 fun v80 =>
  HLd v80 w_12 fun v81 =>
  HLdN 4 v14 w_12 fun v82 =>
  HBldS (zrow [.int .i64 0, .int .i64 0, .int .i64 0, .slice none 0 0] 1) [(0, 4, v82)] 97 1 w_12 fun v83 w_13 =>
  HLd v80 w_13 fun v81_1 =>
  v81_1 = v81 ∧
  HApp 4 48 [.int .i64 0, .int .i64 0, .int .i64 0, .slice none 0 0] 97 v81 v83 w_13 fun v84 w_14 =>
  HNil v0 fun v85 =>
  HFld 0 v85 fun v86 =>
  HFld 0 v86 fun v87 =>
  HSt v87 v84 w_14 fun w_15 =>
  R (.tuple #[(.bool true), (.bool true)]) w_15))
theorem vc32 (v0 : Value) (v1 : Value) (v2 : Value) (w : World) (R : Value → World → Prop) (h : Vc32 v0 v1 v2 w R) : HCall Tryz.prog 32 [v0, v1, v2] w R :=
  funP_sound (JL := []) (JC := [(7, [75], [0, 14])]) Tcall_ok mixed_ok Tryz.func32 (by kernel_rfl) (by kernel_rfl)
    (((by kernel_rfl : funP Tryz.prog Tcall [] [(7, [75], [0, 14])] Tryz.f32 [v0, v1, v2] w R = Vc32 v0 v1 v2 w R)).mpr h)

-- wal.Log.begin
def Vc33 (v0 : Value) (v1 : Value) (v2 : Value) (w : World) (R : Value → World → Prop) : Prop :=
  HLenS v1 fun v10 =>
  HBin .eql v10 (.int .i64 0) fun v11 =>
  HIf v11
  (R (.int .i64 0) w)
  (HLenS v1 fun v14 =>
  HBin .sub v14 (.int .i64 1) fun v15 =>
  HIdx 1 v1 v15 fun v16 =>
  HLd v16 w fun v17 =>
  HNot v2 fun v19 =>
  HIf v19
  (HNil v0 fun v21 =>
  HFld 1 v21 fun v22 =>
  HLd v22 w fun v23 =>
  HCall Tryz.prog 54 [v23, v17] w fun v25 w_1 =>
  R v25 w_1)
  (HDraw w fun w_2 =>
  HNil v0 fun v27 =>
  HFld 0 v27 fun v28 =>
  HFld 0 v28 fun v29 =>
  HLd v29 w_2 fun v30 =>
  HNil v0 fun v32 =>
  HFld 0 v32 fun v33 =>
  HFld 0 v33 fun v34 =>
  HLd v34 w_2 fun v35 =>
  HLenS v35 fun v36 =>
  HBin .sub v36 (.int .i64 1) fun v37 =>
  HIdx 4 v30 v37 fun v38 =>
  HFld 2 v38 fun v39 =>
  HLd v39 w_2 fun v40 =>
  HNil v0 fun v42 =>
  HFld 1 v42 fun v43 =>
  HLd v43 w_2 fun v44 =>
  HCall Tryz.prog 55 [v44, v17] w_2 fun v46 w_3 =>
  HBin .gtr v46 v40 fun v48 =>
  HIf v48
  (HNil v0 fun v50 =>
  HFld 1 v50 fun v51 =>
  HLd v51 w_3 fun v52 =>
  HCall Tryz.prog 56 [v52, v17, v40] w_3 fun v55 w_4 =>
  R v55 w_4)
  (R (.int .i64 0) w_3)))
theorem vc33 (v0 : Value) (v1 : Value) (v2 : Value) (w : World) (R : Value → World → Prop) (h : Vc33 v0 v1 v2 w R) : HCall Tryz.prog 33 [v0, v1, v2] w R :=
  funP_sound (JL := []) (JC := []) Tcall_ok mixed_ok Tryz.func33 (by kernel_rfl) (by kernel_rfl)
    (((by kernel_rfl : funP Tryz.prog Tcall [] [] Tryz.f33 [v0, v1, v2] w R = Vc33 v0 v1 v2 w R)).mpr h)

-- wal.segment.next
def Vc46 (v0 : Value) (w : World) (R : Value → World → Prop) : Prop :=
  ∃ cs : List Value, v0 = .agg cs.toArray ∧ HNew cs 97 w fun v1 w_1 =>
  HFld 1 v1 fun v3 =>
  HLd v3 w_1 fun v4 =>
  HFld 3 v1 fun v5 =>
  HLd v5 w_1 fun v6 =>
  HLenS v6 fun v7 =>
  HBin .add v4 v7 fun v8 =>
  R v8 w_1
theorem vc46 (v0 : Value) (w : World) (R : Value → World → Prop) (h : Vc46 v0 w R) : HCall Tryz.prog 46 [v0] w R :=
  funP_sound (JL := []) (JC := []) Tcall_ok mixed_ok Tryz.func46 (by kernel_rfl) (by kernel_rfl)
    (((by kernel_rfl : funP Tryz.prog Tcall [] [] Tryz.f46 [v0] w R = Vc46 v0 w R)).mpr h)

-- wal.Log.ready
def Vc47 (v0 : Value) (v1 : Value) (w : World) (R : Value → World → Prop) : Prop :=
  HNew [.int .i64 0, .bool false, .slice none 0 0] 99 w fun v4 w_1 =>
  HCall Tryz.prog 61 [v0, v1] w_1 fun v11 w_2 =>
  HExt 0 v11 fun v12 =>
  HExt 1 v11 fun v13 =>
  HNew [.int .i64 0, .bool false, .slice none 0 0] 99 w_2 fun v6 w_3 =>
  HStN 3 v6 v12 w_3 fun w_4 =>
  HBin .eql v13 (.int .i64 0) fun v15 =>
  HIf v15
  (HCall Tryz.prog 62 [v0] w_4 fun v17 w_5 =>
  HLdN 3 v6 w_5 fun v18 =>
  HStN 3 v4 v18 w_5 fun w_6 =>
  HLdN 3 v4 w_6 fun r =>
  R (.tuple #[r, v17]) w_6)
  (HLdN 3 v6 w_4 fun v18_1 =>
  HStN 3 v4 v18_1 w_4 fun w_7 =>
  HLdN 3 v4 w_7 fun r_1 =>
  R (.tuple #[r_1, v13]) w_7)
theorem vc47 (v0 : Value) (v1 : Value) (w : World) (R : Value → World → Prop) (h : Vc47 v0 v1 w R) : HCall Tryz.prog 47 [v0, v1] w R :=
  funP_sound (JL := []) (JC := []) Tcall_ok mixed_ok Tryz.func47 (by kernel_rfl) (by kernel_rfl)
    (((by kernel_rfl : funP Tryz.prog Tcall [] [] Tryz.f47 [v0, v1] w R = Vc47 v0 v1 w R)).mpr h)

-- wal.Log.plan
def Vc61 (v0 : Value) (v1 : Value) (w : World) (R : Value → World → Prop) : Prop :=
  HNew [.int .i64 0, .bool false, .slice none 0 0] 99 w fun v4 w_1 =>
  HCall Tryz.prog 77 [v1] w_1 fun v14 w_2 =>
  HExt 0 v14 fun v15 =>
  HExt 1 v14 fun v16 =>
  HBin .neq v16 (.int .i64 0) fun v19 =>
  HIf v19
  (HBld [.int .i64 0, .bool false, .slice none 0 0] [] fun v20 =>
  HStN 3 v4 v20 w_2 fun w_3 =>
  HLdN 3 v4 w_3 fun r =>
  R (.tuple #[r, v16]) w_3)
  (HNil v0 fun v24 =>
  HFld 1 v24 fun v25 =>
  HLd v25 w_2 fun v26 =>
  HCall Tryz.prog 30 [v26] w_2 fun v27 w_4 =>
  HIf v27
  (HBld [.int .i64 0, .bool false, .slice none 0 0] [] fun v28 =>
  HStN 3 v4 v28 w_4 fun w_5 =>
  HLdN 3 v4 w_5 fun r_1 =>
  R (.tuple #[r_1, (.int .i64 8)]) w_5)
  (HNil v0 fun v31 =>
  HFld 0 v31 fun v32 =>
  HCall Tryz.prog 17 [v32] w_4 fun v33 w_6 =>
  HBin .geq v33 (.int .i64 1099511627776) fun v34 =>
  HIf v34
  (HBld [.int .i64 0, .bool false, .slice none 0 0] [] fun v35 =>
  HStN 3 v4 v35 w_6 fun w_7 =>
  HLdN 3 v4 w_7 fun r_2 =>
  R (.tuple #[r_2, (.int .i64 7)]) w_7)
  (HNil v0 fun v37 =>
  HFld 2 v37 fun v38 =>
  HLd v38 w_6 fun v39 =>
  ∃ I : List Value → World → Prop, (HNil v0 fun v41 =>
  HFld 0 v41 fun v42 =>
  HFld 0 v42 fun v43 =>
  HLd v43 w_6 fun v44 =>
  HLenS v44 fun v45 =>
  HBin .gtr v45 (.int .i64 0) fun v47 =>
  HIf v47
  (HNil v0 fun v49 =>
  HFld 0 v49 fun v50 =>
  HFld 0 v50 fun v51 =>
  HLd v51 w_6 fun v52 =>
  HBin .sub v45 (.int .i64 1) fun v54 =>
  HIdx 4 v52 v54 fun v55 =>
  HLdN 4 v55 w_6 fun v56 =>
  HNew [.int .i64 0, .int .i64 0, .int .i64 0, .slice none 0 0] 97 w_6 fun v10 w_8 =>
  HStN 4 v10 v56 w_8 fun w_9 =>
  HDraw w_9 fun w_10 =>
  HFld 3 v10 fun v57 =>
  HLd v57 w_10 fun v58 =>
  HLenS v58 fun v59 =>
  HBin .eql v59 (.int .i64 0) fun v60 =>
  HIf v60
  (HFld 0 v10 fun v73 =>
  HLd v73 w_10 fun v74 =>
  HBld [.int .i64 0, .bool false, .slice none 0 0] [(0, 1, v74), (1, 1, (.bool false)), (2, 1, v15)] fun v76 =>
  HStN 3 v4 v76 w_10 fun w_11 =>
  HLdN 3 v4 w_11 fun r_3 =>
  R (.tuple #[r_3, (.int .i64 0)]) w_11)
  (HFld 2 v10 fun v62 =>
  HLd v62 w_10 fun v63 =>
  HLenS v15 fun v65 =>
  HBin .add v63 v65 fun v66 =>
  HNil v0 fun v68 =>
  HFld 3 v68 fun v69 =>
  HLd v69 w_10 fun v70 =>
  HBin .leq v66 v70 fun v71 =>
  HIf v71
  (HFld 0 v10 fun v73_1 =>
  HLd v73_1 w_10 fun v74_1 =>
  HBld [.int .i64 0, .bool false, .slice none 0 0] [(0, 1, v74_1), (1, 1, (.bool false)), (2, 1, v15)] fun v76_1 =>
  HStN 3 v4 v76_1 w_10 fun w_12 =>
  HLdN 3 v4 w_12 fun r_4 =>
  R (.tuple #[r_4, (.int .i64 0)]) w_12)
  (HFld 0 v10 fun v77 =>
  HLd v77 w_10 fun v78 =>
  HBin .add v78 (.int .i64 1) fun v79 =>
  I [v79] w_10)))
  (I [v39] w_6)) ∧
  ∀ (v8 : Value) w_13, I [v8] w_13 →
  HNil v0 fun v82 =>
  HFld 2 v82 fun v83 =>
  HLd v83 w_13 fun v84 =>
  HBin .add v84 (.int .i64 4096) fun v85 =>
  HBin .geq v8 v85 fun v86 =>
  HIf v86
  (HBld [.int .i64 0, .bool false, .slice none 0 0] [] fun v87 =>
  HStN 3 v4 v87 w_13 fun w_14 =>
  HLdN 3 v4 w_14 fun r_5 =>
  R (.tuple #[r_5, (.int .i64 7)]) w_14)
  (HNil v0 fun v90 =>
  HFld 0 v90 fun v91 =>
  HCall Tryz.prog 17 [v91] w_13 fun v92 w_15 =>
  HBin .add v92 (.int .i64 1) fun v93 =>
  HCall Tryz.prog 78 [v93] w_15 fun v94 w_16 =>
  HExt 0 v94 fun v95 =>
  HExt 1 v94 fun v96 =>
  HBldS (zrow [.slice none 0 0] 2) [(0, 1, v95), (1, 1, v15)] 31 2 w_16 fun v100 w_17 =>
  HCall Tryz.prog 79 [v100] w_17 fun v101 w_18 =>
  HBld [.int .i64 0, .bool false, .slice none 0 0] [(0, 1, v8), (1, 1, (.bool true)), (2, 1, v101)] fun v102 =>
  HStN 3 v4 v102 w_18 fun w_19 =>
  HLdN 3 v4 w_19 fun r_6 =>
  R (.tuple #[r_6, v96]) w_19))))
theorem vc61 (v0 : Value) (v1 : Value) (w : World) (R : Value → World → Prop) (h : Vc61 v0 v1 w R) : HCall Tryz.prog 61 [v0, v1] w R :=
  funP_sound (JL := []) (JC := [(15, [8], [0, 4, 6])]) Tcall_ok mixed_ok Tryz.func61 (by kernel_rfl) (by kernel_rfl)
    (((by kernel_rfl : funP Tryz.prog Tcall [] [(15, [8], [0, 4, 6])] Tryz.f61 [v0, v1] w R = Vc61 v0 v1 w R)).mpr h)

-- wal.Log.mend
def Vc62 (v0 : Value) (w : World) (R : Value → World → Prop) : Prop :=
  HNil v0 fun v6 =>
  HFld 4 v6 fun v7 =>
  HLd v7 w fun v8 =>
  HEq (.pointer 138) false v8 (.pointer Option.none) fun v10 =>
  HIf v10
  (R (.int .i64 0) w)
  (HNil v8 fun v12 =>
  HFld 2 v12 fun v13 =>
  HLd v13 w fun v14 =>
  HIf v14
  (HDraw w fun w_1 =>
  HNil v0 fun v16 =>
  HFld 1 v16 fun v17 =>
  HLd v17 w_1 fun v18 =>
  HNil v8 fun v20 =>
  HFld 0 v20 fun v21 =>
  HLd v21 w_1 fun v22 =>
  HCall Tryz.prog 54 [v18, v22] w_1 fun v23 w_2 =>
  HBin .eql v23 (.int .i64 0) fun v38 =>
  HIf v38
  (HNil v0 fun v40 =>
  HFld 4 v40 fun v41 =>
  HSt v41 (.pointer Option.none) w_2 fun w_3 =>
  R v23 w_3)
  (R v23 w_2))
  (HDraw w fun w_4 =>
  HNil v0 fun v25 =>
  HFld 1 v25 fun v26 =>
  HLd v26 w_4 fun v27 =>
  HNil v8 fun v29 =>
  HFld 0 v29 fun v30 =>
  HLd v30 w_4 fun v31 =>
  HNil v8 fun v33 =>
  HFld 1 v33 fun v34 =>
  HLd v34 w_4 fun v35 =>
  HCall Tryz.prog 56 [v27, v31, v35] w_4 fun v36 w_5 =>
  HBin .eql v36 (.int .i64 0) fun v38_1 =>
  HIf v38_1
  (HNil v0 fun v40_1 =>
  HFld 4 v40_1 fun v41_1 =>
  HSt v41_1 (.pointer Option.none) w_5 fun w_6 =>
  R v36 w_6)
  (R v36 w_5)))
theorem vc62 (v0 : Value) (w : World) (R : Value → World → Prop) (h : Vc62 v0 w R) : HCall Tryz.prog 62 [v0] w R :=
  funP_sound (JL := []) (JC := []) Tcall_ok mixed_ok Tryz.func62 (by kernel_rfl) (by kernel_rfl)
    (((by kernel_rfl : funP Tryz.prog Tcall [] [] Tryz.f62 [v0] w R = Vc62 v0 w R)).mpr h)

-- qanatlaw06.WalOpens
def Vc3 (v0 : Value) (v1 : Value) (v2 : Value) (w : World) (R : Value → World → Prop) : Prop :=
  HCall Tryz.prog 4 [] w fun v17 w_1 =>
  HBld [.slice none 0 0, .int .i64 0, .bool false, .int .i64 0] [] fun v18 =>
  ∃ cs : List Value, v18 = .agg cs.toArray ∧ HNew cs 28 w_1 fun v19 w_2 =>
  HCall Tryz.prog 5 [] w_2 fun v20 w_3 =>
  HNot v20 fun v21 =>
  HIf v21
  (R (.bool false) w_3)
  (HEq (.pointer 51) false v17 (.pointer Option.none) fun v24 =>
  HIf v24
  (R (.bool false) w_3)
  (∃ I : List Value → World → Prop, (∃ (I_1 : List Value → World → Prop) (μ : List Value → World → Nat), I_1 [(.int .i64 1), (.int .i64 0)] w_3 ∧
  ∀ (v9 : Value) (v10 : Value) w_4, I_1 [v9, v10] w_4 →
  HLenS v2 fun v28 =>
  HBin .lss v10 v28 fun v29 =>
  HIf v29
  (HBin .lss v10 (.int .i64 5) fun v32 =>
  HIf v32
  (HBin .add (.int .i64 40) v10 fun v37 =>
  ∃ I_2 : List Value → World → Prop, (HIdx 4 v2 v10 fun v40 =>
  HFld 0 v40 fun v41 =>
  HLd v41 w_4 fun v42 =>
  HCall Tryz.prog 6 [v42, (.int .i64 6)] w_4 fun v43 w_5 =>
  HBin .eql v43 (.int .i64 5) fun v44 =>
  HIf v44
  (HIdx 4 v2 v10 fun v47 =>
  HFld 0 v47 fun v48 =>
  HLd v48 w_5 fun v49 =>
  HCall Tryz.prog 6 [v49, (.int .i64 60)] w_5 fun v50 w_6 =>
  I_2 [v50] w_6)
  (I_2 [v37] w_5)) ∧
  ∀ (v11 : Value) w_7, I_2 [v11] w_7 →
  HIdx 4 v2 v10 fun v53 =>
  HFld 1 v53 fun v54 =>
  HLd v54 w_7 fun v55 =>
  HIdx 4 v2 v10 fun v58 =>
  HFld 0 v58 fun v59 =>
  HLd v59 w_7 fun v60 =>
  HCall Tryz.prog 6 [v60, (.int .i64 5)] w_7 fun v61 w_8 =>
  HBin .gtr v61 (.int .i64 0) fun v62 =>
  HIf v62
  (∃ I_3 : List Value → World → Prop, (HIdx 4 v2 v10 fun v65 =>
  HFld 2 v65 fun v66 =>
  HLd v66 w_8 fun v67 =>
  HBin .rem v67 (.int .i64 4) fun v68 =>
  HBin .eql v68 (.int .i64 3) fun v69 =>
  HIf v69
  (HIdx 4 v2 v10 fun v72 =>
  HFld 2 v72 fun v73 =>
  HLd v73 w_8 fun v74 =>
  HCall Tryz.prog 7 [v74, (.int .i64 1099511627776)] w_8 fun v75 w_9 =>
  HBin .add (.int .i64 1) v75 fun v76 =>
  I_3 [v76] w_9)
  (I_3 [v9] w_8)) ∧
  ∀ (v9_1 : Value) w_10, I_3 [v9_1] w_10 →
  HDraw w_10 fun w_11 =>
  HIdx 4 v2 v10 fun v80 =>
  HFld 3 v80 fun v81 =>
  HLd v81 w_11 fun v82 =>
  HIdx 4 v2 v10 fun v85 =>
  HFld 2 v85 fun v86 =>
  HLd v86 w_11 fun v87 =>
  HBin .rem v87 (.int .i64 3) fun v88 =>
  HBin .eql v88 (.int .i64 2) fun v89 =>
  HCall Tryz.prog 8 [v9_1, v82, v89, v55] w_11 fun v91 w_12 =>
  HIdx 4 v2 v10 fun v95 =>
  HFld 3 v95 fun v96 =>
  HLd v96 w_12 fun v97 =>
  HLenS v97 fun v98 =>
  HMin v98 (.int .i64 6) fun v99 =>
  HBin .add v9_1 v99 fun v100 =>
  HCall Tryz.prog 9 [v17, v11, v91] w_12 fun v104 w_13 =>
  HCall Tryz.prog 10 [v19, v11, v91] w_13 fun v108 w_14 =>
  HBin .add v10 (.int .i64 1) fun v35 =>
  I_1 [v100, v35] w_14 ∧ μ [v100, v35] w_14 < μ [v9, v10] w_4)
  (HCall Tryz.prog 9 [v17, v11, v55] w_8 fun v104_1 w_15 =>
  HCall Tryz.prog 10 [v19, v11, v55] w_15 fun v108_1 w_16 =>
  HBin .add v10 (.int .i64 1) fun v35_1 =>
  I_1 [v9, v35_1] w_16 ∧ μ [v9, v35_1] w_16 < μ [v9, v10] w_4))
  (I [] w_4))
  (I [] w_4)) ∧
  ∀ w_17, I [] w_17 →
  ∃ I_4 : List Value → World → Prop, (HCall Tryz.prog 6 [v1, (.int .i64 9)] w_17 fun v110 w_18 =>
  HBin .lss v110 (.int .i64 8) fun v111 =>
  HIf v111
  (HCall Tryz.prog 11 [v1] w_18 fun v113 w_19 =>
  I_4 [(.int .i64 40), v113] w_19)
  (I_4 [v0, v1] w_18)) ∧
  ∀ (v0_1 : Value) (v1_1 : Value) w_20, I_4 [v0_1, v1_1] w_20 →
  HCall Tryz.prog 12 [v17, v0_1, v1_1] w_20 fun v118 w_21 =>
  HExt 0 v118 fun v119 =>
  HExt 1 v118 fun v120 =>
  HCall Tryz.prog 13 [v19, v0_1, v1_1] w_21 fun v125 w_22 =>
  HExt 0 v125 fun v126 =>
  HExt 1 v125 fun v127 =>
  HBin .neq v120 v127 fun v130 =>
  HIf v130
  (R (.bool false) w_22)
  (HEq (.pointer 58) false v119 (.pointer Option.none) fun v133 =>
  HEq (.pointer 85) false v126 (.pointer Option.none) fun v135 =>
  HEq .bool true v133 v135 fun v136 =>
  HIf v136
  (R (.bool false) w_22)
  (HCall Tryz.prog 14 [v17, v19] w_22 fun v141 w_23 =>
  HNot v141 fun v142 =>
  HIf v142
  (R (.bool false) w_23)
  (HEq (.pointer 85) false v126 (.pointer Option.none) fun v145 =>
  HIf v145
  (R (.bool true) w_23)
  (HCall Tryz.prog 15 [v119, v126] w_23 fun v149 w_24 =>
  R v149 w_24))))))
theorem vc3 (v0 : Value) (v1 : Value) (v2 : Value) (w : World) (R : Value → World → Prop) (h : Vc3 v0 v1 v2 w R) : HCall Tryz.prog 3 [v0, v1, v2] w R :=
  funP_sound (JL := [(6, [9, 10], [0, 1, 2, 7, 8])]) (JC := [(19, [], [0, 1, 7, 8]), (11, [11], [0, 1, 2, 7, 8, 9, 10]), (15, [9], [0, 1, 2, 7, 8, 10, 11, 12]), (21, [0, 1], [7, 8])]) Tcall_ok mixed_ok Tryz.func3 (by kernel_rfl) (by kernel_rfl)
    (((by kernel_rfl : funP Tryz.prog Tcall [(6, [9, 10], [0, 1, 2, 7, 8])] [(19, [], [0, 1, 7, 8]), (11, [11], [0, 1, 2, 7, 8, 9, 10]), (15, [9], [0, 1, 2, 7, 8, 10, 11, 12]), (21, [0, 1], [7, 8])] Tryz.f3 [v0, v1, v2] w R = Vc3 v0 v1 v2 w R)).mpr h)

-- qanatlaw06.awake
def Vc5 (w : World) (R : Value → World → Prop) : Prop :=
  HCall Tryz.prog 4 [] w fun v8 w_1 =>
  HCall Tryz.prog 12 [v8, (.int .i64 16), (.int .i64 64)] w_1 fun v11 w_2 =>
  HExt 0 v11 fun v12 =>
  HExt 1 v11 fun v13 =>
  HEq (.pointer 51) false v8 (.pointer Option.none) fun v15 =>
  HIf v15
  (R (.bool false) w_2)
  (HEq (.pointer 58) false v12 (.pointer Option.none) fun v18 =>
  HIf v18
  (R (.bool false) w_2)
  (HBin .neq v13 (.int .i64 0) fun v22 =>
  HIf v22
  (R (.bool false) w_2)
  (HNil v12 fun v26 =>
  HFld 0 v26 fun v27 =>
  HCall Tryz.prog 16 [v27] w_2 fun v28 w_3 =>
  HBin .neq v28 (.int .i64 1) fun v29 =>
  HIf v29
  (R (.bool false) w_3)
  (HNil v12 fun v33 =>
  HFld 0 v33 fun v34 =>
  HCall Tryz.prog 17 [v34] w_3 fun v35 w_4 =>
  HBin .neq v35 (.int .i64 0) fun v36 =>
  HIf v36
  (R (.bool false) w_4)
  (HBldS (zrow [.int .u8 0] 1) [(0, 1, (.int .u8 97))] 5 1 w_4 fun v40 w_5 =>
  HRun Tryz.prog (convert 31 31 v40) w_5 fun v41 w_6 =>
  HCall Tryz.prog 18 [v12, v41] w_6 fun v42 w_7 =>
  HExt 0 v42 fun v43 =>
  HExt 1 v42 fun v44 =>
  HNil v12 fun v47 =>
  HFld 0 v47 fun v48 =>
  HCall Tryz.prog 19 [v48, (.int .i64 1)] w_7 fun v49 w_8 =>
  HExt 0 v49 fun v50 =>
  HExt 1 v49 fun v51 =>
  HBin .eql v43 (.int .i64 1) fun v53 =>
  HIf v53
  (HBin .eql v44 (.int .i64 0) fun v56 =>
  HIf v56
  (HBin .eql v51 (.int .i64 0) fun v60 =>
  HIf v60
  (HRq Tryz.prog (convert 31 9 v50) w_8 fun v64 =>
  HBin .eql v64 (.string { data := #[97] }) fun v65 =>
  HIf v65
  (HNil v12 fun v69 =>
  HFld 0 v69 fun v70 =>
  HCall Tryz.prog 20 [v70] w_8 fun v71 w_9 =>
  HBin .eql v71 (.int .i64 1) fun v72 =>
  HIf v72
  (HCall Tryz.prog 21 [v8] w_9 fun v76 w_10 =>
  HBin .eql v76 (.int .i64 2) fun v77 =>
  R v77 w_10)
  (R (.bool false) w_9))
  (R (.bool false) w_8))
  (R (.bool false) w_8))
  (R (.bool false) w_8))
  (R (.bool false) w_8))))))
theorem vc5 (w : World) (R : Value → World → Prop) (h : Vc5 w R) : HCall Tryz.prog 5 [] w R :=
  funP_sound (JL := []) (JC := []) Tcall_ok mixed_ok Tryz.func5 (by kernel_rfl) (by kernel_rfl)
    (((by kernel_rfl : funP Tryz.prog Tcall [] [] Tryz.f5 [] w R = Vc5 w R)).mpr h)

-- qanatlaw06.segment
def Vc8 (v0 : Value) (v1 : Value) (v2 : Value) (v3 : Value) (w : World) (R : Value → World → Prop) : Prop :=
  HCall Tryz.prog 22 [v0] w fun v14 w_1 =>
  HExt 0 v14 fun v15 =>
  HExt 1 v14 fun v16 =>
  HBin .neq v16 (.int .i64 0) fun v18 =>
  HIf v18
  (R v3 w_1)
  (∃ (I : List Value → World → Prop) (μ : List Value → World → Nat), I [v15, (.int .i64 0)] w_1 ∧
  ∀ (v9 : Value) (v11 : Value) w_2, I [v9, v11] w_2 →
  HLenS v1 fun v22 =>
  HBin .lss v11 v22 fun v23 =>
  HIf v23
  (HBin .lss v11 (.int .i64 6) fun v26 =>
  HIf v26
  (HIdx 1 v1 v11 fun v33 =>
  HLd v33 w_2 fun v34 =>
  HCall Tryz.prog 23 [v34] w_2 fun v35 w_3 =>
  HApp 1 1 [.int .u8 0] 5 v9 v35 w_3 fun v36 w_4 =>
  HBin .add v11 (.int .i64 1) fun v29 =>
  I [v36, v29] w_4 ∧ μ [v36, v29] w_4 < μ [v9, v11] w_2)
  (HIf v2
  (HApp 1 1 [.int .u8 0] 5 v9 v3 w_2 fun v40 w_5 =>
  R v40 w_5)
  (R v9 w_2)))
  (HIf v2
  (HApp 1 1 [.int .u8 0] 5 v9 v3 w_2 fun v40_1 w_6 =>
  R v40_1 w_6)
  (R v9 w_2)))
theorem vc8 (v0 : Value) (v1 : Value) (v2 : Value) (v3 : Value) (w : World) (R : Value → World → Prop) (h : Vc8 v0 v1 v2 v3 w R) : HCall Tryz.prog 8 [v0, v1, v2, v3] w R :=
  funP_sound (JL := [(5, [9, 11], [1, 2, 3])]) (JC := []) Tcall_ok mixed_ok Tryz.func8 (by kernel_rfl) (by kernel_rfl)
    (((by kernel_rfl : funP Tryz.prog Tcall [(5, [9, 11], [1, 2, 3])] [] Tryz.f8 [v0, v1, v2, v3] w R = Vc8 v0 v1 v2 v3 w R)).mpr h)

-- qanatlaw06.size
def Vc11 (v0 : Value) (w : World) (R : Value → World → Prop) : Prop :=
  HBldS (zrow [.int .i64 0] 6) [(0, 1, (.int .i64 64)), (1, 1, (.int .i64 65)), (2, 1, (.int .i64 100)), (3, 1, (.int .i64 200)), (4, 1, (.int .i64 1000)), (5, 1, (.int .i64 65536))] 3 6 w fun v3 w_1 =>
  HCall Tryz.prog 6 [v0, (.int .i64 6)] w_1 fun v5 w_2 =>
  HIdx 1 v3 v5 fun v6 =>
  HLd v6 w_2 fun v7 =>
  R v7 w_2
theorem vc11 (v0 : Value) (w : World) (R : Value → World → Prop) (h : Vc11 v0 w R) : HCall Tryz.prog 11 [v0] w R :=
  funP_sound (JL := []) (JC := []) Tcall_ok mixed_ok Tryz.func11 (by kernel_rfl) (by kernel_rfl)
    (((by kernel_rfl : funP Tryz.prog Tcall [] [] Tryz.f11 [v0] w R = Vc11 v0 w R)).mpr h)

-- qanatlaw06.disks
def Vc14 (v0 : Value) (v1 : Value) (w : World) (R : Value → World → Prop) : Prop :=
  HCall Tryz.prog 39 [v0] w fun v10 w_1 =>
  HDraw w_1 fun w_2 =>
  HLenS v10 fun v12 =>
  HNil v1 fun v14 =>
  HFld 0 v14 fun v15 =>
  HLd v15 w_2 fun v16 =>
  HLenS v16 fun v17 =>
  HBin .neq v12 v17 fun v18 =>
  HIf v18
  (R (.bool false) w_2)
  (HNil v1 fun v23 =>
  HFld 2 v23 fun v24 =>
  HLd v24 w_2 fun v25 =>
  HCall Tryz.prog 30 [v0] w_2 fun v21 w_3 =>
  HLd v24 w_3 fun v25_1 =>
  v25_1 = v25 ∧
  HEq .bool true v21 v25 fun v26 =>
  HIf v26
  (R (.bool false) w_3)
  (HNil v1 fun v32 =>
  HFld 3 v32 fun v33 =>
  HLd v33 w_3 fun v34 =>
  HCall Tryz.prog 21 [v0] w_3 fun v30 w_4 =>
  HLd v33 w_4 fun v34_1 =>
  v34_1 = v34 ∧
  HBin .neq v30 v34 fun v35 =>
  HIf v35
  (R (.bool false) w_4)
  (∃ (I : List Value → World → Prop) (μ : List Value → World → Nat), I [(.int .i64 0)] w_4 ∧
  ∀ (v6 : Value) w_5, I [v6] w_5 →
  HLenS v10 fun v39 =>
  HBin .lss v6 v39 fun v40 =>
  HIf v40
  (HIdx 1 v10 v6 fun v47 =>
  HLd v47 w_5 fun v48 =>
  HCall Tryz.prog 40 [v0, v48] w_5 fun v49 w_6 =>
  HExt 0 v49 fun v50 =>
  HExt 1 v49 fun v51 =>
  HDraw w_6 fun w_7 =>
  HNot v51 fun v53 =>
  HIf v53
  (R (.bool false) w_7)
  (HIdx 1 v10 v6 fun v57 =>
  HLd v57 w_7 fun v58 =>
  HNil v1 fun v60 =>
  HFld 0 v60 fun v61 =>
  HLd v61 w_7 fun v62 =>
  HIdx 3 v62 v6 fun v64 =>
  HFld 0 v64 fun v65 =>
  HLd v65 w_7 fun v66 =>
  HBin .neq v58 v66 fun v67 =>
  HIf v67
  (R (.bool false) w_7)
  (HNil v1 fun v72 =>
  HFld 0 v72 fun v73 =>
  HLd v73 w_7 fun v74 =>
  HIdx 3 v74 v6 fun v76 =>
  HFld 2 v76 fun v77 =>
  HLd v77 w_7 fun v78 =>
  HCall Tryz.prog 41 [v50, v78] w_7 fun v79 w_8 =>
  HNot v79 fun v80 =>
  HIf v80
  (R (.bool false) w_8)
  (HIdx 1 v10 v6 fun v86 =>
  HLd v86 w_8 fun v87 =>
  HNil v1 fun v90 =>
  HFld 0 v90 fun v91 =>
  HLd v91 w_8 fun v92 =>
  HIdx 3 v92 v6 fun v94 =>
  HFld 1 v94 fun v95 =>
  HLd v95 w_8 fun v96 =>
  HCall Tryz.prog 42 [v0, v87] w_8 fun v88 w_9 =>
  HLd v91 w_9 fun v92_1 =>
  v92_1 = v92 ∧
  HLd v95 w_9 fun v96_1 =>
  v96_1 = v96 ∧
  HBin .neq v88 v96 fun v97 =>
  HIf v97
  (R (.bool false) w_9)
  (HBin .add v6 (.int .i64 1) fun v42 =>
  I [v42] w_9 ∧ μ [v42] w_9 < μ [v6] w_5)))))
  (R (.bool true) w_5))))
theorem vc14 (v0 : Value) (v1 : Value) (w : World) (R : Value → World → Prop) (h : Vc14 v0 v1 w R) : HCall Tryz.prog 14 [v0, v1] w R :=
  funP_sound (JL := [(5, [6], [0, 1, 5])]) (JC := []) Tcall_ok mixed_ok Tryz.func14 (by kernel_rfl) (by kernel_rfl)
    (((by kernel_rfl : funP Tryz.prog Tcall [(5, [6], [0, 1, 5])] [] Tryz.f14 [v0, v1] w R = Vc14 v0 v1 w R)).mpr h)

-- qanatlaw06.logs
def Vc15 (v0 : Value) (v1 : Value) (w : World) (R : Value → World → Prop) : Prop :=
  HDraw w fun w_1 =>
  HNil v0 fun v11 =>
  HFld 0 v11 fun v12 =>
  HCall Tryz.prog 16 [v12] w_1 fun v13 w_2 =>
  HCall Tryz.prog 43 [v1] w_2 fun v15 w_3 =>
  HBin .neq v13 v15 fun v16 =>
  HIf v16
  (R (.bool false) w_3)
  (HNil v0 fun v19 =>
  HFld 0 v19 fun v20 =>
  HCall Tryz.prog 17 [v20] w_3 fun v21 w_4 =>
  HCall Tryz.prog 44 [v1] w_4 fun v23 w_5 =>
  HBin .neq v21 v23 fun v24 =>
  HIf v24
  (R (.bool false) w_5)
  (HNil v0 fun v28 =>
  HFld 0 v28 fun v29 =>
  HNil v1 fun v32 =>
  HFld 3 v32 fun v33 =>
  HLd v33 w_5 fun v34 =>
  HLenS v34 fun v35 =>
  HCall Tryz.prog 20 [v29] w_5 fun v30 w_6 =>
  HLd v33 w_6 fun v34_1 =>
  v34_1 = v34 ∧
  HBin .neq v30 v35 fun v36 =>
  HIf v36
  (R (.bool false) w_6)
  (HCall Tryz.prog 43 [v1] w_6 fun v39 w_7 =>
  HBin .sub v39 (.int .i64 1) fun v40 =>
  ∃ (I : List Value → World → Prop) (μ : List Value → World → Nat), I [v40] w_7 ∧
  ∀ (v5 : Value) w_8, I [v5] w_8 →
  HCall Tryz.prog 44 [v1] w_8 fun v43 w_9 =>
  HBin .add v43 (.int .i64 1) fun v44 =>
  HBin .leq v5 v44 fun v45 =>
  HIf v45
  (HNil v0 fun v50 =>
  HFld 0 v50 fun v51 =>
  HCall Tryz.prog 19 [v51, v5] w_9 fun v53 w_10 =>
  HExt 0 v53 fun v54 =>
  HExt 1 v53 fun v55 =>
  HCall Tryz.prog 45 [v1, v5] w_10 fun v59 w_11 =>
  HExt 0 v59 fun v60 =>
  HExt 1 v59 fun v61 =>
  HBin .neq v55 v61 fun v64 =>
  HIf v64
  (R (.bool false) w_11)
  (HCall Tryz.prog 41 [v54, v60] w_11 fun v68 w_12 =>
  HNot v68 fun v69 =>
  HIf v69
  (R (.bool false) w_12)
  (HBin .add v5 (.int .i64 1) fun v47 =>
  I [v47] w_12 ∧ μ [v47] w_12 < μ [v5] w_8)))
  (R (.bool true) w_9))))
theorem vc15 (v0 : Value) (v1 : Value) (w : World) (R : Value → World → Prop) (h : Vc15 v0 v1 w R) : HCall Tryz.prog 15 [v0, v1] w R :=
  funP_sound (JL := [(4, [5], [0, 1])]) (JC := []) Tcall_ok mixed_ok Tryz.func15 (by kernel_rfl) (by kernel_rfl)
    (((by kernel_rfl : funP Tryz.prog Tcall [(4, [5], [0, 1])] [] Tryz.f15 [v0, v1] w R = Vc15 v0 v1 w R)).mpr h)

-- qanatlaw06.record
def Vc23 (v0 : Value) (w : World) (R : Value → World → Prop) : Prop :=
  HCall Tryz.prog 52 [v0] w fun v7 w_1 =>
  HExt 0 v7 fun v8 =>
  HExt 1 v7 fun v9 =>
  R v8 w_1
theorem vc23 (v0 : Value) (w : World) (R : Value → World → Prop) (h : Vc23 v0 w R) : HCall Tryz.prog 23 [v0] w R :=
  funP_sound (JL := []) (JC := []) Tcall_ok mixed_ok Tryz.func23 (by kernel_rfl) (by kernel_rfl)
    (((by kernel_rfl : funP Tryz.prog Tcall [] [] Tryz.f23 [v0] w R = Vc23 v0 w R)).mpr h)

end Go.Proofs.YtmcglicbolhmfaaGreat
