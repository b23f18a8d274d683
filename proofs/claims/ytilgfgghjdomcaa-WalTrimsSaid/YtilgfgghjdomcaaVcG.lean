/-
  What calls of functions ask, printed by a program of mine (gen.py) out of the functions' code; each is checked by the kernel.
-/
import Derived.Test.YtilgfgghjdomcaaTab
namespace Go.Proofs.Ytilgfgghjdomcaa
set_option linter.unusedVariables false
set_option maxRecDepth 100000
open Go.RowKit

-- disk.New
def Vc7 (w : World) (R : Value → World → Prop) : Prop :=
  HBld [.map none, .bool false, .int .i64 0, .int .i64 0] [(0, 1, (.map (some w.heap.size)))] fun v2 =>
  ∃ cs : List Value, v2 = .agg cs.toArray ∧ HNew cs 60 (w.alloc (.map #[] 0)) fun v3 w_1 =>
  R v3 w_1
theorem vc7 (w : World) (R : Value → World → Prop) (h : Vc7 w R) : HCall Try.prog 7 [] w R :=
  funP_sound (JL := []) (JC := []) Tcall_ok mixed_ok Try.func7 (by kernel_rfl) (by kernel_rfl)
    (((by kernel_rfl : funP Try.prog Tcall [] [] Try.f7 [] w R = Vc7 w R)).mpr h)

-- disk.Disk.Files
def Vc12 (v0 : Value) (w : World) (R : Value → World → Prop) : Prop :=
  HNil v0 fun v4 =>
  HFld 0 v4 fun v5 =>
  HLd v5 w fun v6 =>
  HCall Try.prog 35 [v6] w fun v7 w_1 =>
  HCall Try.prog 34 [v7] w_1 fun v8 w_2 =>
  R v8 w_2
theorem vc12 (v0 : Value) (w : World) (R : Value → World → Prop) (h : Vc12 v0 w R) : HCall Try.prog 12 [v0] w R :=
  funP_sound (JL := []) (JC := []) Tcall_ok mixed_ok Try.func12 (by kernel_rfl) (by kernel_rfl)
    (((by kernel_rfl : funP Try.prog Tcall [] [] Try.f12 [v0] w R = Vc12 v0 w R)).mpr h)

-- disk.Disk.Read
def Vc13 (v0 : Value) (v1 : Value) (w : World) (R : Value → World → Prop) : Prop :=
  HNil v0 fun v8 =>
  HFld 0 v8 fun v9 =>
  HLd v9 w fun v10 =>
  HRq Try.prog (Instr.lookup 58 v10 v1 false) w fun v12 =>
  HEq (.pointer 80) false v12 (.pointer Option.none) fun v14 =>
  HIf v14
  (R (.tuple #[(.slice Option.none 0 0), (.bool false)]) w)
  (HNil v12 fun v16 =>
  HFld 0 v16 fun v17 =>
  HLd v17 w fun v18 =>
  HCall Try.prog 33 [v18] w fun v19 w_1 =>
  R (.tuple #[v19, (.bool true)]) w_1)
theorem vc13 (v0 : Value) (v1 : Value) (w : World) (R : Value → World → Prop) (h : Vc13 v0 v1 w R) : HCall Try.prog 13 [v0, v1] w R :=
  funP_sound (JL := []) (JC := []) Tcall_ok mixed_ok Try.func13 (by kernel_rfl) (by kernel_rfl)
    (((by kernel_rfl : funP Try.prog Tcall [] [] Try.f13 [v0, v1] w R = Vc13 v0 v1 w R)).mpr h)

-- disk.Disk.Cut
def Vc14 (v0 : Value) (v1 : Value) (v2 : Value) (w : World) (R : Value → World → Prop) : Prop :=
  HCall Try.prog 36 [v0, v1] w fun v12 w_1 =>
  HExt 0 v12 fun v13 =>
  HExt 1 v12 fun v14 =>
  ∃ I : List Value → World → Prop, (HBin .eql v14 (.int .i64 0) fun v16 =>
  HIf v16
  (HBin .lss v2 (.int .i64 0) fun v19 =>
  HIf v19
  (I [(.int .i64 1)] w_1)
  (HNil v13 fun v23 =>
  HFld 0 v23 fun v24 =>
  HLd v24 w_1 fun v25 =>
  HLenS v25 fun v26 =>
  HBin .gtr v2 v26 fun v27 =>
  HIf v27
  (I [(.int .i64 1)] w_1)
  (I [v14] w_1)))
  (I [v14] w_1)) ∧
  ∀ (v8 : Value) w_2, I [v8] w_2 →
  HBin .eql v8 (.int .i64 0) fun v31 =>
  HIf v31
  (HCall Try.prog 37 [v0] w_2 fun v33 w_3 =>
  HBin .eql v33 (.int .i64 0) fun v35 =>
  HIf v35
  (HCall Try.prog 38 [v13, v2] w_3 fun v38 w_4 =>
  R v33 w_4)
  (R v33 w_3))
  (HBin .eql v8 (.int .i64 0) fun v35_1 =>
  HIf v35_1
  (HCall Try.prog 38 [v13, v2] w_2 fun v38_1 w_5 =>
  R v8 w_5)
  (R v8 w_2))
theorem vc14 (v0 : Value) (v1 : Value) (v2 : Value) (w : World) (R : Value → World → Prop) (h : Vc14 v0 v1 v2 w R) : HCall Try.prog 14 [v0, v1, v2] w R :=
  funP_sound (JL := []) (JC := [(4, [8], [0, 2, 7])]) Tcall_ok mixed_ok Try.func14 (by kernel_rfl) (by kernel_rfl)
    (((by kernel_rfl : funP Try.prog Tcall [] [(4, [8], [0, 2, 7])] Try.f14 [v0, v1, v2] w R = Vc14 v0 v1 v2 w R)).mpr h)

-- qanatplay.Mod
def Vc15 (v0 : Value) (v1 : Value) (w : World) (R : Value → World → Prop) : Prop :=
  HCvI .u64 v0 fun v6 =>
  HCvI .u64 v1 fun v8 =>
  HBin .rem v6 v8 fun v9 =>
  HCvI .i64 v9 fun v10 =>
  R v10 w
theorem vc15 (v0 : Value) (v1 : Value) (w : World) (R : Value → World → Prop) (h : Vc15 v0 v1 w R) : HCall Try.prog 15 [v0, v1] w R :=
  funP_sound (JL := []) (JC := []) Tcall_ok mixed_ok Try.func15 (by kernel_rfl) (by kernel_rfl)
    (((by kernel_rfl : funP Try.prog Tcall [] [] Try.f15 [v0, v1] w R = Vc15 v0 v1 w R)).mpr h)

-- qanathelp.Bytes
def Vc18 (v0 : Value) (v1 : Value) (w : World) (R : Value → World → Prop) : Prop :=
  HRq Try.prog (convert 23 9 v0) w fun v6 =>
  HRq Try.prog (convert 23 9 v1) w fun v8 =>
  HBin .eql v6 v8 fun v9 =>
  R v9 w
theorem vc18 (v0 : Value) (v1 : Value) (w : World) (R : Value → World → Prop) (h : Vc18 v0 v1 w R) : HCall Try.prog 18 [v0, v1] w R :=
  funP_sound (JL := []) (JC := []) Tcall_ok mixed_ok Try.func18 (by kernel_rfl) (by kernel_rfl)
    (((by kernel_rfl : funP Try.prog Tcall [] [] Try.f18 [v0, v1] w R = Vc18 v0 v1 w R)).mpr h)

-- disk.Disk.Down
def Vc19 (v0 : Value) (w : World) (R : Value → World → Prop) : Prop :=
  HNil v0 fun v4 =>
  HFld 1 v4 fun v5 =>
  HLd v5 w fun v6 =>
  R v6 w
theorem vc19 (v0 : Value) (w : World) (R : Value → World → Prop) (h : Vc19 v0 w R) : HCall Try.prog 19 [v0] w R :=
  funP_sound (JL := []) (JC := []) Tcall_ok mixed_ok Try.func19 (by kernel_rfl) (by kernel_rfl)
    (((by kernel_rfl : funP Try.prog Tcall [] [] Try.f19 [v0] w R = Vc19 v0 w R)).mpr h)

-- disk.Disk.Arm
def Vc23 (v0 : Value) (v1 : Value) (w : World) (R : Value → World → Prop) : Prop :=
  HMax v1 (.int .i64 0) fun v6 =>
  HNil v0 fun v7 =>
  HFld 2 v7 fun v8 =>
  HSt v8 v6 w fun w_1 =>
  R (.tuple #[]) w_1
theorem vc23 (v0 : Value) (v1 : Value) (w : World) (R : Value → World → Prop) (h : Vc23 v0 v1 w R) : HCall Try.prog 23 [v0, v1] w R :=
  funP_sound (JL := []) (JC := []) Tcall_ok mixed_ok Try.func23 (by kernel_rfl) (by kernel_rfl)
    (((by kernel_rfl : funP Try.prog Tcall [] [] Try.f23 [v0, v1] w R = Vc23 v0 v1 w R)).mpr h)

-- disk.Disk.Crash
def Vc24 (v0 : Value) (v1 : Value) (w : World) (R : Value → World → Prop) : Prop :=
  HCall Try.prog 12 [v0] w fun v9 w_1 =>
  HLenS v9 fun v10 =>
  ∃ (I : List Value → World → Prop) (μ : List Value → World → Nat), I [(.int .i64 0)] w_1 ∧
  ∀ (v11 : Value) w_2, I [v11] w_2 →
  HBin .lss v11 v10 fun v12 =>
  HIf v12
  (HIdx 1 v9 v11 fun v14 =>
  HLd v14 w_2 fun v15 =>
  HNil v0 fun v17 =>
  HFld 0 v17 fun v18 =>
  HLd v18 w_2 fun v19 =>
  HRq Try.prog (Instr.lookup 58 v19 v15 false) w_2 fun v21 =>
  ∃ I_1 : List Value → World → Prop, (HLenS v1 fun v24 =>
  HBin .lss v11 v24 fun v25 =>
  HIf v25
  (HIdx 1 v1 v11 fun v29 =>
  HLd v29 w_2 fun v30 =>
  HBin .gtr v30 (.int .i64 0) fun v31 =>
  HIf v31
  (HDraw w_2 fun w_3 =>
  HIdx 1 v1 v11 fun v35 =>
  HLd v35 w_3 fun v36 =>
  HNil v21 fun v38 =>
  HFld 0 v38 fun v39 =>
  HLd v39 w_3 fun v40 =>
  HLenS v40 fun v41 =>
  HNil v21 fun v43 =>
  HFld 1 v43 fun v44 =>
  HLd v44 w_3 fun v45 =>
  HBin .sub v41 v45 fun v46 =>
  HBin .add v46 (.int .i64 1) fun v47 =>
  HBin .rem v36 v47 fun v48 =>
  I_1 [v48] w_3)
  (I_1 [(.int .i64 0)] w_2))
  (I_1 [(.int .i64 0)] w_2)) ∧
  ∀ (v7 : Value) w_4, I_1 [v7] w_4 →
  HNil v21 fun v51 =>
  HFld 1 v51 fun v52 =>
  HLd v52 w_4 fun v53 =>
  HBin .add v53 v7 fun v55 =>
  HCall Try.prog 38 [v21, v55] w_4 fun v56 w_5 =>
  HNil v21 fun v59 =>
  HFld 0 v59 fun v60 =>
  HLd v60 w_5 fun v61 =>
  HLenS v61 fun v62 =>
  HNil v21 fun v63 =>
  HFld 1 v63 fun v64 =>
  HSt v64 v62 w_5 fun w_6 =>
  HBin .add v11 (.int .i64 1) fun v65 =>
  I [v65] w_6 ∧ μ [v65] w_6 < μ [v11] w_2)
  (HNil v0 fun v68 =>
  HFld 1 v68 fun v69 =>
  HSt v69 (.bool false) w_2 fun w_7 =>
  HNil v0 fun v70 =>
  HFld 2 v70 fun v71 =>
  HSt v71 (.int .i64 0) w_7 fun w_8 =>
  R (.tuple #[]) w_8)
theorem vc24 (v0 : Value) (v1 : Value) (w : World) (R : Value → World → Prop) (h : Vc24 v0 v1 w R) : HCall Try.prog 24 [v0, v1] w R :=
  funP_sound (JL := [(1, [11], [0, 1, 9, 10])]) (JC := [(7, [7], [0, 1, 6, 9, 10, 11])]) Tcall_ok mixed_ok Try.func24 (by kernel_rfl) (by kernel_rfl)
    (((by kernel_rfl : funP Try.prog Tcall [(1, [11], [0, 1, 9, 10])] [(7, [7], [0, 1, 6, 9, 10, 11])] Try.f24 [v0, v1] w R = Vc24 v0 v1 w R)).mpr h)

-- disk.Disk.Ops
def Vc29 (v0 : Value) (w : World) (R : Value → World → Prop) : Prop :=
  HNil v0 fun v4 =>
  HFld 3 v4 fun v5 =>
  HLd v5 w fun v6 =>
  R v6 w
theorem vc29 (v0 : Value) (w : World) (R : Value → World → Prop) (h : Vc29 v0 w R) : HCall Try.prog 29 [v0] w R :=
  funP_sound (JL := []) (JC := []) Tcall_ok mixed_ok Try.func29 (by kernel_rfl) (by kernel_rfl)
    (((by kernel_rfl : funP Try.prog Tcall [] [] Try.f29 [v0] w R = Vc29 v0 w R)).mpr h)

-- disk.Disk.Append
def Vc31 (v0 : Value) (v1 : Value) (v2 : Value) (w : World) (R : Value → World → Prop) : Prop :=
  HCall Try.prog 45 [v0, v1] w fun v11 w_1 =>
  HBin .neq v11 (.int .i64 0) fun v13 =>
  HIf v13
  (R v11 w_1)
  (HNil v0 fun v16 =>
  HFld 0 v16 fun v17 =>
  HLd v17 w_1 fun v18 =>
  HRq Try.prog (Instr.lookup 58 v18 v1 false) w_1 fun v20 =>
  HEq (.pointer 80) false v20 (.pointer Option.none) fun v22 =>
  HIf v22
  (HBld [.slice none 0 0, .int .i64 0] [] fun v23 =>
  ∃ cs : List Value, v23 = .agg cs.toArray ∧ HNew cs 80 w_1 fun v24 w_2 =>
  HNil v0 fun v26 =>
  HFld 0 v26 fun v27 =>
  HLd v27 w_2 fun v28 =>
  HRun Try.prog (do Instr.mapUpdate 58 v28 v1 v24; pure undef) w_2 fun u w_3 =>
  HNil v24 fun v33 =>
  HFld 0 v33 fun v34 =>
  HLd v34 w_3 fun v35 =>
  HApp 1 1 [.int .u8 0] 5 v35 v2 w_3 fun v37 w_4 =>
  HNil v24 fun v38 =>
  HFld 0 v38 fun v39 =>
  HSt v39 v37 w_4 fun w_5 =>
  HCall Try.prog 37 [v0] w_5 fun v41 w_6 =>
  R v41 w_6)
  (HNil v20 fun v33_1 =>
  HFld 0 v33_1 fun v34_1 =>
  HLd v34_1 w_1 fun v35_1 =>
  HApp 1 1 [.int .u8 0] 5 v35_1 v2 w_1 fun v37_1 w_7 =>
  HNil v20 fun v38_1 =>
  HFld 0 v38_1 fun v39_1 =>
  HSt v39_1 v37_1 w_7 fun w_8 =>
  HCall Try.prog 37 [v0] w_8 fun v41_1 w_9 =>
  R v41_1 w_9))
theorem vc31 (v0 : Value) (v1 : Value) (v2 : Value) (w : World) (R : Value → World → Prop) (h : Vc31 v0 v1 v2 w R) : HCall Try.prog 31 [v0, v1, v2] w R :=
  funP_sound (JL := []) (JC := []) Tcall_ok mixed_ok Try.func31 (by kernel_rfl) (by kernel_rfl)
    (((by kernel_rfl : funP Try.prog Tcall [] [] Try.f31 [v0, v1, v2] w R = Vc31 v0 v1 v2 w R)).mpr h)

-- disk.Disk.Sync
def Vc32 (v0 : Value) (v1 : Value) (w : World) (R : Value → World → Prop) : Prop :=
  HCall Try.prog 36 [v0, v1] w fun v10 w_1 =>
  HExt 0 v10 fun v11 =>
  HExt 1 v10 fun v12 =>
  HBin .eql v12 (.int .i64 0) fun v14 =>
  HIf v14
  (HCall Try.prog 37 [v0] w_1 fun v16 w_2 =>
  HBin .eql v16 (.int .i64 0) fun v18 =>
  HIf v18
  (HNil v11 fun v21 =>
  HFld 0 v21 fun v22 =>
  HLd v22 w_2 fun v23 =>
  HLenS v23 fun v24 =>
  HNil v11 fun v25 =>
  HFld 1 v25 fun v26 =>
  HSt v26 v24 w_2 fun w_3 =>
  R v16 w_3)
  (R v16 w_2))
  (HBin .eql v12 (.int .i64 0) fun v18_1 =>
  HIf v18_1
  (HNil v11 fun v21_1 =>
  HFld 0 v21_1 fun v22_1 =>
  HLd v22_1 w_1 fun v23_1 =>
  HLenS v23_1 fun v24_1 =>
  HNil v11 fun v25_1 =>
  HFld 1 v25_1 fun v26_1 =>
  HSt v26_1 v24_1 w_1 fun w_4 =>
  R v12 w_4)
  (R v12 w_1))
theorem vc32 (v0 : Value) (v1 : Value) (w : World) (R : Value → World → Prop) (h : Vc32 v0 v1 w R) : HCall Try.prog 32 [v0, v1] w R :=
  funP_sound (JL := []) (JC := []) Tcall_ok mixed_ok Try.func32 (by kernel_rfl) (by kernel_rfl)
    (((by kernel_rfl : funP Try.prog Tcall [] [] Try.f32 [v0, v1] w R = Vc32 v0 v1 w R)).mpr h)

-- slices.Clone[[]byte,byte]
def Vc33 (v0 : Value) (w : World) (R : Value → World → Prop) : Prop :=
  HEq (.slice 5) false v0 (.slice Option.none 0 0) fun v4 =>
  HIf v4
  (R (.slice Option.none 0 0) w)
  (HBldS (zrow [.int .u8 0] 0) [] 5 0 w fun v5 w_1 =>
  HApp 1 1 [.int .u8 0] 5 v5 v0 w_1 fun v7 w_2 =>
  R v7 w_2)
theorem vc33 (v0 : Value) (w : World) (R : Value → World → Prop) (h : Vc33 v0 w R) : HCall Try.prog 33 [v0] w R :=
  funP_sound (JL := []) (JC := []) Tcall_ok mixed_ok Try.func33 (by kernel_rfl) (by kernel_rfl)
    (((by kernel_rfl : funP Try.prog Tcall [] [] Try.f33 [v0] w R = Vc33 v0 w R)).mpr h)

-- disk.Disk.find
def Vc36 (v0 : Value) (v1 : Value) (w : World) (R : Value → World → Prop) : Prop :=
  HCall Try.prog 45 [v0, v1] w fun v10 w_1 =>
  HBin .neq v10 (.int .i64 0) fun v12 =>
  HIf v12
  (R (.tuple #[(.pointer Option.none), v10]) w_1)
  (HNil v0 fun v15 =>
  HFld 0 v15 fun v16 =>
  HLd v16 w_1 fun v17 =>
  HRq Try.prog (Instr.lookup 58 v17 v1 false) w_1 fun v19 =>
  HEq (.pointer 80) false v19 (.pointer Option.none) fun v21 =>
  HIf v21
  (R (.tuple #[(.pointer Option.none), (.int .i64 5)]) w_1)
  (R (.tuple #[v19, (.int .i64 0)]) w_1))
theorem vc36 (v0 : Value) (v1 : Value) (w : World) (R : Value → World → Prop) (h : Vc36 v0 v1 w R) : HCall Try.prog 36 [v0, v1] w R :=
  funP_sound (JL := []) (JC := []) Tcall_ok mixed_ok Try.func36 (by kernel_rfl) (by kernel_rfl)
    (((by kernel_rfl : funP Try.prog Tcall [] [] Try.f36 [v0, v1] w R = Vc36 v0 v1 w R)).mpr h)

-- disk.Disk.count
def Vc37 (v0 : Value) (w : World) (R : Value → World → Prop) : Prop :=
  HNil v0 fun v4 =>
  HFld 3 v4 fun v5 =>
  HLd v5 w fun v6 =>
  HBin .add v6 (.int .i64 1) fun v7 =>
  HNil v0 fun v8 =>
  HFld 3 v8 fun v9 =>
  HSt v9 v7 w fun w_1 =>
  HNil v0 fun v11 =>
  HFld 2 v11 fun v12 =>
  HLd v12 w_1 fun v13 =>
  HBin .gtr v13 (.int .i64 0) fun v14 =>
  HIf v14
  (HNil v0 fun v16 =>
  HFld 2 v16 fun v17 =>
  HLd v17 w_1 fun v18 =>
  HBin .sub v18 (.int .i64 1) fun v19 =>
  HNil v0 fun v20 =>
  HFld 2 v20 fun v21 =>
  HSt v21 v19 w_1 fun w_2 =>
  HNil v0 fun v24 =>
  HFld 2 v24 fun v25 =>
  HLd v25 w_2 fun v26 =>
  HBin .eql v26 (.int .i64 0) fun v27 =>
  HNil v0 fun v28 =>
  HFld 1 v28 fun v29 =>
  HSt v29 v27 w_2 fun w_3 =>
  HNil v0 fun v31 =>
  HFld 1 v31 fun v32 =>
  HLd v32 w_3 fun v33 =>
  HIf v33
  (R (.int .i64 8) w_3)
  (R (.int .i64 0) w_3))
  (HNil v0 fun v31_1 =>
  HFld 1 v31_1 fun v32_1 =>
  HLd v32_1 w_1 fun v33_1 =>
  HIf v33_1
  (R (.int .i64 8) w_1)
  (R (.int .i64 0) w_1))
theorem vc37 (v0 : Value) (w : World) (R : Value → World → Prop) (h : Vc37 v0 w R) : HCall Try.prog 37 [v0] w R :=
  funP_sound (JL := []) (JC := []) Tcall_ok mixed_ok Try.func37 (by kernel_rfl) (by kernel_rfl)
    (((by kernel_rfl : funP Try.prog Tcall [] [] Try.f37 [v0] w R = Vc37 v0 w R)).mpr h)

-- disk.file.cut
def Vc38 (v0 : Value) (v1 : Value) (w : World) (R : Value → World → Prop) : Prop :=
  HNil v0 fun v6 =>
  HFld 0 v6 fun v7 =>
  HLd v7 w fun v8 =>
  HSl 1 v8 none (some v1) none fun v10 =>
  HCall Try.prog 33 [v10] w fun v11 w_1 =>
  HNil v0 fun v12 =>
  HFld 0 v12 fun v13 =>
  HSt v13 v11 w_1 fun w_2 =>
  HNil v0 fun v16 =>
  HFld 1 v16 fun v17 =>
  HLd v17 w_2 fun v18 =>
  HMin v18 v1 fun v20 =>
  HNil v0 fun v21 =>
  HFld 1 v21 fun v22 =>
  HSt v22 v20 w_2 fun w_3 =>
  R (.tuple #[]) w_3
theorem vc38 (v0 : Value) (v1 : Value) (w : World) (R : Value → World → Prop) (h : Vc38 v0 v1 w R) : HCall Try.prog 38 [v0, v1] w R :=
  funP_sound (JL := []) (JC := []) Tcall_ok mixed_ok Try.func38 (by kernel_rfl) (by kernel_rfl)
    (((by kernel_rfl : funP Try.prog Tcall [] [] Try.f38 [v0, v1] w R = Vc38 v0 v1 w R)).mpr h)

-- disk.Disk.Remove
def Vc40 (v0 : Value) (v1 : Value) (w : World) (R : Value → World → Prop) : Prop :=
  HCall Try.prog 36 [v0, v1] w fun v10 w_1 =>
  HExt 0 v10 fun v11 =>
  HExt 1 v10 fun v12 =>
  HBin .eql v12 (.int .i64 0) fun v14 =>
  HIf v14
  (HCall Try.prog 37 [v0] w_1 fun v16 w_2 =>
  HBin .eql v16 (.int .i64 0) fun v18 =>
  HIf v18
  (HNil v0 fun v20 =>
  HFld 0 v20 fun v21 =>
  HLd v21 w_2 fun v22 =>
  HRun Try.prog (Builtin.delete_ #[58, 3] 0 [v22, v1].toArray) w_2 fun u w_3 =>
  R v16 w_3)
  (R v16 w_2))
  (HBin .eql v12 (.int .i64 0) fun v18_1 =>
  HIf v18_1
  (HNil v0 fun v20_1 =>
  HFld 0 v20_1 fun v21_1 =>
  HLd v21_1 w_1 fun v22_1 =>
  HRun Try.prog (Builtin.delete_ #[58, 3] 0 [v22_1, v1].toArray) w_1 fun u_1 w_4 =>
  R v12 w_4)
  (R v12 w_1))
theorem vc40 (v0 : Value) (v1 : Value) (w : World) (R : Value → World → Prop) (h : Vc40 v0 v1 w R) : HCall Try.prog 40 [v0, v1] w R :=
  funP_sound (JL := []) (JC := []) Tcall_ok mixed_ok Try.func40 (by kernel_rfl) (by kernel_rfl)
    (((by kernel_rfl : funP Try.prog Tcall [] [] Try.f40 [v0, v1] w R = Vc40 v0 v1 w R)).mpr h)

-- disk.Disk.Len
def Vc42 (v0 : Value) (v1 : Value) (w : World) (R : Value → World → Prop) : Prop :=
  HNil v0 fun v7 =>
  HFld 0 v7 fun v8 =>
  HLd v8 w fun v9 =>
  HRq Try.prog (Instr.lookup 58 v9 v1 false) w fun v11 =>
  HEq (.pointer 80) true v11 (.pointer Option.none) fun v13 =>
  HIf v13
  (HNil v11 fun v15 =>
  HFld 0 v15 fun v16 =>
  HLd v16 w fun v17 =>
  HLenS v17 fun v18 =>
  R v18 w)
  (R (.int .i64 (-1)) w)
theorem vc42 (v0 : Value) (v1 : Value) (w : World) (R : Value → World → Prop) (h : Vc42 v0 v1 w R) : HCall Try.prog 42 [v0, v1] w R :=
  funP_sound (JL := []) (JC := []) Tcall_ok mixed_ok Try.func42 (by kernel_rfl) (by kernel_rfl)
    (((by kernel_rfl : funP Try.prog Tcall [] [] Try.f42 [v0, v1] w R = Vc42 v0 v1 w R)).mpr h)

-- disk.Disk.may
def Vc45 (v0 : Value) (v1 : Value) (w : World) (R : Value → World → Prop) : Prop :=
  HNil v0 fun v7 =>
  HFld 1 v7 fun v8 =>
  HLd v8 w fun v9 =>
  HIf v9
  (R (.int .i64 8) w)
  (HBin .lss v1 (.int .i64 0) fun v12 =>
  HIf v12
  (R (.int .i64 1) w)
  (HBin .geq v1 (.int .i64 16384) fun v15 =>
  HIf v15
  (R (.int .i64 1) w)
  (R (.int .i64 0) w)))
theorem vc45 (v0 : Value) (v1 : Value) (w : World) (R : Value → World → Prop) (h : Vc45 v0 v1 w R) : HCall Try.prog 45 [v0, v1] w R :=
  funP_sound (JL := []) (JC := []) Tcall_ok mixed_ok Try.func45 (by kernel_rfl) (by kernel_rfl)
    (((by kernel_rfl : funP Try.prog Tcall [] [] Try.f45 [v0, v1] w R = Vc45 v0 v1 w R)).mpr h)

end Go.Proofs.Ytilgfgghjdomcaa
