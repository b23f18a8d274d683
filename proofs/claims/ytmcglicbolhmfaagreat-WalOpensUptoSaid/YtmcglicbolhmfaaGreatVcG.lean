/-
  What calls of functions ask, printed by a program of mine (gen.py) out of the functions' code; each is checked by the kernel.
-/
import Derived.Test.YtmcglicbolhmfaaGreatTab
namespace Go.Proofs.YtmcglicbolhmfaaGreat
set_option linter.unusedVariables false
set_option maxRecDepth 100000
open Go.RowKit

-- disk.New
def Vc4 (w : World) (R : Value → World → Prop) : Prop :=
  HBld [.map none, .bool false, .int .i64 0, .int .i64 0] [(0, 1, (.map (some w.heap.size)))] fun v2 =>
  ∃ cs : List Value, v2 = .agg cs.toArray ∧ HNew cs 51 (w.alloc (.map #[] 0)) fun v3 w_1 =>
  R v3 w_1
theorem vc4 (w : World) (R : Value → World → Prop) (h : Vc4 w R) : HCall Tryz.prog 4 [] w R :=
  funP_sound (JL := []) (JC := []) Tcall_ok mixed_ok Tryz.func4 (by kernel_rfl) (by kernel_rfl)
    (((by kernel_rfl : funP Tryz.prog Tcall [] [] Tryz.f4 [] w R = Vc4 w R)).mpr h)

-- disk.Disk.Append
def Vc9 (v0 : Value) (v1 : Value) (v2 : Value) (w : World) (R : Value → World → Prop) : Prop :=
  HCall Tryz.prog 24 [v0, v1] w fun v11 w_1 =>
  HBin .neq v11 (.int .i64 0) fun v13 =>
  HIf v13
  (R v11 w_1)
  (HNil v0 fun v16 =>
  HFld 0 v16 fun v17 =>
  HLd v17 w_1 fun v18 =>
  HRq Tryz.prog (Instr.lookup 49 v18 v1 false) w_1 fun v20 =>
  HEq (.pointer 70) false v20 (.pointer Option.none) fun v22 =>
  HIf v22
  (HBld [.slice none 0 0, .int .i64 0] [] fun v23 =>
  ∃ cs : List Value, v23 = .agg cs.toArray ∧ HNew cs 70 w_1 fun v24 w_2 =>
  HNil v0 fun v26 =>
  HFld 0 v26 fun v27 =>
  HLd v27 w_2 fun v28 =>
  HRun Tryz.prog (do Instr.mapUpdate 49 v28 v1 v24; pure undef) w_2 fun u w_3 =>
  HNil v24 fun v33 =>
  HFld 0 v33 fun v34 =>
  HLd v34 w_3 fun v35 =>
  HApp 1 1 [.int .u8 0] 5 v35 v2 w_3 fun v37 w_4 =>
  HNil v24 fun v38 =>
  HFld 0 v38 fun v39 =>
  HSt v39 v37 w_4 fun w_5 =>
  HCall Tryz.prog 25 [v0] w_5 fun v41 w_6 =>
  R v41 w_6)
  (HNil v20 fun v33_1 =>
  HFld 0 v33_1 fun v34_1 =>
  HLd v34_1 w_1 fun v35_1 =>
  HApp 1 1 [.int .u8 0] 5 v35_1 v2 w_1 fun v37_1 w_7 =>
  HNil v20 fun v38_1 =>
  HFld 0 v38_1 fun v39_1 =>
  HSt v39_1 v37_1 w_7 fun w_8 =>
  HCall Tryz.prog 25 [v0] w_8 fun v41_1 w_9 =>
  R v41_1 w_9))
theorem vc9 (v0 : Value) (v1 : Value) (v2 : Value) (w : World) (R : Value → World → Prop) (h : Vc9 v0 v1 v2 w R) : HCall Tryz.prog 9 [v0, v1, v2] w R :=
  funP_sound (JL := []) (JC := []) Tcall_ok mixed_ok Tryz.func9 (by kernel_rfl) (by kernel_rfl)
    (((by kernel_rfl : funP Tryz.prog Tcall [] [] Tryz.f9 [v0, v1, v2] w R = Vc9 v0 v1 v2 w R)).mpr h)

-- disk.Disk.Ops
def Vc21 (v0 : Value) (w : World) (R : Value → World → Prop) : Prop :=
  HNil v0 fun v4 =>
  HFld 3 v4 fun v5 =>
  HLd v5 w fun v6 =>
  R v6 w
theorem vc21 (v0 : Value) (w : World) (R : Value → World → Prop) (h : Vc21 v0 w R) : HCall Tryz.prog 21 [v0] w R :=
  funP_sound (JL := []) (JC := []) Tcall_ok mixed_ok Tryz.func21 (by kernel_rfl) (by kernel_rfl)
    (((by kernel_rfl : funP Tryz.prog Tcall [] [] Tryz.f21 [v0] w R = Vc21 v0 w R)).mpr h)

-- disk.Disk.may
def Vc24 (v0 : Value) (v1 : Value) (w : World) (R : Value → World → Prop) : Prop :=
  HNil v0 fun v7 =>
  HFld 1 v7 fun v8 =>
  HLd v8 w fun v9 =>
  HIf v9
  (R (.int .i64 8) w)
  (HBin .lss v1 (.int .i64 0) fun v12 =>
  HIf v12
  (R (.int .i64 1) w)
  (HBin .geq v1 (.int .i64 16384) fun v15 =>
  HIf v15
  (R (.int .i64 1) w)
  (R (.int .i64 0) w)))
theorem vc24 (v0 : Value) (v1 : Value) (w : World) (R : Value → World → Prop) (h : Vc24 v0 v1 w R) : HCall Tryz.prog 24 [v0, v1] w R :=
  funP_sound (JL := []) (JC := []) Tcall_ok mixed_ok Tryz.func24 (by kernel_rfl) (by kernel_rfl)
    (((by kernel_rfl : funP Tryz.prog Tcall [] [] Tryz.f24 [v0, v1] w R = Vc24 v0 v1 w R)).mpr h)

-- disk.Disk.count
def Vc25 (v0 : Value) (w : World) (R : Value → World → Prop) : Prop :=
  HNil v0 fun v4 =>
  HFld 3 v4 fun v5 =>
  HLd v5 w fun v6 =>
  HBin .add v6 (.int .i64 1) fun v7 =>
  HNil v0 fun v8 =>
  HFld 3 v8 fun v9 =>
  HSt v9 v7 w fun w_1 =>
  HNil v0 fun v11 =>
  HFld 2 v11 fun v12 =>
  HLd v12 w_1 fun v13 =>
  HBin .gtr v13 (.int .i64 0) fun v14 =>
  HIf v14
  (HNil v0 fun v16 =>
  HFld 2 v16 fun v17 =>
  HLd v17 w_1 fun v18 =>
  HBin .sub v18 (.int .i64 1) fun v19 =>
  HNil v0 fun v20 =>
  HFld 2 v20 fun v21 =>
  HSt v21 v19 w_1 fun w_2 =>
  HNil v0 fun v24 =>
  HFld 2 v24 fun v25 =>
  HLd v25 w_2 fun v26 =>
  HBin .eql v26 (.int .i64 0) fun v27 =>
  HNil v0 fun v28 =>
  HFld 1 v28 fun v29 =>
  HSt v29 v27 w_2 fun w_3 =>
  HNil v0 fun v31 =>
  HFld 1 v31 fun v32 =>
  HLd v32 w_3 fun v33 =>
  HIf v33
  (R (.int .i64 8) w_3)
  (R (.int .i64 0) w_3))
  (HNil v0 fun v31_1 =>
  HFld 1 v31_1 fun v32_1 =>
  HLd v32_1 w_1 fun v33_1 =>
  HIf v33_1
  (R (.int .i64 8) w_1)
  (R (.int .i64 0) w_1))
theorem vc25 (v0 : Value) (w : World) (R : Value → World → Prop) (h : Vc25 v0 w R) : HCall Tryz.prog 25 [v0] w R :=
  funP_sound (JL := []) (JC := []) Tcall_ok mixed_ok Tryz.func25 (by kernel_rfl) (by kernel_rfl)
    (((by kernel_rfl : funP Tryz.prog Tcall [] [] Tryz.f25 [v0] w R = Vc25 v0 w R)).mpr h)

-- disk.Disk.Down
def Vc30 (v0 : Value) (w : World) (R : Value → World → Prop) : Prop :=
  HNil v0 fun v4 =>
  HFld 1 v4 fun v5 =>
  HLd v5 w fun v6 =>
  R v6 w
theorem vc30 (v0 : Value) (w : World) (R : Value → World → Prop) (h : Vc30 v0 w R) : HCall Tryz.prog 30 [v0] w R :=
  funP_sound (JL := []) (JC := []) Tcall_ok mixed_ok Tryz.func30 (by kernel_rfl) (by kernel_rfl)
    (((by kernel_rfl : funP Tryz.prog Tcall [] [] Tryz.f30 [v0] w R = Vc30 v0 w R)).mpr h)

-- disk.Disk.Files
def Vc39 (v0 : Value) (w : World) (R : Value → World → Prop) : Prop :=
  HNil v0 fun v4 =>
  HFld 0 v4 fun v5 =>
  HLd v5 w fun v6 =>
  HCall Tryz.prog 60 [v6] w fun v7 w_1 =>
  HCall Tryz.prog 59 [v7] w_1 fun v8 w_2 =>
  R v8 w_2
theorem vc39 (v0 : Value) (w : World) (R : Value → World → Prop) (h : Vc39 v0 w R) : HCall Tryz.prog 39 [v0] w R :=
  funP_sound (JL := []) (JC := []) Tcall_ok mixed_ok Tryz.func39 (by kernel_rfl) (by kernel_rfl)
    (((by kernel_rfl : funP Tryz.prog Tcall [] [] Tryz.f39 [v0] w R = Vc39 v0 w R)).mpr h)

-- disk.Disk.Read
def Vc40 (v0 : Value) (v1 : Value) (w : World) (R : Value → World → Prop) : Prop :=
  HNil v0 fun v8 =>
  HFld 0 v8 fun v9 =>
  HLd v9 w fun v10 =>
  HRq Tryz.prog (Instr.lookup 49 v10 v1 false) w fun v12 =>
  HEq (.pointer 70) false v12 (.pointer Option.none) fun v14 =>
  HIf v14
  (R (.tuple #[(.slice Option.none 0 0), (.bool false)]) w)
  (HNil v12 fun v16 =>
  HFld 0 v16 fun v17 =>
  HLd v17 w fun v18 =>
  HCall Tryz.prog 49 [v18] w fun v19 w_1 =>
  R (.tuple #[v19, (.bool true)]) w_1)
theorem vc40 (v0 : Value) (v1 : Value) (w : World) (R : Value → World → Prop) (h : Vc40 v0 v1 w R) : HCall Tryz.prog 40 [v0, v1] w R :=
  funP_sound (JL := []) (JC := []) Tcall_ok mixed_ok Tryz.func40 (by kernel_rfl) (by kernel_rfl)
    (((by kernel_rfl : funP Tryz.prog Tcall [] [] Tryz.f40 [v0, v1] w R = Vc40 v0 v1 w R)).mpr h)

-- disk.Disk.Synced
def Vc42 (v0 : Value) (v1 : Value) (w : World) (R : Value → World → Prop) : Prop :=
  HNil v0 fun v7 =>
  HFld 0 v7 fun v8 =>
  HLd v8 w fun v9 =>
  HRq Tryz.prog (Instr.lookup 49 v9 v1 false) w fun v11 =>
  HEq (.pointer 70) true v11 (.pointer Option.none) fun v13 =>
  HIf v13
  (HNil v11 fun v15 =>
  HFld 1 v15 fun v16 =>
  HLd v16 w fun v17 =>
  R v17 w)
  (R (.int .i64 (-1)) w)
theorem vc42 (v0 : Value) (v1 : Value) (w : World) (R : Value → World → Prop) (h : Vc42 v0 v1 w R) : HCall Tryz.prog 42 [v0, v1] w R :=
  funP_sound (JL := []) (JC := []) Tcall_ok mixed_ok Tryz.func42 (by kernel_rfl) (by kernel_rfl)
    (((by kernel_rfl : funP Tryz.prog Tcall [] [] Tryz.f42 [v0, v1] w R = Vc42 v0 v1 w R)).mpr h)

-- disk.Disk.Sync
def Vc48 (v0 : Value) (v1 : Value) (w : World) (R : Value → World → Prop) : Prop :=
  HCall Tryz.prog 63 [v0, v1] w fun v10 w_1 =>
  HExt 0 v10 fun v11 =>
  HExt 1 v10 fun v12 =>
  HBin .eql v12 (.int .i64 0) fun v14 =>
  HIf v14
  (HCall Tryz.prog 25 [v0] w_1 fun v16 w_2 =>
  HBin .eql v16 (.int .i64 0) fun v18 =>
  HIf v18
  (HNil v11 fun v21 =>
  HFld 0 v21 fun v22 =>
  HLd v22 w_2 fun v23 =>
  HLenS v23 fun v24 =>
  HNil v11 fun v25 =>
  HFld 1 v25 fun v26 =>
  HSt v26 v24 w_2 fun w_3 =>
  R v16 w_3)
  (R v16 w_2))
  (HBin .eql v12 (.int .i64 0) fun v18_1 =>
  HIf v18_1
  (HNil v11 fun v21_1 =>
  HFld 0 v21_1 fun v22_1 =>
  HLd v22_1 w_1 fun v23_1 =>
  HLenS v23_1 fun v24_1 =>
  HNil v11 fun v25_1 =>
  HFld 1 v25_1 fun v26_1 =>
  HSt v26_1 v24_1 w_1 fun w_4 =>
  R v12 w_4)
  (R v12 w_1))
theorem vc48 (v0 : Value) (v1 : Value) (w : World) (R : Value → World → Prop) (h : Vc48 v0 v1 w R) : HCall Tryz.prog 48 [v0, v1] w R :=
  funP_sound (JL := []) (JC := []) Tcall_ok mixed_ok Tryz.func48 (by kernel_rfl) (by kernel_rfl)
    (((by kernel_rfl : funP Tryz.prog Tcall [] [] Tryz.f48 [v0, v1] w R = Vc48 v0 v1 w R)).mpr h)

-- disk.Disk.Remove
def Vc54 (v0 : Value) (v1 : Value) (w : World) (R : Value → World → Prop) : Prop :=
  HCall Tryz.prog 63 [v0, v1] w fun v10 w_1 =>
  HExt 0 v10 fun v11 =>
  HExt 1 v10 fun v12 =>
  HBin .eql v12 (.int .i64 0) fun v14 =>
  HIf v14
  (HCall Tryz.prog 25 [v0] w_1 fun v16 w_2 =>
  HBin .eql v16 (.int .i64 0) fun v18 =>
  HIf v18
  (HNil v0 fun v20 =>
  HFld 0 v20 fun v21 =>
  HLd v21 w_2 fun v22 =>
  HRun Tryz.prog (Builtin.delete_ #[49, 3] 0 [v22, v1].toArray) w_2 fun u w_3 =>
  R v16 w_3)
  (R v16 w_2))
  (HBin .eql v12 (.int .i64 0) fun v18_1 =>
  HIf v18_1
  (HNil v0 fun v20_1 =>
  HFld 0 v20_1 fun v21_1 =>
  HLd v21_1 w_1 fun v22_1 =>
  HRun Tryz.prog (Builtin.delete_ #[49, 3] 0 [v22_1, v1].toArray) w_1 fun u_1 w_4 =>
  R v12 w_4)
  (R v12 w_1))
theorem vc54 (v0 : Value) (v1 : Value) (w : World) (R : Value → World → Prop) (h : Vc54 v0 v1 w R) : HCall Tryz.prog 54 [v0, v1] w R :=
  funP_sound (JL := []) (JC := []) Tcall_ok mixed_ok Tryz.func54 (by kernel_rfl) (by kernel_rfl)
    (((by kernel_rfl : funP Tryz.prog Tcall [] [] Tryz.f54 [v0, v1] w R = Vc54 v0 v1 w R)).mpr h)

-- disk.Disk.Len
def Vc55 (v0 : Value) (v1 : Value) (w : World) (R : Value → World → Prop) : Prop :=
  HNil v0 fun v7 =>
  HFld 0 v7 fun v8 =>
  HLd v8 w fun v9 =>
  HRq Tryz.prog (Instr.lookup 49 v9 v1 false) w fun v11 =>
  HEq (.pointer 70) true v11 (.pointer Option.none) fun v13 =>
  HIf v13
  (HNil v11 fun v15 =>
  HFld 0 v15 fun v16 =>
  HLd v16 w fun v17 =>
  HLenS v17 fun v18 =>
  R v18 w)
  (R (.int .i64 (-1)) w)
theorem vc55 (v0 : Value) (v1 : Value) (w : World) (R : Value → World → Prop) (h : Vc55 v0 v1 w R) : HCall Tryz.prog 55 [v0, v1] w R :=
  funP_sound (JL := []) (JC := []) Tcall_ok mixed_ok Tryz.func55 (by kernel_rfl) (by kernel_rfl)
    (((by kernel_rfl : funP Tryz.prog Tcall [] [] Tryz.f55 [v0, v1] w R = Vc55 v0 v1 w R)).mpr h)

-- disk.Disk.Cut
def Vc56 (v0 : Value) (v1 : Value) (v2 : Value) (w : World) (R : Value → World → Prop) : Prop :=
  HCall Tryz.prog 63 [v0, v1] w fun v12 w_1 =>
  HExt 0 v12 fun v13 =>
  HExt 1 v12 fun v14 =>
  ∃ I : List Value → World → Prop, (HBin .eql v14 (.int .i64 0) fun v16 =>
  HIf v16
  (HBin .lss v2 (.int .i64 0) fun v19 =>
  HIf v19
  (I [(.int .i64 1)] w_1)
  (HNil v13 fun v23 =>
  HFld 0 v23 fun v24 =>
  HLd v24 w_1 fun v25 =>
  HLenS v25 fun v26 =>
  HBin .gtr v2 v26 fun v27 =>
  HIf v27
  (I [(.int .i64 1)] w_1)
  (I [v14] w_1)))
  (I [v14] w_1)) ∧
  ∀ (v8 : Value) w_2, I [v8] w_2 →
  HBin .eql v8 (.int .i64 0) fun v31 =>
  HIf v31
  (HCall Tryz.prog 25 [v0] w_2 fun v33 w_3 =>
  HBin .eql v33 (.int .i64 0) fun v35 =>
  HIf v35
  (HCall Tryz.prog 70 [v13, v2] w_3 fun v38 w_4 =>
  R v33 w_4)
  (R v33 w_3))
  (HBin .eql v8 (.int .i64 0) fun v35_1 =>
  HIf v35_1
  (HCall Tryz.prog 70 [v13, v2] w_2 fun v38_1 w_5 =>
  R v8 w_5)
  (R v8 w_2))
theorem vc56 (v0 : Value) (v1 : Value) (v2 : Value) (w : World) (R : Value → World → Prop) (h : Vc56 v0 v1 v2 w R) : HCall Tryz.prog 56 [v0, v1, v2] w R :=
  funP_sound (JL := []) (JC := [(4, [8], [0, 2, 7])]) Tcall_ok mixed_ok Tryz.func56 (by kernel_rfl) (by kernel_rfl)
    (((by kernel_rfl : funP Tryz.prog Tcall [] [(4, [8], [0, 2, 7])] Tryz.f56 [v0, v1, v2] w R = Vc56 v0 v1 v2 w R)).mpr h)

-- disk.Disk.find
def Vc63 (v0 : Value) (v1 : Value) (w : World) (R : Value → World → Prop) : Prop :=
  HCall Tryz.prog 24 [v0, v1] w fun v10 w_1 =>
  HBin .neq v10 (.int .i64 0) fun v12 =>
  HIf v12
  (R (.tuple #[(.pointer Option.none), v10]) w_1)
  (HNil v0 fun v15 =>
  HFld 0 v15 fun v16 =>
  HLd v16 w_1 fun v17 =>
  HRq Tryz.prog (Instr.lookup 49 v17 v1 false) w_1 fun v19 =>
  HEq (.pointer 70) false v19 (.pointer Option.none) fun v21 =>
  HIf v21
  (R (.tuple #[(.pointer Option.none), (.int .i64 5)]) w_1)
  (R (.tuple #[v19, (.int .i64 0)]) w_1))
theorem vc63 (v0 : Value) (v1 : Value) (w : World) (R : Value → World → Prop) (h : Vc63 v0 v1 w R) : HCall Tryz.prog 63 [v0, v1] w R :=
  funP_sound (JL := []) (JC := []) Tcall_ok mixed_ok Tryz.func63 (by kernel_rfl) (by kernel_rfl)
    (((by kernel_rfl : funP Tryz.prog Tcall [] [] Tryz.f63 [v0, v1] w R = Vc63 v0 v1 w R)).mpr h)

-- disk.file.cut
def Vc70 (v0 : Value) (v1 : Value) (w : World) (R : Value → World → Prop) : Prop :=
  HNil v0 fun v6 =>
  HFld 0 v6 fun v7 =>
  HLd v7 w fun v8 =>
  HSl 1 v8 none (some v1) none fun v10 =>
  HCall Tryz.prog 49 [v10] w fun v11 w_1 =>
  HNil v0 fun v12 =>
  HFld 0 v12 fun v13 =>
  HSt v13 v11 w_1 fun w_2 =>
  HNil v0 fun v16 =>
  HFld 1 v16 fun v17 =>
  HLd v17 w_2 fun v18 =>
  HMin v18 v1 fun v20 =>
  HNil v0 fun v21 =>
  HFld 1 v21 fun v22 =>
  HSt v22 v20 w_2 fun w_3 =>
  R (.tuple #[]) w_3
theorem vc70 (v0 : Value) (v1 : Value) (w : World) (R : Value → World → Prop) (h : Vc70 v0 v1 w R) : HCall Tryz.prog 70 [v0, v1] w R :=
  funP_sound (JL := []) (JC := []) Tcall_ok mixed_ok Tryz.func70 (by kernel_rfl) (by kernel_rfl)
    (((by kernel_rfl : funP Tryz.prog Tcall [] [] Tryz.f70 [v0, v1] w R = Vc70 v0 v1 w R)).mpr h)

-- qanatplay.Mod
def Vc6 (v0 : Value) (v1 : Value) (w : World) (R : Value → World → Prop) : Prop :=
  HCvI .u64 v0 fun v6 =>
  HCvI .u64 v1 fun v8 =>
  HBin .rem v6 v8 fun v9 =>
  HCvI .i64 v9 fun v10 =>
  R v10 w
theorem vc6 (v0 : Value) (v1 : Value) (w : World) (R : Value → World → Prop) (h : Vc6 v0 v1 w R) : HCall Tryz.prog 6 [v0, v1] w R :=
  funP_sound (JL := []) (JC := []) Tcall_ok mixed_ok Tryz.func6 (by kernel_rfl) (by kernel_rfl)
    (((by kernel_rfl : funP Tryz.prog Tcall [] [] Tryz.f6 [v0, v1] w R = Vc6 v0 v1 w R)).mpr h)

-- qanatplay.Big
def Vc7 (v0 : Value) (v1 : Value) (w : World) (R : Value → World → Prop) : Prop :=
  HCvI .u64 v0 fun v6 =>
  HCvI .u64 v1 fun v8 =>
  HBin .rem v6 v8 fun v9 =>
  HCvI .i64 v9 fun v10 =>
  R v10 w
theorem vc7 (v0 : Value) (v1 : Value) (w : World) (R : Value → World → Prop) (h : Vc7 v0 v1 w R) : HCall Tryz.prog 7 [v0, v1] w R :=
  funP_sound (JL := []) (JC := []) Tcall_ok mixed_ok Tryz.func7 (by kernel_rfl) (by kernel_rfl)
    (((by kernel_rfl : funP Tryz.prog Tcall [] [] Tryz.f7 [v0, v1] w R = Vc7 v0 v1 w R)).mpr h)

-- qanathelp.Bytes
def Vc41 (v0 : Value) (v1 : Value) (w : World) (R : Value → World → Prop) : Prop :=
  HRq Tryz.prog (convert 31 9 v0) w fun v6 =>
  HRq Tryz.prog (convert 31 9 v1) w fun v8 =>
  HBin .eql v6 v8 fun v9 =>
  R v9 w
theorem vc41 (v0 : Value) (v1 : Value) (w : World) (R : Value → World → Prop) (h : Vc41 v0 v1 w R) : HCall Tryz.prog 41 [v0, v1] w R :=
  funP_sound (JL := []) (JC := []) Tcall_ok mixed_ok Tryz.func41 (by kernel_rfl) (by kernel_rfl)
    (((by kernel_rfl : funP Tryz.prog Tcall [] [] Tryz.f41 [v0, v1] w R = Vc41 v0 v1 w R)).mpr h)

-- slices.Clone[[]byte,byte]
def Vc49 (v0 : Value) (w : World) (R : Value → World → Prop) : Prop :=
  HEq (.slice 5) false v0 (.slice Option.none 0 0) fun v4 =>
  HIf v4
  (R (.slice Option.none 0 0) w)
  (HBldS (zrow [.int .u8 0] 0) [] 5 0 w fun v5 w_1 =>
  HApp 1 1 [.int .u8 0] 5 v5 v0 w_1 fun v7 w_2 =>
  R v7 w_2)
theorem vc49 (v0 : Value) (w : World) (R : Value → World → Prop) (h : Vc49 v0 w R) : HCall Tryz.prog 49 [v0] w R :=
  funP_sound (JL := []) (JC := []) Tcall_ok mixed_ok Tryz.func49 (by kernel_rfl) (by kernel_rfl)
    (((by kernel_rfl : funP Tryz.prog Tcall [] [] Tryz.f49 [v0] w R = Vc49 v0 w R)).mpr h)

-- qanatref04.Disk.Append
def Vc10 (v0 : Value) (v1 : Value) (v2 : Value) (w : World) (R : Value → World → Prop) : Prop :=
  HCall Tryz.prog 26 [v0, v1, (.bool false)] w fun v14 w_1 =>
  HBin .neq v14 (.int .i64 0) fun v16 =>
  HIf v16
  (R v14 w_1)
  (HCall Tryz.prog 27 [v0] w_1 fun v19 w_2 =>
  HCall Tryz.prog 28 [v0, v1] w_2 fun v23 w_3 =>
  HExt 0 v23 fun v24 =>
  HExt 1 v23 fun v25 =>
  ∃ I : List Value → World → Prop, (HNot v25 fun v27 =>
  HIf v27
  (HBldS (zrow [.int .i64 0, .int .i64 0, .slice none 0 0] 0) [] 76 0 w_3 fun v28 w_4 =>
  HNil v0 fun v30 =>
  HFld 0 v30 fun v31 =>
  HLd v31 w_4 fun v32 =>
  HSl 3 v32 none (some v24) none fun v34 =>
  HApp 3 40 [.int .i64 0, .int .i64 0, .slice none 0 0] 76 v28 v34 w_4 fun v35 w_5 =>
  HBld [.int .i64 0, .int .i64 0, .slice none 0 0] [(0, 1, v1)] fun v38 =>
  HBldS (zrow [.int .i64 0, .int .i64 0, .slice none 0 0] 1) [(0, 3, v38)] 76 1 w_5 fun v39 w_6 =>
  HApp 3 40 [.int .i64 0, .int .i64 0, .slice none 0 0] 76 v35 v39 w_6 fun v40 w_7 =>
  HNil v0 fun v44 =>
  HFld 0 v44 fun v45 =>
  HLd v45 w_7 fun v46 =>
  HSl 3 v46 (some v24) none none fun v48 =>
  HApp 3 40 [.int .i64 0, .int .i64 0, .slice none 0 0] 76 v40 v48 w_7 fun v49 w_8 =>
  HNil v0 fun v50 =>
  HFld 0 v50 fun v51 =>
  HSt v51 v49 w_8 fun w_9 =>
  I [] w_9)
  (I [] w_3)) ∧
  ∀ w_10, I [] w_10 →
  HDraw w_10 fun w_11 =>
  HNil v0 fun v53 =>
  HFld 0 v53 fun v54 =>
  HLd v54 w_11 fun v55 =>
  HNil v0 fun v59 =>
  HFld 0 v59 fun v60 =>
  HLd v60 w_11 fun v61 =>
  HIdx 3 v61 v24 fun v63 =>
  HFld 2 v63 fun v64 =>
  HLd v64 w_11 fun v65 =>
  HBldS (zrow [.int .u8 0] 0) [] 5 0 w_11 fun v57 w_12 =>
  HLd v54 w_12 fun v55_1 =>
  v55_1 = v55 ∧
  HLd v60 w_12 fun v61_1 =>
  v61_1 = v61 ∧
  HLd v64 w_12 fun v65_1 =>
  v65_1 = v65 ∧
  HApp 1 1 [.int .u8 0] 5 v57 v65 w_12 fun v66 w_13 =>
  HLd v54 w_13 fun v55_2 =>
  v55_2 = v55 ∧
  HApp 1 1 [.int .u8 0] 5 v66 v2 w_13 fun v68 w_14 =>
  HLd v54 w_14 fun v55_3 =>
  v55_3 = v55 ∧
  HIdx 3 v55 v24 fun v69 =>
  HFld 2 v69 fun v70 =>
  HSt v70 v68 w_14 fun w_15 =>
  HCall Tryz.prog 29 [v19] w_15 fun v72 w_16 =>
  R v72 w_16)
theorem vc10 (v0 : Value) (v1 : Value) (v2 : Value) (w : World) (R : Value → World → Prop) (h : Vc10 v0 v1 v2 w R) : HCall Tryz.prog 10 [v0, v1, v2] w R :=
  funP_sound (JL := []) (JC := [(10, [], [0, 2, 8, 9])]) Tcall_ok mixed_ok Tryz.func10 (by kernel_rfl) (by kernel_rfl)
    (((by kernel_rfl : funP Tryz.prog Tcall [] [(10, [], [0, 2, 8, 9])] Tryz.f10 [v0, v1, v2] w R = Vc10 v0 v1 v2 w R)).mpr h)

-- qanatref04.Disk.refused
def Vc26 (v0 : Value) (v1 : Value) (v2 : Value) (w : World) (R : Value → World → Prop) : Prop :=
  HNil v0 fun v10 =>
  HFld 2 v10 fun v11 =>
  HLd v11 w fun v12 =>
  HIf v12
  (R (.int .i64 8) w)
  (HBin .lss v1 (.int .i64 0) fun v14 =>
  HIf v14
  (R (.int .i64 1) w)
  (HBin .geq v1 (.int .i64 16384) fun v17 =>
  HIf v17
  (R (.int .i64 1) w)
  (HCall Tryz.prog 28 [v0, v1] w fun v22 w_1 =>
  HExt 0 v22 fun v23 =>
  HExt 1 v22 fun v24 =>
  HIf v2
  (HNot v24 fun v28 =>
  HIf v28
  (R (.int .i64 5) w_1)
  (R (.int .i64 0) w_1))
  (R (.int .i64 0) w_1))))
theorem vc26 (v0 : Value) (v1 : Value) (v2 : Value) (w : World) (R : Value → World → Prop) (h : Vc26 v0 v1 v2 w R) : HCall Tryz.prog 26 [v0, v1, v2] w R :=
  funP_sound (JL := []) (JC := []) Tcall_ok mixed_ok Tryz.func26 (by kernel_rfl) (by kernel_rfl)
    (((by kernel_rfl : funP Tryz.prog Tcall [] [] Tryz.f26 [v0, v1, v2] w R = Vc26 v0 v1 v2 w R)).mpr h)

-- qanatref04.Disk.goes
def Vc27 (v0 : Value) (w : World) (R : Value → World → Prop) : Prop :=
  HNil v0 fun v4 =>
  HFld 3 v4 fun v5 =>
  HLd v5 w fun v6 =>
  HBin .add v6 (.int .i64 1) fun v7 =>
  HNil v0 fun v8 =>
  HFld 3 v8 fun v9 =>
  HSt v9 v7 w fun w_1 =>
  HNil v0 fun v11 =>
  HFld 1 v11 fun v12 =>
  HLd v12 w_1 fun v13 =>
  HBin .gtr v13 (.int .i64 0) fun v14 =>
  HIf v14
  (HNil v0 fun v16 =>
  HFld 1 v16 fun v17 =>
  HLd v17 w_1 fun v18 =>
  HBin .sub v18 (.int .i64 1) fun v19 =>
  HNil v0 fun v20 =>
  HFld 1 v20 fun v21 =>
  HSt v21 v19 w_1 fun w_2 =>
  HNil v0 fun v23 =>
  HFld 1 v23 fun v24 =>
  HLd v24 w_2 fun v25 =>
  HBin .eql v25 (.int .i64 0) fun v26 =>
  HIf v26
  (HNil v0 fun v28 =>
  HFld 2 v28 fun v29 =>
  HSt v29 (.bool true) w_2 fun w_3 =>
  HNil v0 fun v31 =>
  HFld 2 v31 fun v32 =>
  HLd v32 w_3 fun v33 =>
  R v33 w_3)
  (HNil v0 fun v31_1 =>
  HFld 2 v31_1 fun v32_1 =>
  HLd v32_1 w_2 fun v33_1 =>
  R v33_1 w_2))
  (HNil v0 fun v31_2 =>
  HFld 2 v31_2 fun v32_2 =>
  HLd v32_2 w_1 fun v33_2 =>
  R v33_2 w_1)
theorem vc27 (v0 : Value) (w : World) (R : Value → World → Prop) (h : Vc27 v0 w R) : HCall Tryz.prog 27 [v0] w R :=
  funP_sound (JL := []) (JC := []) Tcall_ok mixed_ok Tryz.func27 (by kernel_rfl) (by kernel_rfl)
    (((by kernel_rfl : funP Tryz.prog Tcall [] [] Tryz.f27 [v0] w R = Vc27 v0 w R)).mpr h)

-- qanatref04.Disk.At
def Vc28 (v0 : Value) (v1 : Value) (w : World) (R : Value → World → Prop) : Prop :=
  ∃ (I : List Value → World → Prop) (μ : List Value → World → Nat), I [(.int .i64 0)] w ∧
  ∀ (v6 : Value) w_1, I [v6] w_1 →
  HNil v0 fun v9 =>
  HFld 0 v9 fun v10 =>
  HLd v10 w_1 fun v11 =>
  HLenS v11 fun v12 =>
  HBin .lss v6 v12 fun v13 =>
  HIf v13
  (HNil v0 fun v16 =>
  HFld 0 v16 fun v17 =>
  HLd v17 w_1 fun v18 =>
  HIdx 3 v18 v6 fun v20 =>
  HFld 0 v20 fun v21 =>
  HLd v21 w_1 fun v22 =>
  HBin .lss v22 v1 fun v24 =>
  HIf v24
  (HBin .add v6 (.int .i64 1) fun v27 =>
  I [v27] w_1 ∧ μ [v27] w_1 < μ [v6] w_1)
  (HDraw w_1 fun w_2 =>
  HNil v0 fun v31 =>
  HFld 0 v31 fun v32 =>
  HLd v32 w_2 fun v33 =>
  HLenS v33 fun v34 =>
  HBin .lss v6 v34 fun v35 =>
  HIf v35
  (HNil v0 fun v38 =>
  HFld 0 v38 fun v39 =>
  HLd v39 w_2 fun v40 =>
  HIdx 3 v40 v6 fun v42 =>
  HFld 0 v42 fun v43 =>
  HLd v43 w_2 fun v44 =>
  HBin .eql v44 v1 fun v46 =>
  HLd v39 w_2 fun v40_1 =>
  v40_1 = v40 ∧
  HLd v43 w_2 fun v44_1 =>
  v44_1 = v44 ∧
  R (.tuple #[v6, v46]) w_2)
  (R (.tuple #[v6, (.bool false)]) w_2)))
  (HDraw w_1 fun w_3 =>
  HNil v0 fun v31_1 =>
  HFld 0 v31_1 fun v32_1 =>
  HLd v32_1 w_3 fun v33_1 =>
  HLenS v33_1 fun v34_1 =>
  HBin .lss v6 v34_1 fun v35_1 =>
  HIf v35_1
  (HNil v0 fun v38_1 =>
  HFld 0 v38_1 fun v39_1 =>
  HLd v39_1 w_3 fun v40_2 =>
  HIdx 3 v40_2 v6 fun v42_1 =>
  HFld 0 v42_1 fun v43_1 =>
  HLd v43_1 w_3 fun v44_2 =>
  HBin .eql v44_2 v1 fun v46_1 =>
  HLd v39_1 w_3 fun v40_3 =>
  v40_3 = v40_2 ∧
  HLd v43_1 w_3 fun v44_3 =>
  v44_3 = v44_2 ∧
  R (.tuple #[v6, v46_1]) w_3)
  (R (.tuple #[v6, (.bool false)]) w_3))
theorem vc28 (v0 : Value) (v1 : Value) (w : World) (R : Value → World → Prop) (h : Vc28 v0 v1 w R) : HCall Tryz.prog 28 [v0, v1] w R :=
  funP_sound (JL := [(2, [6], [0, 1])]) (JC := []) Tcall_ok mixed_ok Tryz.func28 (by kernel_rfl) (by kernel_rfl)
    (((by kernel_rfl : funP Tryz.prog Tcall [(2, [6], [0, 1])] [] Tryz.f28 [v0, v1] w R = Vc28 v0 v1 w R)).mpr h)

-- qanatref04.Disk.Remove
def Vc36 (v0 : Value) (v1 : Value) (w : World) (R : Value → World → Prop) : Prop :=
  HCall Tryz.prog 26 [v0, v1, (.bool true)] w fun v11 w_1 =>
  HBin .neq v11 (.int .i64 0) fun v13 =>
  HIf v13
  (R v11 w_1)
  (HCall Tryz.prog 27 [v0] w_1 fun v16 w_2 =>
  HNot v16 fun v18 =>
  HIf v18
  (HCall Tryz.prog 28 [v0, v1] w_2 fun v22 w_3 =>
  HExt 0 v22 fun v23 =>
  HExt 1 v22 fun v24 =>
  HDraw w_3 fun w_4 =>
  HNil v0 fun v28 =>
  HFld 0 v28 fun v29 =>
  HLd v29 w_4 fun v30 =>
  HSl 3 v30 none (some v23) none fun v32 =>
  HNil v0 fun v35 =>
  HFld 0 v35 fun v36 =>
  HLd v36 w_4 fun v37 =>
  HBin .add v23 (.int .i64 1) fun v39 =>
  HSl 3 v37 (some v39) none none fun v40 =>
  HBldS (zrow [.int .i64 0, .int .i64 0, .slice none 0 0] 0) [] 76 0 w_4 fun v26 w_5 =>
  HLd v29 w_5 fun v30_1 =>
  v30_1 = v30 ∧
  HLd v36 w_5 fun v37_1 =>
  v37_1 = v37 ∧
  HApp 3 40 [.int .i64 0, .int .i64 0, .slice none 0 0] 76 v26 v32 w_5 fun v33 w_6 =>
  HLd v36 w_6 fun v37_2 =>
  v37_2 = v37 ∧
  HApp 3 40 [.int .i64 0, .int .i64 0, .slice none 0 0] 76 v33 v40 w_6 fun v41 w_7 =>
  HNil v0 fun v42 =>
  HFld 0 v42 fun v43 =>
  HSt v43 v41 w_7 fun w_8 =>
  HCall Tryz.prog 29 [v16] w_8 fun v45 w_9 =>
  R v45 w_9)
  (HCall Tryz.prog 29 [v16] w_2 fun v45_1 w_10 =>
  R v45_1 w_10))
theorem vc36 (v0 : Value) (v1 : Value) (w : World) (R : Value → World → Prop) (h : Vc36 v0 v1 w R) : HCall Tryz.prog 36 [v0, v1] w R :=
  funP_sound (JL := []) (JC := []) Tcall_ok mixed_ok Tryz.func36 (by kernel_rfl) (by kernel_rfl)
    (((by kernel_rfl : funP Tryz.prog Tcall [] [] Tryz.f36 [v0, v1] w R = Vc36 v0 v1 w R)).mpr h)

-- qanatref04.Disk.Cut
def Vc38 (v0 : Value) (v1 : Value) (v2 : Value) (w : World) (R : Value → World → Prop) : Prop :=
  HCall Tryz.prog 26 [v0, v1, (.bool true)] w fun v13 w_1 =>
  HBin .neq v13 (.int .i64 0) fun v15 =>
  HIf v15
  (R v13 w_1)
  (HCall Tryz.prog 28 [v0, v1] w_1 fun v20 w_2 =>
  HExt 0 v20 fun v21 =>
  HExt 1 v20 fun v22 =>
  HBin .lss v2 (.int .i64 0) fun v24 =>
  HIf v24
  (R (.int .i64 1) w_2)
  (HNil v0 fun v28 =>
  HFld 0 v28 fun v29 =>
  HLd v29 w_2 fun v30 =>
  HIdx 3 v30 v21 fun v32 =>
  HFld 2 v32 fun v33 =>
  HLd v33 w_2 fun v34 =>
  HLenS v34 fun v35 =>
  HBin .gtr v2 v35 fun v36 =>
  HIf v36
  (R (.int .i64 1) w_2)
  (HCall Tryz.prog 27 [v0] w_2 fun v39 w_3 =>
  HNot v39 fun v41 =>
  HIf v41
  (HDraw w_3 fun w_4 =>
  HNil v0 fun v43 =>
  HFld 0 v43 fun v44 =>
  HLd v44 w_4 fun v45 =>
  HNil v0 fun v49 =>
  HFld 0 v49 fun v50 =>
  HLd v50 w_4 fun v51 =>
  HIdx 3 v51 v21 fun v53 =>
  HFld 2 v53 fun v54 =>
  HLd v54 w_4 fun v55 =>
  HSl 1 v55 none (some v2) none fun v57 =>
  HBldS (zrow [.int .u8 0] 0) [] 5 0 w_4 fun v47 w_5 =>
  HLd v44 w_5 fun v45_1 =>
  v45_1 = v45 ∧
  HLd v50 w_5 fun v51_1 =>
  v51_1 = v51 ∧
  HLd v54 w_5 fun v55_1 =>
  v55_1 = v55 ∧
  HApp 1 1 [.int .u8 0] 5 v47 v57 w_5 fun v58 w_6 =>
  HLd v44 w_6 fun v45_2 =>
  v45_2 = v45 ∧
  HIdx 3 v45 v21 fun v59 =>
  HFld 2 v59 fun v60 =>
  HSt v60 v58 w_6 fun w_7 =>
  HDraw w_7 fun w_8 =>
  HNil v0 fun v62 =>
  HFld 0 v62 fun v63 =>
  HLd v63 w_8 fun v64 =>
  HNil v0 fun v67 =>
  HFld 0 v67 fun v68 =>
  HLd v68 w_8 fun v69 =>
  HIdx 3 v69 v21 fun v71 =>
  HFld 1 v71 fun v72 =>
  HLd v72 w_8 fun v73 =>
  HMin v73 v2 fun v75 =>
  HIdx 3 v64 v21 fun v76 =>
  HFld 1 v76 fun v77 =>
  HSt v77 v75 w_8 fun w_9 =>
  HCall Tryz.prog 29 [v39] w_9 fun v79 w_10 =>
  R v79 w_10)
  (HCall Tryz.prog 29 [v39] w_3 fun v79_1 w_11 =>
  R v79_1 w_11))))
theorem vc38 (v0 : Value) (v1 : Value) (v2 : Value) (w : World) (R : Value → World → Prop) (h : Vc38 v0 v1 v2 w R) : HCall Tryz.prog 38 [v0, v1, v2] w R :=
  funP_sound (JL := []) (JC := []) Tcall_ok mixed_ok Tryz.func38 (by kernel_rfl) (by kernel_rfl)
    (((by kernel_rfl : funP Tryz.prog Tcall [] [] Tryz.f38 [v0, v1, v2] w R = Vc38 v0 v1 v2 w R)).mpr h)

-- qanatref04.told
def Vc29 (v0 : Value) (w : World) (R : Value → World → Prop) : Prop :=
  HIf v0
  (R (.int .i64 8) w)
  (R (.int .i64 0) w)
theorem vc29 (v0 : Value) (w : World) (R : Value → World → Prop) (h : Vc29 v0 w R) : HCall Tryz.prog 29 [v0] w R :=
  funP_sound (JL := []) (JC := []) Tcall_ok mixed_ok Tryz.func29 (by kernel_rfl) (by kernel_rfl)
    (((by kernel_rfl : funP Tryz.prog Tcall [] [] Tryz.f29 [v0] w R = Vc29 v0 w R)).mpr h)

end Go.Proofs.YtmcglicbolhmfaaGreat
