/-
  What calls of functions ask, printed by a program of mine (gen.py) out of the functions' code; each is checked by the kernel.
-/
import Derived.Test.YtjgacikohlnjdaaTab
namespace Go.Proofs.Ytjgacikohlnjdaa
set_option linter.unusedVariables false
open Go.RowKit

-- ring.Ring.Push
def Vc13 (v0 : Value) (v1 : Value) (w : World) (R : Value → World → Prop) : Prop :=
  HDraw w fun w_1 =>
  HNil v0 fun v6 =>
  HFld 2 v6 fun v7 =>
  HLd v7 w_1 fun v8 =>
  HNil v0 fun v10 =>
  HFld 0 v10 fun v11 =>
  HLd v11 w_1 fun v12 =>
  HLenS v12 fun v13 =>
  HBin .eql v8 v13 fun v14 =>
  HIf v14
  (R (.bool false) w_1)
  (HDraw w_1 fun w_2 =>
  HNil v0 fun v16 =>
  HFld 0 v16 fun v17 =>
  HLd v17 w_2 fun v18 =>
  HNil v0 fun v21 =>
  HFld 2 v21 fun v22 =>
  HLd v22 w_2 fun v23 =>
  HCall Try.prog 30 [v0, v23] w_2 fun v24 w_3 =>
  HLd v17 w_3 fun v18_1 =>
  v18_1 = v18 ∧
  HIdx 1 v18 v24 fun v26 =>
  HSt v26 v1 w_3 fun w_4 =>
  HNil v0 fun v28 =>
  HFld 2 v28 fun v29 =>
  HLd v29 w_4 fun v30 =>
  HBin .add v30 (.int .i64 1) fun v31 =>
  HNil v0 fun v32 =>
  HFld 2 v32 fun v33 =>
  HSt v33 v31 w_4 fun w_5 =>
  R (.bool true) w_5)
theorem vc13 (v0 : Value) (v1 : Value) (w : World) (R : Value → World → Prop) (h : Vc13 v0 v1 w R) : HCall Try.prog 13 [v0, v1] w R :=
  funP_sound (JL := []) (JC := []) Tcall_ok mixed_ok Try.func13 (by kernel_rfl) (by kernel_rfl)
    (((by kernel_rfl : funP Try.prog Tcall [] [] Try.f13 [v0, v1] w R = Vc13 v0 v1 w R)).mpr h)

-- ring.Ring.All
def Vc17 (v0 : Value) (w : World) (R : Value → World → Prop) : Prop :=
  HNil v0 fun v6 =>
  HFld 2 v6 fun v7 =>
  HLd v7 w fun v8 =>
  ∃ (I : List Value → World → Prop) (μ : List Value → World → Nat), I [(.slice Option.none 0 0), (.int .i64 0)] w ∧
  ∀ (v3 : Value) (v9 : Value) w_1, I [v3, v9] w_1 →
  HBin .lss v9 v8 fun v10 =>
  HIf v10
  (HDraw w_1 fun w_2 =>
  HNil v0 fun v14 =>
  HFld 0 v14 fun v15 =>
  HLd v15 w_2 fun v16 =>
  HCall Try.prog 30 [v0, v9] w_2 fun v19 w_3 =>
  HLd v15 w_3 fun v16_1 =>
  v16_1 = v16 ∧
  HIdx 1 v16 v19 fun v20 =>
  HLd v20 w_3 fun v21 =>
  HBldS (zrow [.string ⟨#[]⟩] 1) [(0, 1, v21)] 9 1 w_3 fun v22 w_4 =>
  HApp 1 16 [.string ⟨#[]⟩] 9 v3 v22 w_4 fun v23 w_5 =>
  HBin .add v9 (.int .i64 1) fun v24 =>
  I [v23, v24] w_5 ∧ μ [v23, v24] w_5 < μ [v3, v9] w_1)
  (R v3 w_1)
theorem vc17 (v0 : Value) (w : World) (R : Value → World → Prop) (h : Vc17 v0 w R) : HCall Try.prog 17 [v0] w R :=
  funP_sound (JL := [(3, [3, 9], [0, 8])]) (JC := []) Tcall_ok mixed_ok Try.func17 (by kernel_rfl) (by kernel_rfl)
    (((by kernel_rfl : funP Try.prog Tcall [(3, [3, 9], [0, 8])] [] Try.f17 [v0] w R = Vc17 v0 w R)).mpr h)

-- qanatplay.Mod
def Vc12 (v0 : Value) (v1 : Value) (w : World) (R : Value → World → Prop) : Prop :=
  HCvI .u64 v0 fun v6 =>
  HCvI .u64 v1 fun v8 =>
  HBin .rem v6 v8 fun v9 =>
  HCvI .i64 v9 fun v10 =>
  R v10 w
theorem vc12 (v0 : Value) (v1 : Value) (w : World) (R : Value → World → Prop) (h : Vc12 v0 v1 w R) : HCall Try.prog 12 [v0, v1] w R :=
  funP_sound (JL := []) (JC := []) Tcall_ok mixed_ok Try.func12 (by kernel_rfl) (by kernel_rfl)
    (((by kernel_rfl : funP Try.prog Tcall [] [] Try.f12 [v0, v1] w R = Vc12 v0 v1 w R)).mpr h)

-- ring.New
def Vc8 (v0 : Value) (w : World) (R : Value → World → Prop) : Prop :=
  HBin .lss v0 (.int .i64 1) fun v5 =>
  HIf v5
  (R (.tuple #[(.pointer Option.none), (.int .i64 1)]) w)
  (HBin .gtr v0 (.int .i64 64) fun v8 =>
  HIf v8
  (R (.tuple #[(.pointer Option.none), (.int .i64 1)]) w)
  (HMk [.string ⟨#[]⟩] 16 9 v0 v0 w fun v11 w_1 =>
  HBld [.slice none 0 0, .int .i64 0, .int .i64 0] [(0, 1, v11)] fun v12 =>
  ∃ cs : List Value, v12 = .agg cs.toArray ∧ HNew cs 58 w_1 fun v13 w_2 =>
  R (.tuple #[v13, (.int .i64 0)]) w_2))
theorem vc8 (v0 : Value) (w : World) (R : Value → World → Prop) (h : Vc8 v0 w R) : HCall Try.prog 8 [v0] w R :=
  funP_sound (JL := []) (JC := []) Tcall_ok mixed_ok Try.func8 (by kernel_rfl) (by kernel_rfl)
    (((by kernel_rfl : funP Try.prog Tcall [] [] Try.f8 [v0] w R = Vc8 v0 w R)).mpr h)

-- ring.Ring.at
def Vc30 (v0 : Value) (v1 : Value) (w : World) (R : Value → World → Prop) : Prop :=
  HDraw w fun w_1 =>
  HNil v0 fun v6 =>
  HFld 1 v6 fun v7 =>
  HLd v7 w_1 fun v8 =>
  HBin .add v8 v1 fun v10 =>
  HNil v0 fun v12 =>
  HFld 0 v12 fun v13 =>
  HLd v13 w_1 fun v14 =>
  HLenS v14 fun v15 =>
  HBin .rem v10 v15 fun v16 =>
  R v16 w_1
theorem vc30 (v0 : Value) (v1 : Value) (w : World) (R : Value → World → Prop) (h : Vc30 v0 v1 w R) : HCall Try.prog 30 [v0, v1] w R :=
  funP_sound (JL := []) (JC := []) Tcall_ok mixed_ok Try.func30 (by kernel_rfl) (by kernel_rfl)
    (((by kernel_rfl : funP Try.prog Tcall [] [] Try.f30 [v0, v1] w R = Vc30 v0 v1 w R)).mpr h)

-- ring.Ring.Cap
def Vc10 (v0 : Value) (w : World) (R : Value → World → Prop) : Prop :=
  HNil v0 fun v4 =>
  HFld 0 v4 fun v5 =>
  HLd v5 w fun v6 =>
  HLenS v6 fun v7 =>
  R v7 w
theorem vc10 (v0 : Value) (w : World) (R : Value → World → Prop) (h : Vc10 v0 w R) : HCall Try.prog 10 [v0] w R :=
  funP_sound (JL := []) (JC := []) Tcall_ok mixed_ok Try.func10 (by kernel_rfl) (by kernel_rfl)
    (((by kernel_rfl : funP Try.prog Tcall [] [] Try.f10 [v0] w R = Vc10 v0 w R)).mpr h)

-- ring.Ring.Len
def Vc11 (v0 : Value) (w : World) (R : Value → World → Prop) : Prop :=
  HNil v0 fun v4 =>
  HFld 2 v4 fun v5 =>
  HLd v5 w fun v6 =>
  R v6 w
theorem vc11 (v0 : Value) (w : World) (R : Value → World → Prop) (h : Vc11 v0 w R) : HCall Try.prog 11 [v0] w R :=
  funP_sound (JL := []) (JC := []) Tcall_ok mixed_ok Try.func11 (by kernel_rfl) (by kernel_rfl)
    (((by kernel_rfl : funP Try.prog Tcall [] [] Try.f11 [v0] w R = Vc11 v0 w R)).mpr h)

-- ring.Ring.Pop
def Vc14 (v0 : Value) (w : World) (R : Value → World → Prop) : Prop :=
  HCall Try.prog 15 [v0] w fun v8 w_1 =>
  HExt 0 v8 fun v9 =>
  HExt 1 v8 fun v10 =>
  HIf v10
  (HDraw w_1 fun w_2 =>
  HNil v0 fun v13 =>
  HFld 0 v13 fun v14 =>
  HLd v14 w_2 fun v15 =>
  HNil v0 fun v17 =>
  HFld 1 v17 fun v18 =>
  HLd v18 w_2 fun v19 =>
  HIdx 1 v15 v19 fun v20 =>
  HSt v20 (.string { data := #[] }) w_2 fun w_3 =>
  HCall Try.prog 30 [v0, (.int .i64 1)] w_3 fun v23 w_4 =>
  HNil v0 fun v24 =>
  HFld 1 v24 fun v25 =>
  HSt v25 v23 w_4 fun w_5 =>
  HNil v0 fun v27 =>
  HFld 2 v27 fun v28 =>
  HLd v28 w_5 fun v29 =>
  HBin .sub v29 (.int .i64 1) fun v30 =>
  HNil v0 fun v31 =>
  HFld 2 v31 fun v32 =>
  HSt v32 v30 w_5 fun w_6 =>
  R (.tuple #[v9, v10]) w_6)
  (R (.tuple #[v9, v10]) w_1)
theorem vc14 (v0 : Value) (w : World) (R : Value → World → Prop) (h : Vc14 v0 w R) : HCall Try.prog 14 [v0] w R :=
  funP_sound (JL := []) (JC := []) Tcall_ok mixed_ok Try.func14 (by kernel_rfl) (by kernel_rfl)
    (((by kernel_rfl : funP Try.prog Tcall [] [] Try.f14 [v0] w R = Vc14 v0 w R)).mpr h)

-- ring.Ring.Peek
def Vc15 (v0 : Value) (w : World) (R : Value → World → Prop) : Prop :=
  HNil v0 fun v5 =>
  HFld 2 v5 fun v6 =>
  HLd v6 w fun v7 =>
  HBin .eql v7 (.int .i64 0) fun v8 =>
  HIf v8
  (R (.tuple #[(.string { data := #[] }), (.bool false)]) w)
  (HDraw w fun w_1 =>
  HNil v0 fun v10 =>
  HFld 0 v10 fun v11 =>
  HLd v11 w_1 fun v12 =>
  HNil v0 fun v14 =>
  HFld 1 v14 fun v15 =>
  HLd v15 w_1 fun v16 =>
  HIdx 1 v12 v16 fun v17 =>
  HLd v17 w_1 fun v18 =>
  R (.tuple #[v18, (.bool true)]) w_1)
theorem vc15 (v0 : Value) (w : World) (R : Value → World → Prop) (h : Vc15 v0 w R) : HCall Try.prog 15 [v0] w R :=
  funP_sound (JL := []) (JC := []) Tcall_ok mixed_ok Try.func15 (by kernel_rfl) (by kernel_rfl)
    (((by kernel_rfl : funP Try.prog Tcall [] [] Try.f15 [v0] w R = Vc15 v0 w R)).mpr h)

-- qanathelp.Plain[string]
def Vc16 (v0 : Value) (v1 : Value) (w : World) (R : Value → World → Prop) : Prop :=
  HCall Try.prog 31 [v0, v1, (.func (.func 32) #[] #[])] w fun v7 w_1 =>
  R v7 w_1
theorem vc16 (v0 : Value) (v1 : Value) (w : World) (R : Value → World → Prop) (h : Vc16 v0 v1 w R) : HCall Try.prog 16 [v0, v1] w R :=
  funP_sound (JL := []) (JC := []) Tcall_ok mixed_ok Try.func16 (by kernel_rfl) (by kernel_rfl)
    (((by kernel_rfl : funP Try.prog Tcall [] [] Try.f16 [v0, v1] w R = Vc16 v0 v1 w R)).mpr h)

-- qanathelp.Spoil[string]
def Vc18 (v0 : Value) (w : World) (R : Value → World → Prop) : Prop :=
  ∃ (I : List Value → World → Prop) (μ : List Value → World → Nat), I [(.int .i64 0)] w ∧
  ∀ (v3 : Value) w_1, I [v3] w_1 →
  HLenS v0 fun v6 =>
  HBin .lss v3 v6 fun v7 =>
  HIf v7
  (HIdx 1 v0 v3 fun v13 =>
  HSt v13 (.string { data := #[] }) w_1 fun w_2 =>
  HBin .add v3 (.int .i64 1) fun v9 =>
  I [v9] w_2 ∧ μ [v9] w_2 < μ [v3] w_1)
  (R (.tuple #[]) w_1)
theorem vc18 (v0 : Value) (w : World) (R : Value → World → Prop) (h : Vc18 v0 w R) : HCall Try.prog 18 [v0] w R :=
  funP_sound (JL := [(2, [3], [0, 2])]) (JC := []) Tcall_ok mixed_ok Try.func18 (by kernel_rfl) (by kernel_rfl)
    (((by kernel_rfl : funP Try.prog Tcall [(2, [3], [0, 2])] [] Try.f18 [v0] w R = Vc18 v0 w R)).mpr h)

-- qanathelp.Same[string]
def Vc31 (v0 : Value) (v1 : Value) (v2 : Value) (w : World) (R : Value → World → Prop) : Prop :=
  HLenS v0 fun v9 =>
  HLenS v1 fun v11 =>
  HBin .neq v9 v11 fun v12 =>
  HIf v12
  (R (.bool false) w)
  (∃ (I : List Value → World → Prop) (μ : List Value → World → Nat), I [(.int .i64 0)] w ∧
  ∀ (v7 : Value) w_1, I [v7] w_1 →
  HLenS v0 fun v15 =>
  HBin .lss v7 v15 fun v16 =>
  HIf v16
  (HDraw w_1 fun w_2 =>
  HIdx 1 v0 v7 fun v22 =>
  HLd v22 w_2 fun v23 =>
  HIdx 1 v1 v7 fun v26 =>
  HLd v26 w_2 fun v27 =>
  HCallV Try.prog Tcall v2 [v23, v27] w_2 fun v28 w_3 =>
  HNot v28 fun v29 =>
  HIf v29
  (R (.bool false) w_3)
  (HBin .add v7 (.int .i64 1) fun v18 =>
  I [v18] w_3 ∧ μ [v18] w_3 < μ [v7] w_1))
  (R (.bool true) w_1))
theorem vc31 (v0 : Value) (v1 : Value) (v2 : Value) (w : World) (R : Value → World → Prop) (h : Vc31 v0 v1 v2 w R) : HCall Try.prog 31 [v0, v1, v2] w R :=
  funP_sound (JL := [(4, [7], [0, 1, 2])]) (JC := []) Tcall_ok mixed_ok Try.func31 (by kernel_rfl) (by kernel_rfl)
    (((by kernel_rfl : funP Try.prog Tcall [(4, [7], [0, 1, 2])] [] Try.f31 [v0, v1, v2] w R = Vc31 v0 v1 v2 w R)).mpr h)

-- qanathelp.Plain[string]$1
def Vc32 (v0 : Value) (v1 : Value) (w : World) (R : Value → World → Prop) : Prop :=
  HBin .eql v0 v1 fun v7 =>
  R v7 w
theorem vc32 (v0 : Value) (v1 : Value) (w : World) (R : Value → World → Prop) (h : Vc32 v0 v1 w R) : HCall Try.prog 32 [v0, v1] w R :=
  funP_sound (JL := []) (JC := []) Tcall_ok mixed_ok Try.func32 (by kernel_rfl) (by kernel_rfl)
    (((by kernel_rfl : funP Try.prog Tcall [] [] Try.f32 [v0, v1] w R = Vc32 v0 v1 w R)).mpr h)

-- gate.Gate.Credits
def Vc20 (v0 : Value) (w : World) (R : Value → World → Prop) : Prop :=
  HDraw w fun w_1 =>
  HNil v0 fun v4 =>
  HFld 0 v4 fun v5 =>
  HLd v5 w_1 fun v6 =>
  HNil v0 fun v9 =>
  HFld 0 v9 fun v10 =>
  HLd v10 w_1 fun v11 =>
  HNil v0 fun v15 =>
  HFld 1 v15 fun v16 =>
  HLd v16 w_1 fun v17 =>
  HCall Try.prog 10 [v6] w_1 fun v7 w_2 =>
  HLd v10 w_2 fun v11_1 =>
  v11_1 = v11 ∧
  HLd v16 w_2 fun v17_1 =>
  v17_1 = v17 ∧
  HCall Try.prog 11 [v11] w_2 fun v12 w_3 =>
  HLd v16 w_3 fun v17_2 =>
  v17_2 = v17 ∧
  HBin .sub v7 v12 fun v13 =>
  HBin .sub v13 v17 fun v18 =>
  R v18 w_3
theorem vc20 (v0 : Value) (w : World) (R : Value → World → Prop) (h : Vc20 v0 w R) : HCall Try.prog 20 [v0] w R :=
  funP_sound (JL := []) (JC := []) Tcall_ok mixed_ok Try.func20 (by kernel_rfl) (by kernel_rfl)
    (((by kernel_rfl : funP Try.prog Tcall [] [] Try.f20 [v0] w R = Vc20 v0 w R)).mpr h)

-- gate.Gate.Push
def Vc21 (v0 : Value) (v1 : Value) (w : World) (R : Value → World → Prop) : Prop :=
  HCall Try.prog 20 [v0] w fun v6 w_1 =>
  HBin .gtr v6 (.int .i64 0) fun v7 =>
  HIf v7
  (HNil v0 fun v10 =>
  HFld 0 v10 fun v11 =>
  HLd v11 w_1 fun v12 =>
  HCall Try.prog 13 [v12, v1] w_1 fun v14 w_2 =>
  R v14 w_2)
  (R (.bool false) w_1)
theorem vc21 (v0 : Value) (v1 : Value) (w : World) (R : Value → World → Prop) (h : Vc21 v0 v1 w R) : HCall Try.prog 21 [v0, v1] w R :=
  funP_sound (JL := []) (JC := []) Tcall_ok mixed_ok Try.func21 (by kernel_rfl) (by kernel_rfl)
    (((by kernel_rfl : funP Try.prog Tcall [] [] Try.f21 [v0, v1] w R = Vc21 v0 v1 w R)).mpr h)

-- gate.Gate.Pop
def Vc22 (v0 : Value) (w : World) (R : Value → World → Prop) : Prop :=
  HNil v0 fun v8 =>
  HFld 0 v8 fun v9 =>
  HLd v9 w fun v10 =>
  HCall Try.prog 14 [v10] w fun v11 w_1 =>
  HExt 0 v11 fun v12 =>
  HExt 1 v11 fun v13 =>
  HIf v13
  (HNil v0 fun v16 =>
  HFld 1 v16 fun v17 =>
  HLd v17 w_1 fun v18 =>
  HBin .add v18 (.int .i64 1) fun v19 =>
  HNil v0 fun v20 =>
  HFld 1 v20 fun v21 =>
  HSt v21 v19 w_1 fun w_2 =>
  R (.tuple #[v12, v13]) w_2)
  (R (.tuple #[v12, v13]) w_1)
theorem vc22 (v0 : Value) (w : World) (R : Value → World → Prop) (h : Vc22 v0 w R) : HCall Try.prog 22 [v0] w R :=
  funP_sound (JL := []) (JC := []) Tcall_ok mixed_ok Try.func22 (by kernel_rfl) (by kernel_rfl)
    (((by kernel_rfl : funP Try.prog Tcall [] [] Try.f22 [v0] w R = Vc22 v0 w R)).mpr h)

-- gate.Gate.Give
def Vc23 (v0 : Value) (v1 : Value) (w : World) (R : Value → World → Prop) : Prop :=
  HMax v1 (.int .i64 0) fun v6 =>
  HNil v0 fun v8 =>
  HFld 1 v8 fun v9 =>
  HLd v9 w fun v10 =>
  HMin v6 v10 fun v11 =>
  HNil v0 fun v13 =>
  HFld 1 v13 fun v14 =>
  HLd v14 w fun v15 =>
  HBin .sub v15 v11 fun v17 =>
  HNil v0 fun v18 =>
  HFld 1 v18 fun v19 =>
  HSt v19 v17 w fun w_1 =>
  R v11 w_1
theorem vc23 (v0 : Value) (v1 : Value) (w : World) (R : Value → World → Prop) (h : Vc23 v0 v1 w R) : HCall Try.prog 23 [v0, v1] w R :=
  funP_sound (JL := []) (JC := []) Tcall_ok mixed_ok Try.func23 (by kernel_rfl) (by kernel_rfl)
    (((by kernel_rfl : funP Try.prog Tcall [] [] Try.f23 [v0, v1] w R = Vc23 v0 v1 w R)).mpr h)

-- gate.Gate.Out
def Vc24 (v0 : Value) (w : World) (R : Value → World → Prop) : Prop :=
  HNil v0 fun v4 =>
  HFld 1 v4 fun v5 =>
  HLd v5 w fun v6 =>
  R v6 w
theorem vc24 (v0 : Value) (w : World) (R : Value → World → Prop) (h : Vc24 v0 w R) : HCall Try.prog 24 [v0] w R :=
  funP_sound (JL := []) (JC := []) Tcall_ok mixed_ok Try.func24 (by kernel_rfl) (by kernel_rfl)
    (((by kernel_rfl : funP Try.prog Tcall [] [] Try.f24 [v0] w R = Vc24 v0 w R)).mpr h)

-- gate.New
def Vc19 (v0 : Value) (w : World) (R : Value → World → Prop) : Prop :=
  HCall Try.prog 8 [v0] w fun v8 w_1 =>
  HExt 0 v8 fun v9 =>
  HExt 1 v8 fun v10 =>
  HBin .neq v10 (.int .i64 0) fun v12 =>
  HIf v12
  (R (.tuple #[(.pointer Option.none), v10]) w_1)
  (HBld [.pointer none, .int .i64 0] [(0, 1, v9)] fun v15 =>
  ∃ cs : List Value, v15 = .agg cs.toArray ∧ HNew cs 51 w_1 fun v16 w_2 =>
  R (.tuple #[v16, (.int .i64 0)]) w_2)
theorem vc19 (v0 : Value) (w : World) (R : Value → World → Prop) (h : Vc19 v0 w R) : HCall Try.prog 19 [v0] w R :=
  funP_sound (JL := []) (JC := []) Tcall_ok mixed_ok Try.func19 (by kernel_rfl) (by kernel_rfl)
    (((by kernel_rfl : funP Try.prog Tcall [] [] Try.f19 [v0] w R = Vc19 v0 w R)).mpr h)

-- qanatref19.NewGate
def Vc26 (v0 : Value) (w : World) (R : Value → World → Prop) : Prop :=
  HBin .lss v0 (.int .i64 1) fun v4 =>
  HIf v4
  (R (.pointer Option.none) w)
  (HBin .gtr v0 (.int .i64 64) fun v7 =>
  HIf v7
  (R (.pointer Option.none) w)
  (HBld [.int .i64 0, .int .i64 0, .int .i64 0, .slice none 0 0] [(0, 1, v0), (1, 1, v0)] fun v11 =>
  ∃ cs : List Value, v11 = .agg cs.toArray ∧ HNew cs 56 w fun v12 w_1 =>
  R v12 w_1))
theorem vc26 (v0 : Value) (w : World) (R : Value → World → Prop) (h : Vc26 v0 w R) : HCall Try.prog 26 [v0] w R :=
  funP_sound (JL := []) (JC := []) Tcall_ok mixed_ok Try.func26 (by kernel_rfl) (by kernel_rfl)
    (((by kernel_rfl : funP Try.prog Tcall [] [] Try.f26 [v0] w R = Vc26 v0 w R)).mpr h)

-- qanatref19.Gate.Push
def Vc27 (v0 : Value) (v1 : Value) (w : World) (R : Value → World → Prop) : Prop :=
  HNil v0 fun v6 =>
  HFld 1 v6 fun v7 =>
  HLd v7 w fun v8 =>
  HBin .eql v8 (.int .i64 0) fun v9 =>
  HIf v9
  (R (.bool false) w)
  (HNil v0 fun v11 =>
  HFld 1 v11 fun v12 =>
  HLd v12 w fun v13 =>
  HBin .sub v13 (.int .i64 1) fun v14 =>
  HNil v0 fun v15 =>
  HFld 1 v15 fun v16 =>
  HSt v16 v14 w fun w_1 =>
  HBldS (zrow [.string ⟨#[]⟩] 0) [] 9 0 w_1 fun v18 w_2 =>
  HNil v0 fun v20 =>
  HFld 3 v20 fun v21 =>
  HLd v21 w_2 fun v22 =>
  HApp 1 16 [.string ⟨#[]⟩] 9 v18 v22 w_2 fun v23 w_3 =>
  HBldS (zrow [.string ⟨#[]⟩] 1) [(0, 1, v1)] 9 1 w_3 fun v25 w_4 =>
  HApp 1 16 [.string ⟨#[]⟩] 9 v23 v25 w_4 fun v26 w_5 =>
  HNil v0 fun v27 =>
  HFld 3 v27 fun v28 =>
  HSt v28 v26 w_5 fun w_6 =>
  R (.bool true) w_6)
theorem vc27 (v0 : Value) (v1 : Value) (w : World) (R : Value → World → Prop) (h : Vc27 v0 v1 w R) : HCall Try.prog 27 [v0, v1] w R :=
  funP_sound (JL := []) (JC := []) Tcall_ok mixed_ok Try.func27 (by kernel_rfl) (by kernel_rfl)
    (((by kernel_rfl : funP Try.prog Tcall [] [] Try.f27 [v0, v1] w R = Vc27 v0 v1 w R)).mpr h)

-- qanatref19.Gate.Pop
def Vc28 (v0 : Value) (w : World) (R : Value → World → Prop) : Prop :=
  HNil v0 fun v6 =>
  HFld 3 v6 fun v7 =>
  HLd v7 w fun v8 =>
  HLenS v8 fun v9 =>
  HBin .eql v9 (.int .i64 0) fun v10 =>
  HIf v10
  (R (.tuple #[(.string { data := #[] }), (.bool false)]) w)
  (HNil v0 fun v12 =>
  HFld 3 v12 fun v13 =>
  HLd v13 w fun v14 =>
  HIdx 1 v14 (.int .i64 0) fun v15 =>
  HLd v15 w fun v16 =>
  HNil v0 fun v19 =>
  HFld 3 v19 fun v20 =>
  HLd v20 w fun v21 =>
  HSl 1 v21 (some (.int .i64 1)) none none fun v22 =>
  HNil v0 fun v23 =>
  HFld 3 v23 fun v24 =>
  HSt v24 v22 w fun w_1 =>
  HNil v0 fun v26 =>
  HFld 2 v26 fun v27 =>
  HLd v27 w_1 fun v28 =>
  HBin .add v28 (.int .i64 1) fun v29 =>
  HNil v0 fun v30 =>
  HFld 2 v30 fun v31 =>
  HSt v31 v29 w_1 fun w_2 =>
  R (.tuple #[v16, (.bool true)]) w_2)
theorem vc28 (v0 : Value) (w : World) (R : Value → World → Prop) (h : Vc28 v0 w R) : HCall Try.prog 28 [v0] w R :=
  funP_sound (JL := []) (JC := []) Tcall_ok mixed_ok Try.func28 (by kernel_rfl) (by kernel_rfl)
    (((by kernel_rfl : funP Try.prog Tcall [] [] Try.f28 [v0] w R = Vc28 v0 w R)).mpr h)

-- qanatref19.Gate.Give
def Vc29 (v0 : Value) (v1 : Value) (w : World) (R : Value → World → Prop) : Prop :=
  HNil v0 fun v8 =>
  HFld 2 v8 fun v9 =>
  HLd v9 w fun v10 =>
  HMin v1 v10 fun v11 =>
  HMax (.int .i64 0) v11 fun v12 =>
  HNil v0 fun v15 =>
  HFld 2 v15 fun v16 =>
  HLd v16 w fun v17 =>
  HBin .sub v17 v12 fun v19 =>
  HNil v0 fun v20 =>
  HFld 2 v20 fun v21 =>
  HSt v21 v19 w fun w_1 =>
  HNil v0 fun v24 =>
  HFld 1 v24 fun v25 =>
  HLd v25 w_1 fun v26 =>
  HBin .add v26 v12 fun v28 =>
  HNil v0 fun v29 =>
  HFld 1 v29 fun v30 =>
  HSt v30 v28 w_1 fun w_2 =>
  R v12 w_2
theorem vc29 (v0 : Value) (v1 : Value) (w : World) (R : Value → World → Prop) (h : Vc29 v0 v1 w R) : HCall Try.prog 29 [v0, v1] w R :=
  funP_sound (JL := []) (JC := []) Tcall_ok mixed_ok Try.func29 (by kernel_rfl) (by kernel_rfl)
    (((by kernel_rfl : funP Try.prog Tcall [] [] Try.f29 [v0, v1] w R = Vc29 v0 v1 w R)).mpr h)

-- qanatlaw21.RingNews
def Vc3 (v0 : Value) (w : World) (R : Value → World → Prop) : Prop :=
  HCall Try.prog 8 [v0] w fun v8 w_1 =>
  HExt 0 v8 fun v9 =>
  HExt 1 v8 fun v10 =>
  HBin .geq v0 (.int .i64 1) fun v12 =>
  HIf v12
  (HBin .leq v0 (.int .i64 64) fun v15 =>
  HCall Try.prog 9 [] w_1 fun v17 w_2 =>
  HIf v17
  (HBin .eql v10 (.int .i64 0) fun v20 =>
  HEq .bool false v20 v15 fun v22 =>
  HIf v22
  (HEq (.pointer 58) true v9 (.pointer Option.none) fun v26 =>
  HEq .bool false v26 v15 fun v28 =>
  HIf v28
  (HIf v15
  (HNot v15 fun v39 =>
  HIf v39
  (R (.bool true) w_2)
  (HCall Try.prog 10 [v9] w_2 fun v42 w_3 =>
  HBin .eql v42 v0 fun v44 =>
  HIf v44
  (HCall Try.prog 11 [v9] w_3 fun v47 w_4 =>
  HBin .eql v47 (.int .i64 0) fun v48 =>
  R v48 w_4)
  (R (.bool false) w_3)))
  (HBin .eql v10 (.int .i64 1) fun v34 =>
  HIf v34
  (HNot v15 fun v39_1 =>
  HIf v39_1
  (R (.bool true) w_2)
  (HCall Try.prog 10 [v9] w_2 fun v42_1 w_5 =>
  HBin .eql v42_1 v0 fun v44_1 =>
  HIf v44_1
  (HCall Try.prog 11 [v9] w_5 fun v47_1 w_6 =>
  HBin .eql v47_1 (.int .i64 0) fun v48_1 =>
  R v48_1 w_6)
  (R (.bool false) w_5)))
  (R (.bool false) w_2)))
  (R (.bool false) w_2))
  (R (.bool false) w_2))
  (R (.bool false) w_2))
  (HCall Try.prog 9 [] w_1 fun v17_1 w_7 =>
  HIf v17_1
  (HBin .eql v10 (.int .i64 0) fun v20_1 =>
  HEq .bool false v20_1 (.bool false) fun v22_1 =>
  HIf v22_1
  (HEq (.pointer 58) true v9 (.pointer Option.none) fun v26_1 =>
  HEq .bool false v26_1 (.bool false) fun v28_1 =>
  HIf v28_1
  (HBin .eql v10 (.int .i64 1) fun v34_1 =>
  HIf v34_1
  (HNot (.bool false) fun v39_2 =>
  HIf v39_2
  (R (.bool true) w_7)
  (HCall Try.prog 10 [v9] w_7 fun v42_2 w_8 =>
  HBin .eql v42_2 v0 fun v44_2 =>
  HIf v44_2
  (HCall Try.prog 11 [v9] w_8 fun v47_2 w_9 =>
  HBin .eql v47_2 (.int .i64 0) fun v48_2 =>
  R v48_2 w_9)
  (R (.bool false) w_8)))
  (R (.bool false) w_7))
  (R (.bool false) w_7))
  (R (.bool false) w_7))
  (R (.bool false) w_7))
theorem vc3 (v0 : Value) (w : World) (R : Value → World → Prop) (h : Vc3 v0 w R) : HCall Try.prog 3 [v0] w R :=
  funP_sound (JL := []) (JC := []) Tcall_ok mixed_ok Try.func3 (by kernel_rfl) (by kernel_rfl)
    (((by kernel_rfl : funP Try.prog Tcall [] [] Try.f3 [v0] w R = Vc3 v0 w R)).mpr h)

-- qanatlaw21.RingPlays
def Vc4 (v0 : Value) (v1 : Value) (w : World) (R : Value → World → Prop) : Prop :=
  HCall Try.prog 12 [v0, (.int .i64 9)] w fun v17 w_1 =>
  HBin .add (.int .i64 1) v17 fun v18 =>
  ∃ I : List Value → World → Prop, (HCall Try.prog 12 [v0, (.int .i64 10)] w_1 fun v20 w_2 =>
  HBin .eql v20 (.int .i64 9) fun v21 =>
  HIf v21
  (HCall Try.prog 12 [v0, (.int .i64 64)] w_2 fun v23 w_3 =>
  HBin .add (.int .i64 1) v23 fun v24 =>
  I [v24] w_3)
  (I [v18] w_2)) ∧
  ∀ (v5 : Value) w_4, I [v5] w_4 →
  HCall Try.prog 8 [v5] w_4 fun v27 w_5 =>
  HExt 0 v27 fun v28 =>
  HExt 1 v27 fun v29 =>
  HBin .neq v29 (.int .i64 0) fun v31 =>
  HIf v31
  (R (.bool false) w_5)
  (HEq (.pointer 58) false v28 (.pointer Option.none) fun v34 =>
  HIf v34
  (R (.bool false) w_5)
  (∃ (I_1 : List Value → World → Prop) (μ : List Value → World → Nat), I_1 [(.slice Option.none 0 0), (.int .i64 0)] w_5 ∧
  ∀ (v8 : Value) (v9 : Value) w_6, I_1 [v8, v9] w_6 →
  HLenS v1 fun v38 =>
  HBin .lss v9 v38 fun v39 =>
  HIf v39
  (HBin .lss v9 (.int .i64 200) fun v42 =>
  HIf v42
  (HIdx 2 v1 v9 fun v48 =>
  HLdN 2 v48 w_6 fun v49 =>
  HNew [.int .i64 0, .string ⟨#[]⟩] 33 w_6 fun v10 w_7 =>
  HStN 2 v10 v49 w_7 fun w_8 =>
  ∃ I_2 : List Value → World → Prop, (HFld 0 v10 fun v50 =>
  HLd v50 w_8 fun v51 =>
  HCall Try.prog 12 [v51, (.int .i64 7)] w_8 fun v52 w_9 =>
  HBin .lss v52 (.int .i64 4) fun v83 =>
  HIf v83
  (HFld 1 v10 fun v85 =>
  HLd v85 w_9 fun v86 =>
  HCall Try.prog 13 [v28, v86] w_9 fun v87 w_10 =>
  HLenS v8 fun v89 =>
  HBin .lss v89 v5 fun v91 =>
  HEq .bool true v87 v91 fun v92 =>
  HIf v92
  (R (.bool false) w_10)
  (HLenS v8 fun v94 =>
  HBin .lss v94 v5 fun v96 =>
  HIf v96
  (HDraw w_10 fun w_11 =>
  HFld 1 v10 fun v100 =>
  HLd v100 w_11 fun v101 =>
  (HBldS (zrow [.string ⟨#[]⟩] 0) [] 9 0 w_11 fun v97 w_12 =>
  HLd v100 w_12 fun v101_1 =>
  v101_1 = v101 ∧
  (HApp 1 16 [.string ⟨#[]⟩] 9 v97 v8 w_12 fun v99 w_13 =>
  HLd v100 w_13 fun v101_2 =>
  v101_2 = v101 ∧
  HBldS (zrow [.string ⟨#[]⟩] 1) [(0, 1, v101)] 9 1 w_13 fun v102 w_14 =>
  HApp 1 16 [.string ⟨#[]⟩] 9 v99 v102 w_14 fun v103 w_15 =>
  I_2 [v103] w_15) ∧
  (HBldS (zrow [.string ⟨#[]⟩] 1) [(0, 1, v101)] 9 1 w_12 fun v102_1 w_16 =>
  HApp 1 16 [.string ⟨#[]⟩] 9 v97 v8 w_16 fun v99_1 w_17 =>
  HApp 1 16 [.string ⟨#[]⟩] 9 v99_1 v102_1 w_17 fun v103_1 w_18 =>
  I_2 [v103_1] w_18)) ∧
  (HBldS (zrow [.string ⟨#[]⟩] 1) [(0, 1, v101)] 9 1 w_11 fun v102_2 w_19 =>
  HBldS (zrow [.string ⟨#[]⟩] 0) [] 9 0 w_19 fun v97_1 w_20 =>
  HApp 1 16 [.string ⟨#[]⟩] 9 v97_1 v8 w_20 fun v99_2 w_21 =>
  HApp 1 16 [.string ⟨#[]⟩] 9 v99_2 v102_2 w_21 fun v103_2 w_22 =>
  I_2 [v103_2] w_22))
  (I_2 [v8] w_10)))
  (HBin .lss v52 (.int .i64 6) fun v106 =>
  HIf v106
  (HCall Try.prog 14 [v28] w_9 fun v109 w_23 =>
  HExt 0 v109 fun v110 =>
  HExt 1 v109 fun v111 =>
  HLenS v8 fun v114 =>
  HBin .gtr v114 (.int .i64 0) fun v115 =>
  HEq .bool true v111 v115 fun v116 =>
  HIf v116
  (R (.bool false) w_23)
  (HIf v111
  (HIdx 1 v8 (.int .i64 0) fun v122 =>
  HLd v122 w_23 fun v123 =>
  HBin .neq v110 v123 fun v124 =>
  HIf v124
  (R (.bool false) w_23)
  (HNot v111 fun v129 =>
  HIf v129
  (HBin .neq v110 (.string { data := #[] }) fun v132 =>
  HIf v132
  (R (.bool false) w_23)
  (HIf v111
  (HSl 1 v8 (some (.int .i64 1)) none none fun v137 =>
  I_2 [v137] w_23)
  (I_2 [v8] w_23)))
  (HIf v111
  (HSl 1 v8 (some (.int .i64 1)) none none fun v137_1 =>
  I_2 [v137_1] w_23)
  (I_2 [v8] w_23))))
  (HNot v111 fun v129_1 =>
  HIf v129_1
  (HBin .neq v110 (.string { data := #[] }) fun v132_1 =>
  HIf v132_1
  (R (.bool false) w_23)
  (HIf v111
  (HSl 1 v8 (some (.int .i64 1)) none none fun v137_2 =>
  I_2 [v137_2] w_23)
  (I_2 [v8] w_23)))
  (HIf v111
  (HSl 1 v8 (some (.int .i64 1)) none none fun v137_3 =>
  I_2 [v137_3] w_23)
  (I_2 [v8] w_23)))))
  (HCall Try.prog 15 [v28] w_9 fun v55 w_24 =>
  HExt 0 v55 fun v56 =>
  HExt 1 v55 fun v57 =>
  HLenS v8 fun v60 =>
  HBin .gtr v60 (.int .i64 0) fun v61 =>
  HEq .bool true v57 v61 fun v62 =>
  HIf v62
  (R (.bool false) w_24)
  (HIf v57
  (HIdx 1 v8 (.int .i64 0) fun v68 =>
  HLd v68 w_24 fun v69 =>
  HBin .neq v56 v69 fun v70 =>
  HIf v70
  (R (.bool false) w_24)
  (HNot v57 fun v75 =>
  HIf v75
  (HBin .neq v56 (.string { data := #[] }) fun v78 =>
  HIf v78
  (R (.bool false) w_24)
  (I_2 [v8] w_24))
  (I_2 [v8] w_24)))
  (HNot v57 fun v75_1 =>
  HIf v75_1
  (HBin .neq v56 (.string { data := #[] }) fun v78_1 =>
  HIf v78_1
  (R (.bool false) w_24)
  (I_2 [v8] w_24))
  (I_2 [v8] w_24)))))) ∧
  ∀ (v8_1 : Value) w_25, I_2 [v8_1] w_25 →
  HCall Try.prog 11 [v28] w_25 fun v139 w_26 =>
  HLenS v8_1 fun v141 =>
  HBin .neq v139 v141 fun v142 =>
  HIf v142
  (R (.bool false) w_26)
  (HCall Try.prog 17 [v28] w_26 fun v145 w_27 =>
  HCall Try.prog 16 [v145, v8_1] w_27 fun v147 w_28 =>
  HNot v147 fun v148 =>
  HIf v148
  (R (.bool false) w_28)
  (HCall Try.prog 10 [v28] w_28 fun v152 w_29 =>
  HBin .neq v152 v5 fun v154 =>
  HIf v154
  (R (.bool false) w_29)
  (HBin .add v9 (.int .i64 1) fun v45 =>
  I_1 [v8_1, v45] w_29 ∧ μ [v8_1, v45] w_29 < μ [v8, v9] w_6))))
  (HCall Try.prog 9 [] w_6 fun v156 w_30 =>
  R v156 w_30))
  (HCall Try.prog 9 [] w_6 fun v156_1 w_31 =>
  R v156_1 w_31)))
theorem vc4 (v0 : Value) (v1 : Value) (w : World) (R : Value → World → Prop) (h : Vc4 v0 v1 w R) : HCall Try.prog 4 [v0, v1] w R :=
  funP_sound (JL := [(9, [8, 9], [1, 5, 6])]) (JC := [(4, [5], [1]), (27, [8], [1, 5, 6, 9])]) Tcall_ok mixed_ok Try.func4 (by kernel_rfl) (by kernel_rfl)
    (((by kernel_rfl : funP Try.prog Tcall [(9, [8, 9], [1, 5, 6])] [(4, [5], [1]), (27, [8], [1, 5, 6, 9])] Try.f4 [v0, v1] w R = Vc4 v0 v1 w R)).mpr h)

-- qanatlaw21.RingRound
def Vc5 (v0 : Value) (v1 : Value) (v2 : Value) (w : World) (R : Value → World → Prop) : Prop :=
  HCall Try.prog 12 [v0, (.int .i64 12)] w fun v19 w_1 =>
  HBin .add (.int .i64 1) v19 fun v20 =>
  HCall Try.prog 8 [v20] w_1 fun v23 w_2 =>
  HExt 0 v23 fun v24 =>
  HExt 1 v23 fun v25 =>
  HBin .neq v25 (.int .i64 0) fun v27 =>
  HIf v27
  (R (.bool false) w_2)
  (HEq (.pointer 58) false v24 (.pointer Option.none) fun v30 =>
  HIf v30
  (R (.bool false) w_2)
  (HCall Try.prog 12 [v2, v20] w_2 fun v34 w_3 =>
  ∃ (I : List Value → World → Prop) (μ : List Value → World → Nat), I [(.int .i64 0), (.int .i64 0)] w_3 ∧
  ∀ (v11 : Value) (v13 : Value) w_4, I [v11, v13] w_4 →
  HBin .lss v13 v34 fun v37 =>
  HIf v37
  (HCvI .u8 v11 fun v42 =>
  HBldS (zrow [.int .u8 0] 1) [(0, 1, v42)] 5 1 w_4 fun v43 w_5 =>
  HRq Try.prog (convert 40 9 v43) w_5 fun v44 =>
  HCall Try.prog 13 [v24, v44] w_5 fun v45 w_6 =>
  HNot v45 fun v46 =>
  HIf v46
  (R (.bool false) w_6)
  (HBin .add v11 (.int .i64 1) fun v48 =>
  HBin .add v13 (.int .i64 1) fun v39 =>
  I [v48, v39] w_6 ∧ μ [v48, v39] w_6 < μ [v11, v13] w_4))
  (∃ (I_1 : List Value → World → Prop) (μ_1 : List Value → World → Nat), I_1 [v11, (.int .i64 0), (.int .i64 0)] w_4 ∧
  ∀ (v11_1 : Value) (v12 : Value) (v14 : Value) w_7, I_1 [v11_1, v12, v14] w_7 →
  HCall Try.prog 12 [v1, (.int .i64 300)] w_7 fun v51 w_8 =>
  HBin .lss v14 v51 fun v52 =>
  HIf v52
  (HCvI .u8 v11_1 fun v57 =>
  HBldS (zrow [.int .u8 0] 1) [(0, 1, v57)] 5 1 w_8 fun v58 w_9 =>
  HRq Try.prog (convert 40 9 v58) w_9 fun v59 =>
  HCall Try.prog 13 [v24, v59] w_9 fun v60 w_10 =>
  HNot v60 fun v61 =>
  HIf v61
  (R (.bool false) w_10)
  (HBin .add v11_1 (.int .i64 1) fun v63 =>
  HCall Try.prog 14 [v24] w_10 fun v66 w_11 =>
  HExt 0 v66 fun v67 =>
  HExt 1 v66 fun v68 =>
  HNot v68 fun v70 =>
  HIf v70
  (R (.bool false) w_11)
  (HCvI .u8 v12 fun v74 =>
  HBldS (zrow [.int .u8 0] 1) [(0, 1, v74)] 5 1 w_11 fun v75 w_12 =>
  HRq Try.prog (convert 40 9 v75) w_12 fun v76 =>
  HBin .neq v67 v76 fun v77 =>
  HIf v77
  (R (.bool false) w_12)
  (HBin .add v12 (.int .i64 1) fun v80 =>
  HBin .add v14 (.int .i64 1) fun v54 =>
  I_1 [v63, v80, v54] w_12 ∧ μ_1 [v63, v80, v54] w_12 < μ_1 [v11_1, v12, v14] w_7))))
  (HCall Try.prog 17 [v24] w_8 fun v82 w_13 =>
  HCall Try.prog 17 [v24] w_13 fun v84 w_14 =>
  HCall Try.prog 18 [v84] w_14 fun v85 w_15 =>
  HCall Try.prog 9 [] w_15 fun v86 w_16 =>
  HIf v86
  (HLenS v82 fun v89 =>
  HBin .eql v89 v34 fun v91 =>
  HIf v91
  (HCall Try.prog 11 [v24] w_16 fun v95 w_17 =>
  HBin .eql v95 v34 fun v97 =>
  HIf v97
  (HCall Try.prog 17 [v24] w_17 fun v101 w_18 =>
  HCall Try.prog 16 [v101, v82] w_18 fun v103 w_19 =>
  R v103 w_19)
  (R (.bool false) w_17))
  (R (.bool false) w_16))
  (R (.bool false) w_16)))))
theorem vc5 (v0 : Value) (v1 : Value) (v2 : Value) (w : World) (R : Value → World → Prop) (h : Vc5 v0 v1 v2 w R) : HCall Try.prog 5 [v0, v1, v2] w R :=
  funP_sound (JL := [(8, [11, 13], [1, 8, 10, 12]), (14, [11, 12, 14], [1, 8, 10])]) (JC := []) Tcall_ok mixed_ok Try.func5 (by kernel_rfl) (by kernel_rfl)
    (((by kernel_rfl : funP Try.prog Tcall [(8, [11, 13], [1, 8, 10, 12]), (14, [11, 12, 14], [1, 8, 10])] [] Try.f5 [v0, v1, v2] w R = Vc5 v0 v1 v2 w R)).mpr h)

-- qanatlaw22.GateSum
def Vc6 (v0 : Value) (v1 : Value) (w : World) (R : Value → World → Prop) : Prop :=
  HCall Try.prog 12 [v0, (.int .i64 64)] w fun v19 w_1 =>
  HBin .add (.int .i64 1) v19 fun v20 =>
  HCall Try.prog 19 [v20] w_1 fun v23 w_2 =>
  HExt 0 v23 fun v24 =>
  HExt 1 v23 fun v25 =>
  HBin .neq v25 (.int .i64 0) fun v27 =>
  HIf v27
  (R (.bool false) w_2)
  (HEq (.pointer 51) false v24 (.pointer Option.none) fun v30 =>
  HIf v30
  (R (.bool false) w_2)
  (∃ (I : List Value → World → Prop) (μ : List Value → World → Nat), I [(.int .i64 0), (.int .i64 0), (.int .i64 0), (.int .i64 0)] w_2 ∧
  ∀ (v8 : Value) (v9 : Value) (v10 : Value) (v11 : Value) w_3, I [v8, v9, v10, v11] w_3 →
  HLenS v1 fun v34 =>
  HBin .lss v11 v34 fun v35 =>
  HIf v35
  (HBin .lss v11 (.int .i64 200) fun v38 =>
  HIf v38
  (HIdx 3 v1 v11 fun v44 =>
  HLdN 3 v44 w_3 fun v45 =>
  HNew [.int .i64 0, .int .i64 0, .string ⟨#[]⟩] 48 w_3 fun v12 w_4 =>
  HStN 3 v12 v45 w_4 fun w_5 =>
  ∃ I_1 : List Value → World → Prop, (HFld 0 v12 fun v46 =>
  HLd v46 w_5 fun v47 =>
  HCall Try.prog 12 [v47, (.int .i64 8)] w_5 fun v48 w_6 =>
  HBin .lss v48 (.int .i64 4) fun v65 =>
  HIf v65
  (HCall Try.prog 20 [v24] w_6 fun v67 w_7 =>
  HFld 2 v12 fun v69 =>
  HLd v69 w_7 fun v70 =>
  HCall Try.prog 21 [v24, v70] w_7 fun v71 w_8 =>
  HBin .gtr v67 (.int .i64 0) fun v73 =>
  HEq .bool true v71 v73 fun v74 =>
  HIf v74
  (R (.bool false) w_8)
  (HBin .gtr v67 (.int .i64 0) fun v76 =>
  HIf v76
  (HBin .add v8 (.int .i64 1) fun v78 =>
  I_1 [v78, v9, v10] w_8)
  (I_1 [v8, v9, v10] w_8)))
  (HBin .lss v48 (.int .i64 6) fun v81 =>
  HIf v81
  (HCall Try.prog 22 [v24] w_6 fun v84 w_9 =>
  HExt 0 v84 fun v85 =>
  HExt 1 v84 fun v86 =>
  HIf v86
  (HBin .add v9 (.int .i64 1) fun v89 =>
  I_1 [v8, v89, v10] w_9)
  (I_1 [v8, v9, v10] w_9))
  (HFld 1 v12 fun v50 =>
  HLd v50 w_6 fun v51 =>
  HCall Try.prog 12 [v51, (.int .i64 5)] w_6 fun v52 w_10 =>
  HCall Try.prog 23 [v24, v52] w_10 fun v53 w_11 =>
  HBin .lss v53 (.int .i64 0) fun v55 =>
  HIf v55
  (R (.bool false) w_11)
  (HBin .gtr v53 (.int .i64 4) fun v58 =>
  HIf v58
  (R (.bool false) w_11)
  (HBin .add v10 v53 fun v62 =>
  I_1 [v8, v9, v62] w_11))))) ∧
  ∀ (v8_1 : Value) (v9_1 : Value) (v10_1 : Value) w_12, I_1 [v8_1, v9_1, v10_1] w_12 →
  HDraw w_12 fun w_13 =>
  HNil v24 fun v93 =>
  HFld 0 v93 fun v94 =>
  HLd v94 w_13 fun v95 =>
  HCall Try.prog 20 [v24] w_13 fun v91 w_14 =>
  HLd v94 w_14 fun v95_1 =>
  v95_1 = v95 ∧
  HCall Try.prog 11 [v95] w_14 fun v96 w_15 =>
  HBin .add v91 v96 fun v97 =>
  HCall Try.prog 24 [v24] w_15 fun v99 w_16 =>
  HBin .add v97 v99 fun v100 =>
  HBin .neq v100 v20 fun v102 =>
  HIf v102
  (R (.bool false) w_16)
  (HNil v24 fun v105 =>
  HFld 0 v105 fun v106 =>
  HLd v106 w_16 fun v107 =>
  HBin .sub v8_1 v9_1 fun v111 =>
  HCall Try.prog 11 [v107] w_16 fun v108 w_17 =>
  HBin .neq v108 v111 fun v112 =>
  HIf v112
  (R (.bool false) w_17)
  (HBin .sub v9_1 v10_1 fun v119 =>
  HCall Try.prog 24 [v24] w_17 fun v116 w_18 =>
  HBin .neq v116 v119 fun v120 =>
  HIf v120
  (R (.bool false) w_18)
  (HCall Try.prog 20 [v24] w_18 fun v124 w_19 =>
  HBin .lss v124 (.int .i64 0) fun v125 =>
  HIf v125
  (R (.bool false) w_19)
  (HCall Try.prog 24 [v24] w_19 fun v129 w_20 =>
  HBin .lss v129 (.int .i64 0) fun v130 =>
  HIf v130
  (R (.bool false) w_20)
  (HNil v24 fun v134 =>
  HFld 0 v134 fun v135 =>
  HLd v135 w_20 fun v136 =>
  HCall Try.prog 11 [v136] w_20 fun v137 w_21 =>
  HBin .gtr v137 v20 fun v139 =>
  HIf v139
  (R (.bool false) w_21)
  (HBin .add v11 (.int .i64 1) fun v41 =>
  I [v8_1, v9_1, v10_1, v41] w_21 ∧ μ [v8_1, v9_1, v10_1, v41] w_21 < μ [v8, v9, v10, v11] w_3)))))))
  (HCall Try.prog 25 [] w_3 fun v141 w_22 =>
  R v141 w_22))
  (HCall Try.prog 25 [] w_3 fun v141_1 w_23 =>
  R v141_1 w_23)))
theorem vc6 (v0 : Value) (v1 : Value) (w : World) (R : Value → World → Prop) (h : Vc6 v0 v1 w R) : HCall Try.prog 6 [v0, v1] w R :=
  funP_sound (JL := [(7, [8, 9, 10, 11], [1, 5, 6])]) (JC := [(25, [8, 9, 10], [1, 5, 6, 11])]) Tcall_ok mixed_ok Try.func6 (by kernel_rfl) (by kernel_rfl)
    (((by kernel_rfl : funP Try.prog Tcall [(7, [8, 9, 10, 11], [1, 5, 6])] [(25, [8, 9, 10], [1, 5, 6, 11])] Try.f6 [v0, v1] w R = Vc6 v0 v1 w R)).mpr h)

-- qanatlaw22.GatePlays
def Vc7 (v0 : Value) (v1 : Value) (w : World) (R : Value → World → Prop) : Prop :=
  ∃ I : List Value → World → Prop, (HCall Try.prog 12 [v0, (.int .i64 8)] w fun v22 w_1 =>
  HBin .gtr v22 (.int .i64 0) fun v23 =>
  HIf v23
  (HCall Try.prog 12 [v0, (.int .i64 7)] w_1 fun v25 w_2 =>
  HBin .add (.int .i64 1) v25 fun v26 =>
  I [v26] w_2)
  (I [v0] w_1)) ∧
  ∀ (v5 : Value) w_3, I [v5] w_3 →
  HCall Try.prog 19 [v5] w_3 fun v29 w_4 =>
  HExt 0 v29 fun v30 =>
  HExt 1 v29 fun v31 =>
  HCall Try.prog 26 [v5] w_4 fun v33 w_5 =>
  HEq (.pointer 56) false v33 (.pointer Option.none) fun v35 =>
  HIf v35
  (HCall Try.prog 25 [] w_5 fun v36 w_6 =>
  HIf v36
  (HBin .eql v31 (.int .i64 1) fun v39 =>
  HIf v39
  (HEq (.pointer 51) false v30 (.pointer Option.none) fun v43 =>
  R v43 w_6)
  (R (.bool false) w_6))
  (R (.bool false) w_6))
  (HBin .neq v31 (.int .i64 0) fun v46 =>
  HIf v46
  (R (.bool false) w_5)
  (HEq (.pointer 51) false v30 (.pointer Option.none) fun v49 =>
  HIf v49
  (R (.bool false) w_5)
  (∃ (I_1 : List Value → World → Prop) (μ : List Value → World → Nat), I_1 [(.int .i64 0)] w_5 ∧
  ∀ (v9 : Value) w_7, I_1 [v9] w_7 →
  HLenS v1 fun v53 =>
  HBin .lss v9 v53 fun v54 =>
  HIf v54
  (HBin .lss v9 (.int .i64 200) fun v57 =>
  HIf v57
  (HIdx 3 v1 v9 fun v63 =>
  HLdN 3 v63 w_7 fun v64 =>
  HNew [.int .i64 0, .int .i64 0, .string ⟨#[]⟩] 48 w_7 fun v10 w_8 =>
  HStN 3 v10 v64 w_8 fun w_9 =>
  ∃ I_2 : List Value → World → Prop, (HFld 0 v10 fun v65 =>
  HLd v65 w_9 fun v66 =>
  HCall Try.prog 12 [v66, (.int .i64 8)] w_9 fun v67 w_10 =>
  HBin .lss v67 (.int .i64 4) fun v107 =>
  HIf v107
  (HDraw w_10 fun w_11 =>
  HFld 2 v10 fun v109 =>
  HLd v109 w_11 fun v110 =>
  HFld 2 v10 fun v113 =>
  HLd v113 w_11 fun v114 =>
  HCall Try.prog 21 [v30, v110] w_11 fun v111 w_12 =>
  HLd v113 w_12 fun v114_1 =>
  v114_1 = v114 ∧
  HCall Try.prog 27 [v33, v114] w_12 fun v115 w_13 =>
  HEq .bool false v111 v115 fun v116 =>
  I_2 [v116] w_13)
  (HBin .lss v67 (.int .i64 6) fun v119 =>
  HIf v119
  (HCall Try.prog 22 [v30] w_10 fun v122 w_14 =>
  HExt 0 v122 fun v123 =>
  HExt 1 v122 fun v124 =>
  HCall Try.prog 28 [v33] w_14 fun v127 w_15 =>
  HExt 0 v127 fun v128 =>
  HExt 1 v127 fun v129 =>
  HBin .eql v123 v128 fun v132 =>
  HIf v132
  (HEq .bool false v124 v129 fun v136 =>
  I_2 [v136] w_15)
  (I_2 [(.bool false)] w_15))
  (HBin .eql v67 (.int .i64 6) fun v140 =>
  HIf v140
  (HFld 1 v10 fun v141 =>
  HLd v141 w_10 fun v142 =>
  ∃ I_3 : List Value → World → Prop, (HBin .gtr v142 (.int .i64 0) fun v144 =>
  HIf v144
  (HBin .rem v9 (.int .i64 3) fun v147 =>
  HBin .gtr v147 (.int .i64 0) fun v148 =>
  HIf v148
  (HBin .rem v142 (.int .i64 4) fun v151 =>
  I_3 [v151] w_10)
  (I_3 [v142] w_10))
  (I_3 [v142] w_10)) ∧
  ∀ (v17 : Value) w_16, I_3 [v17] w_16 →
  HCall Try.prog 23 [v30, v17] w_16 fun v154 w_17 =>
  HCall Try.prog 29 [v33, v17] w_17 fun v157 w_18 =>
  HBin .eql v154 v157 fun v158 =>
  I_2 [v158] w_18)
  (HNil v30 fun v70 =>
  HFld 0 v70 fun v71 =>
  HLd v71 w_10 fun v72 =>
  HCall Try.prog 15 [v72] w_10 fun v73 w_19 =>
  HExt 0 v73 fun v74 =>
  HExt 1 v73 fun v75 =>
  HNil v33 fun v78 =>
  HFld 3 v78 fun v79 =>
  HLd v79 w_19 fun v80 =>
  HLenS v80 fun v81 =>
  HBin .gtr v81 (.int .i64 0) fun v82 =>
  HEq .bool false v75 v82 fun v83 =>
  HIf v83
  (HIf v75
  (HNil v33 fun v89 =>
  HFld 3 v89 fun v90 =>
  HLd v90 w_19 fun v91 =>
  HIdx 1 v91 (.int .i64 0) fun v92 =>
  HLd v92 w_19 fun v93 =>
  HBin .eql v74 v93 fun v94 =>
  HIf v94
  (I_2 [(.bool true)] w_19)
  (HNot v75 fun v98 =>
  HIf v98
  (HBin .eql v74 (.string { data := #[] }) fun v101 =>
  I_2 [v101] w_19)
  (I_2 [(.bool false)] w_19)))
  (HNot v75 fun v98_1 =>
  HIf v98_1
  (HBin .eql v74 (.string { data := #[] }) fun v101_1 =>
  I_2 [v101_1] w_19)
  (I_2 [(.bool false)] w_19)))
  (I_2 [(.bool false)] w_19))))) ∧
  ∀ (v11 : Value) w_20, I_2 [v11] w_20 →
  HDraw w_20 fun w_21 =>
  HNot v11 fun v160 =>
  HIf v160
  (R (.bool false) w_21)
  (HNil v33 fun v165 =>
  HFld 1 v165 fun v166 =>
  HLd v166 w_21 fun v167 =>
  HCall Try.prog 20 [v30] w_21 fun v163 w_22 =>
  HLd v166 w_22 fun v167_1 =>
  v167_1 = v167 ∧
  HBin .neq v163 v167 fun v168 =>
  HIf v168
  (R (.bool false) w_22)
  (HNil v33 fun v174 =>
  HFld 2 v174 fun v175 =>
  HLd v175 w_22 fun v176 =>
  HCall Try.prog 24 [v30] w_22 fun v172 w_23 =>
  HLd v175 w_23 fun v176_1 =>
  v176_1 = v176 ∧
  HBin .neq v172 v176 fun v177 =>
  HIf v177
  (R (.bool false) w_23)
  (HNil v30 fun v181 =>
  HFld 0 v181 fun v182 =>
  HLd v182 w_23 fun v183 =>
  HNil v33 fun v186 =>
  HFld 3 v186 fun v187 =>
  HLd v187 w_23 fun v188 =>
  HLenS v188 fun v189 =>
  HCall Try.prog 11 [v183] w_23 fun v184 w_24 =>
  HLd v187 w_24 fun v188_1 =>
  v188_1 = v188 ∧
  HBin .neq v184 v189 fun v190 =>
  HIf v190
  (R (.bool false) w_24)
  (HNil v30 fun v194 =>
  HFld 0 v194 fun v195 =>
  HLd v195 w_24 fun v196 =>
  HCall Try.prog 10 [v196] w_24 fun v197 w_25 =>
  HBin .neq v197 v5 fun v199 =>
  HIf v199
  (R (.bool false) w_25)
  (HNil v30 fun v203 =>
  HFld 0 v203 fun v204 =>
  HLd v204 w_25 fun v205 =>
  HNil v33 fun v208 =>
  HFld 3 v208 fun v209 =>
  HLd v209 w_25 fun v210 =>
  HCall Try.prog 17 [v205] w_25 fun v206 w_26 =>
  HLd v209 w_26 fun v210_1 =>
  v210_1 = v210 ∧
  HCall Try.prog 16 [v206, v210] w_26 fun v211 w_27 =>
  HNot v211 fun v212 =>
  HIf v212
  (R (.bool false) w_27)
  (HBin .add v9 (.int .i64 1) fun v60 =>
  I_1 [v60] w_27 ∧ μ [v60] w_27 < μ [v9] w_7)))))))
  (HCall Try.prog 25 [] w_7 fun v214 w_28 =>
  R v214 w_28))
  (HCall Try.prog 25 [] w_7 fun v214_1 w_29 =>
  R v214_1 w_29))))
theorem vc7 (v0 : Value) (v1 : Value) (w : World) (R : Value → World → Prop) (h : Vc7 v0 v1 w R) : HCall Try.prog 7 [v0, v1] w R :=
  funP_sound (JL := [(11, [9], [1, 5, 6, 8])]) (JC := [(4, [5], [1]), (29, [11], [1, 5, 6, 8, 9]), (28, [17], [1, 5, 6, 8, 9])]) Tcall_ok mixed_ok Try.func7 (by kernel_rfl) (by kernel_rfl)
    (((by kernel_rfl : funP Try.prog Tcall [(11, [9], [1, 5, 6, 8])] [(4, [5], [1]), (29, [11], [1, 5, 6, 8, 9]), (28, [17], [1, 5, 6, 8, 9])] Try.f7 [v0, v1] w R = Vc7 v0 v1 w R)).mpr h)

-- qanatlaw21.awake
def Vc9 (w : World) (R : Value → World → Prop) : Prop :=
  HCall Try.prog 8 [(.int .i64 1)] w fun v10 w_1 =>
  HExt 0 v10 fun v11 =>
  HExt 1 v10 fun v12 =>
  HCall Try.prog 8 [(.int .i64 0)] w_1 fun v14 w_2 =>
  HExt 0 v14 fun v15 =>
  HExt 1 v14 fun v16 =>
  HBin .neq v12 (.int .i64 0) fun v18 =>
  HIf v18
  (R (.bool false) w_2)
  (HEq (.pointer 58) false v11 (.pointer Option.none) fun v21 =>
  HIf v21
  (R (.bool false) w_2)
  (HBin .neq v16 (.int .i64 1) fun v25 =>
  HIf v25
  (R (.bool false) w_2)
  (HCall Try.prog 13 [v11, (.string { data := #[120] })] w_2 fun v28 w_3 =>
  HCall Try.prog 13 [v11, (.string { data := #[121] })] w_3 fun v30 w_4 =>
  HCall Try.prog 14 [v11] w_4 fun v33 w_5 =>
  HExt 0 v33 fun v34 =>
  HExt 1 v33 fun v35 =>
  HIf v28
  (HNot v30 fun v39 =>
  HIf v39
  (HIf v35
  (HBin .eql v34 (.string { data := #[120] }) fun v46 =>
  HIf v46
  (HCall Try.prog 11 [v11] w_5 fun v50 w_6 =>
  HBin .eql v50 (.int .i64 0) fun v51 =>
  HIf v51
  (HCall Try.prog 10 [v11] w_6 fun v55 w_7 =>
  HBin .eql v55 (.int .i64 1) fun v56 =>
  R v56 w_7)
  (R (.bool false) w_6))
  (R (.bool false) w_5))
  (R (.bool false) w_5))
  (R (.bool false) w_5))
  (R (.bool false) w_5))))
theorem vc9 (w : World) (R : Value → World → Prop) (h : Vc9 w R) : HCall Try.prog 9 [] w R :=
  funP_sound (JL := []) (JC := []) Tcall_ok mixed_ok Try.func9 (by kernel_rfl) (by kernel_rfl)
    (((by kernel_rfl : funP Try.prog Tcall [] [] Try.f9 [] w R = Vc9 w R)).mpr h)

-- qanatlaw22.awake
def Vc25 (w : World) (R : Value → World → Prop) : Prop :=
  HCall Try.prog 19 [(.int .i64 1)] w fun v11 w_1 =>
  HExt 0 v11 fun v12 =>
  HExt 1 v11 fun v13 =>
  HCall Try.prog 19 [(.int .i64 65)] w_1 fun v15 w_2 =>
  HExt 0 v15 fun v16 =>
  HExt 1 v15 fun v17 =>
  HBin .neq v13 (.int .i64 0) fun v19 =>
  HIf v19
  (R (.bool false) w_2)
  (HEq (.pointer 51) false v12 (.pointer Option.none) fun v22 =>
  HIf v22
  (R (.bool false) w_2)
  (HBin .neq v17 (.int .i64 1) fun v26 =>
  HIf v26
  (R (.bool false) w_2)
  (HCall Try.prog 21 [v12, (.string { data := #[120] })] w_2 fun v29 w_3 =>
  HCall Try.prog 22 [v12] w_3 fun v32 w_4 =>
  HExt 0 v32 fun v33 =>
  HExt 1 v32 fun v34 =>
  HCall Try.prog 21 [v12, (.string { data := #[121] })] w_4 fun v36 w_5 =>
  HCall Try.prog 23 [v12, (.int .i64 5)] w_5 fun v38 w_6 =>
  HIf v29
  (HIf v34
  (HBin .eql v33 (.string { data := #[120] }) fun v45 =>
  HIf v45
  (HNot v36 fun v49 =>
  HIf v49
  (HBin .eql v38 (.int .i64 1) fun v53 =>
  HIf v53
  (HCall Try.prog 21 [v12, (.string { data := #[122] })] w_6 fun v57 w_7 =>
  HIf v57
  (HCall Try.prog 20 [v12] w_7 fun v61 w_8 =>
  HBin .eql v61 (.int .i64 0) fun v62 =>
  HIf v62
  (HCall Try.prog 24 [v12] w_8 fun v66 w_9 =>
  HBin .eql v66 (.int .i64 0) fun v67 =>
  HIf v67
  (HNil v12 fun v71 =>
  HFld 0 v71 fun v72 =>
  HLd v72 w_9 fun v73 =>
  HCall Try.prog 11 [v73] w_9 fun v74 w_10 =>
  HBin .eql v74 (.int .i64 1) fun v75 =>
  HIf v75
  (HNil v12 fun v79 =>
  HFld 0 v79 fun v80 =>
  HLd v80 w_10 fun v81 =>
  HCall Try.prog 10 [v81] w_10 fun v82 w_11 =>
  HBin .eql v82 (.int .i64 1) fun v83 =>
  R v83 w_11)
  (R (.bool false) w_10))
  (R (.bool false) w_9))
  (R (.bool false) w_8))
  (R (.bool false) w_7))
  (R (.bool false) w_6))
  (R (.bool false) w_6))
  (R (.bool false) w_6))
  (R (.bool false) w_6))
  (R (.bool false) w_6))))
theorem vc25 (w : World) (R : Value → World → Prop) (h : Vc25 w R) : HCall Try.prog 25 [] w R :=
  funP_sound (JL := []) (JC := []) Tcall_ok mixed_ok Try.func25 (by kernel_rfl) (by kernel_rfl)
    (((by kernel_rfl : funP Try.prog Tcall [] [] Try.f25 [] w R = Vc25 w R)).mpr h)

end Go.Proofs.Ytjgacikohlnjdaa
