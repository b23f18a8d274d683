/-
  What calls of functions ask, printed by a program of mine (gen.py) out of the functions' code; each is checked by the kernel.
-/
import Derived.Test.YtmcglicbolhmfaaGreatTab
namespace Go.Proofs.YtmcglicbolhmfaaGreat
set_option linter.unusedVariables false
set_option maxRecDepth 100000
open Go.RowKit

-- seg.Read
def Vc53 (v0 : Value) (w : World) (R : Value → World → Prop) : Prop :=
  HCall Tryz.prog 68 [v0] w fun v11 w_1 =>
  HExt 0 v11 fun v12 =>
  HExt 1 v11 fun v13 =>
  HBld [.slice none 0 0, .int .i64 0] [(0, 1, v12), (1, 1, v13)] fun v16 =>
  HBld [.slice none 0 0, .int .i64 0, .int .i64 0] [(0, 2, v16)] fun v17 =>
  ∃ cs : List Value, v17 = .agg cs.toArray ∧ HNew cs 128 w_1 fun v18 w_2 =>
  HCall Tryz.prog 69 [v18] w_2 fun v20 w_3 =>
  HNot v20 fun v21 =>
  HIf v21
  (R (.tuple #[(.int .i64 0), (.slice Option.none 0 0), (.int .i64 0), (.int .i64 3)]) w_3)
  (HDraw w_3 fun w_4 =>
  HNil v18 fun v23 =>
  HFld 2 v23 fun v24 =>
  HLd v24 w_4 fun v25 =>
  HNil v18 fun v27 =>
  HFld 0 v27 fun v28 =>
  HFld 0 v28 fun v29 =>
  HLd v29 w_4 fun v30 =>
  HSl 1 v30 (some (.int .i64 1)) none none fun v31 =>
  HNil v18 fun v33 =>
  HFld 0 v33 fun v34 =>
  HFld 1 v34 fun v35 =>
  HLd v35 w_4 fun v36 =>
  HLd v29 w_4 fun v30_1 =>
  v30_1 = v30 ∧
  HLd v35 w_4 fun v36_1 =>
  v36_1 = v36 ∧
  HLd v35 w_4 fun v36_2 =>
  v36_2 = v36 ∧
  R (.tuple #[v25, v31, v36, (.int .i64 0)]) w_4)
theorem vc53 (v0 : Value) (w : World) (R : Value → World → Prop) (h : Vc53 v0 w R) : HCall Tryz.prog 53 [v0] w R :=
  funP_sound (JL := []) (JC := []) Tcall_ok mixed_ok Tryz.func53 (by kernel_rfl) (by kernel_rfl)
    (((by kernel_rfl : funP Tryz.prog Tcall [] [] Tryz.f53 [v0] w R = Vc53 v0 w R)).mpr h)

-- seg.reader.head
def Vc69 (v0 : Value) (w : World) (R : Value → World → Prop) : Prop :=
  HNil v0 fun v6 =>
  HFld 0 v6 fun v7 =>
  HFld 0 v7 fun v8 =>
  HLd v8 w fun v9 =>
  HLenS v9 fun v10 =>
  HBin .eql v10 (.int .i64 0) fun v11 =>
  HIf v11
  (R (.bool false) w)
  (HNil v0 fun v14 =>
  HFld 0 v14 fun v15 =>
  HFld 0 v15 fun v16 =>
  HLd v16 w fun v17 =>
  HIdx 1 v17 (.int .i64 0) fun v18 =>
  HLd v18 w fun v19 =>
  HCall Tryz.prog 81 [v19] w fun v20 w_1 =>
  HExt 0 v20 fun v21 =>
  HExt 1 v20 fun v22 =>
  HBin .neq v22 (.int .i64 0) fun v24 =>
  HIf v24
  (R (.bool false) w_1)
  (HLenS v21 fun v27 =>
  HBin .neq v27 (.int .i64 1) fun v28 =>
  HIf v28
  (R (.bool false) w_1)
  (HIdx 3 v21 (.int .i64 0) fun v32 =>
  HFld 0 v32 fun v33 =>
  HLd v33 w_1 fun v34 =>
  HBin .neq v34 (.int .i64 1) fun v35 =>
  HIf v35
  (R (.bool false) w_1)
  (HIdx 3 v21 (.int .i64 0) fun v39 =>
  HFld 1 v39 fun v40 =>
  HLd v40 w_1 fun v41 =>
  HBin .lss v41 (.int .i64 1) fun v42 =>
  HIf v42
  (R (.bool false) w_1)
  (HIdx 3 v21 (.int .i64 0) fun v46 =>
  HFld 1 v46 fun v47 =>
  HLd v47 w_1 fun v48 =>
  HBin .gtr v48 (.int .i64 1099511627776) fun v49 =>
  HIf v49
  (R (.bool false) w_1)
  (HIdx 3 v21 (.int .i64 0) fun v53 =>
  HFld 1 v53 fun v54 =>
  HLd v54 w_1 fun v55 =>
  HNil v0 fun v56 =>
  HFld 2 v56 fun v57 =>
  HSt v57 v55 w_1 fun w_2 =>
  R (.bool true) w_2))))))
theorem vc69 (v0 : Value) (w : World) (R : Value → World → Prop) (h : Vc69 v0 w R) : HCall Tryz.prog 69 [v0] w R :=
  funP_sound (JL := []) (JC := []) Tcall_ok mixed_ok Tryz.func69 (by kernel_rfl) (by kernel_rfl)
    (((by kernel_rfl : funP Tryz.prog Tcall [] [] Tryz.f69 [v0] w R = Vc69 v0 w R)).mpr h)

-- seg.Head
def Vc78 (v0 : Value) (w : World) (R : Value → World → Prop) : Prop :=
  HBin .lss v0 (.int .i64 1) fun v7 =>
  HIf v7
  (R (.tuple #[(.slice Option.none 0 0), (.int .i64 1)]) w)
  (HBin .gtr v0 (.int .i64 1099511627776) fun v10 =>
  HIf v10
  (R (.tuple #[(.slice Option.none 0 0), (.int .i64 1)]) w)
  (HBld [.int .i64 0, .int .i64 0, .string ⟨#[]⟩] [(0, 1, (.int .i64 1)), (1, 1, v0)] fun v14 =>
  HBldS (zrow [.int .i64 0, .int .i64 0, .string ⟨#[]⟩] 1) [(0, 3, v14)] 105 1 w fun v15 w_1 =>
  HCall Tryz.prog 87 [v15] w_1 fun v16 w_2 =>
  HExt 0 v16 fun v17 =>
  HExt 1 v16 fun v18 =>
  HBin .neq v18 (.int .i64 0) fun v20 =>
  HIf v20
  (R (.tuple #[(.slice Option.none 0 0), v18]) w_2)
  (HCall Tryz.prog 77 [v17] w_2 fun v23 w_3 =>
  HExt 0 v23 fun v24 =>
  HExt 1 v23 fun v25 =>
  R (.tuple #[v24, v25]) w_3)))
theorem vc78 (v0 : Value) (w : World) (R : Value → World → Prop) (h : Vc78 v0 w R) : HCall Tryz.prog 78 [v0] w R :=
  funP_sound (JL := []) (JC := []) Tcall_ok mixed_ok Tryz.func78 (by kernel_rfl) (by kernel_rfl)
    (((by kernel_rfl : funP Tryz.prog Tcall [] [] Tryz.f78 [v0] w R = Vc78 v0 w R)).mpr h)

-- rec.Scan
def Vc68 (v0 : Value) (w : World) (R : Value → World → Prop) : Prop :=
  ∃ (I : List Value → World → Prop) (μ : List Value → World → Nat), I [(.slice Option.none 0 0), (.int .i64 0)] w ∧
  ∀ (v4 : Value) (v5 : Value) w_1, I [v4, v5] w_1 →
  HSl 1 v0 (some v5) none none fun v12 =>
  HCall Tryz.prog 80 [v12] w_1 fun v13 w_2 =>
  HExt 0 v13 fun v14 =>
  HExt 1 v13 fun v15 =>
  HExt 2 v13 fun v16 =>
  HBin .neq v16 (.int .i64 0) fun v18 =>
  HIf v18
  (R (.tuple #[v4, v5]) w_2)
  (HBldS (zrow [.slice none 0 0] 1) [(0, 1, v14)] 31 1 w_2 fun v23 w_3 =>
  HApp 1 24 [.slice none 0 0] 31 v4 v23 w_3 fun v24 w_4 =>
  HBin .add v5 v15 fun v27 =>
  I [v24, v27] w_4 ∧ μ [v24, v27] w_4 < μ [v4, v5] w_1)
theorem vc68 (v0 : Value) (w : World) (R : Value → World → Prop) (h : Vc68 v0 w R) : HCall Tryz.prog 68 [v0] w R :=
  funP_sound (JL := [(3, [4, 5], [0])]) (JC := []) Tcall_ok mixed_ok Tryz.func68 (by kernel_rfl) (by kernel_rfl)
    (((by kernel_rfl : funP Tryz.prog Tcall [(3, [4, 5], [0])] [] Tryz.f68 [v0] w R = Vc68 v0 w R)).mpr h)

-- rec.Put
def Vc77 (v0 : Value) (w : World) (R : Value → World → Prop) : Prop :=
  HLenS v0 fun v6 =>
  HBin .gtr v6 (.int .i64 1048576) fun v7 =>
  HIf v7
  (R (.tuple #[(.slice Option.none 0 0), (.int .i64 1)]) w)
  (HCall Tryz.prog 85 [v0] w fun v9 w_1 =>
  HNew [.slice none 0 0, .slice none 0 0] 145 w_1 fun v4 w_2 =>
  HStN 2 v4 v9 w_2 fun w_3 =>
  HDraw w_3 fun w_4 =>
  HFld 0 v4 fun v10 =>
  HLdN 1 v10 w_4 fun v11 =>
  HFld 1 v4 fun v13 =>
  HLd v13 w_4 fun v14 =>
  HFld 0 v4 fun v15 =>
  HFld 0 v15 fun v16 =>
  HLd v16 w_4 fun v17 =>
  HCall Tryz.prog 86 [v11] w_4 fun v12 w_5 =>
  HLd v13 w_5 fun v14_1 =>
  v14_1 = v14 ∧
  HLd v16 w_5 fun v17_1 =>
  v17_1 = v17 ∧
  HBldS (zrow [.slice none 0 0] 3) [(0, 1, v12), (1, 1, v14), (2, 1, v17)] 31 3 w_5 fun v18 w_6 =>
  HCall Tryz.prog 79 [v18] w_6 fun v19 w_7 =>
  R (.tuple #[v19, (.int .i64 0)]) w_7)
theorem vc77 (v0 : Value) (w : World) (R : Value → World → Prop) (h : Vc77 v0 w R) : HCall Tryz.prog 77 [v0] w R :=
  funP_sound (JL := []) (JC := []) Tcall_ok mixed_ok Tryz.func77 (by kernel_rfl) (by kernel_rfl)
    (((by kernel_rfl : funP Tryz.prog Tcall [] [] Tryz.f77 [v0] w R = Vc77 v0 w R)).mpr h)

-- rec.Take
def Vc80 (v0 : Value) (w : World) (R : Value → World → Prop) : Prop :=
  HLenS v0 fun v8 =>
  HBin .lss v8 (.int .i64 8) fun v9 =>
  HIf v9
  (R (.tuple #[(.slice Option.none 0 0), (.int .i64 0), (.int .i64 2)]) w)
  (HDraw w fun w_1 =>
  HIdx 1 v0 (.int .i64 0) fun v11 =>
  HLd v11 w_1 fun v12 =>
  HCvI .i64 v12 fun v13 =>
  HBin .shl v13 (.int .u64 24) fun v14 =>
  HIdx 1 v0 (.int .i64 1) fun v16 =>
  HLd v16 w_1 fun v17 =>
  HCvI .i64 v17 fun v18 =>
  HBin .shl v18 (.int .u64 16) fun v19 =>
  HBin .or v14 v19 fun v20 =>
  HIdx 1 v0 (.int .i64 2) fun v22 =>
  HLd v22 w_1 fun v23 =>
  HCvI .i64 v23 fun v24 =>
  HBin .shl v24 (.int .u64 8) fun v25 =>
  HBin .or v20 v25 fun v26 =>
  HIdx 1 v0 (.int .i64 3) fun v28 =>
  HLd v28 w_1 fun v29 =>
  HCvI .i64 v29 fun v30 =>
  HBin .or v26 v30 fun v31 =>
  HBin .gtr v31 (.int .i64 1048576) fun v34 =>
  HIf v34
  (R (.tuple #[(.slice Option.none 0 0), (.int .i64 0), (.int .i64 3)]) w_1)
  (HLenS v0 fun v37 =>
  HBin .add (.int .i64 8) v31 fun v39 =>
  HBin .lss v37 v39 fun v40 =>
  HIf v40
  (R (.tuple #[(.slice Option.none 0 0), (.int .i64 0), (.int .i64 2)]) w_1)
  (HBin .add (.int .i64 8) v31 fun v43 =>
  HSl 1 v0 (some (.int .i64 8)) (some v43) none fun v44 =>
  HCall Tryz.prog 85 [v44] w_1 fun v45 w_2 =>
  HNew [.slice none 0 0, .slice none 0 0] 145 w_2 fun v6 w_3 =>
  HStN 2 v6 v45 w_3 fun w_4 =>
  HDraw w_4 fun w_5 =>
  HFld 1 v6 fun v46 =>
  HLd v46 w_5 fun v47 =>
  HSl 1 v0 (some (.int .i64 4)) (some (.int .i64 8)) none fun v49 =>
  HCall Tryz.prog 89 [v47, v49] w_5 fun v50 w_6 =>
  HNot v50 fun v51 =>
  HIf v51
  (R (.tuple #[(.slice Option.none 0 0), (.int .i64 0), (.int .i64 4)]) w_6)
  (HFld 0 v6 fun v52 =>
  HFld 0 v52 fun v53 =>
  HLd v53 w_6 fun v54 =>
  HCall Tryz.prog 49 [v54] w_6 fun v55 w_7 =>
  HBin .add (.int .i64 8) v31 fun v57 =>
  R (.tuple #[v55, v57, (.int .i64 0)]) w_7))))
theorem vc80 (v0 : Value) (w : World) (R : Value → World → Prop) (h : Vc80 v0 w R) : HCall Tryz.prog 80 [v0] w R :=
  funP_sound (JL := []) (JC := []) Tcall_ok mixed_ok Tryz.func80 (by kernel_rfl) (by kernel_rfl)
    (((by kernel_rfl : funP Tryz.prog Tcall [] [] Tryz.f80 [v0] w R = Vc80 v0 w R)).mpr h)

-- rec.of
def Vc85 (v0 : Value) (w : World) (R : Value → World → Prop) : Prop :=
  HNew [.slice none 0 0, .slice none 0 0] 145 w fun v2 w_1 =>
  HBld [.slice none 0 0] [(0, 1, v0)] fun v5 =>
  HNew [.slice none 0 0] 143 w_1 fun v3 w_2 =>
  HStN 1 v3 v5 w_2 fun w_3 =>
  HDraw w_3 fun w_4 =>
  HLdN 1 v3 w_4 fun v6 =>
  HLdN 1 v3 w_4 fun v7 =>
  HCall Tryz.prog 86 [v7] w_4 fun v8 w_5 =>
  HLdN 1 v3 w_5 fun v6_1 =>
  v6_1 = v6 ∧
  HBldS (zrow [.slice none 0 0] 2) [(0, 1, v8), (1, 1, v0)] 31 2 w_5 fun v10 w_6 =>
  HLdN 1 v3 w_6 fun v6_2 =>
  v6_2 = v6 ∧
  HCall Tryz.prog 104 [v10] w_6 fun v11 w_7 =>
  HLdN 1 v3 w_7 fun v6_3 =>
  v6_3 = v6 ∧
  HCall Tryz.prog 103 [v11] w_7 fun v12 w_8 =>
  HLdN 1 v3 w_8 fun v6_4 =>
  v6_4 = v6 ∧
  HBld [.slice none 0 0, .slice none 0 0] [(0, 1, v6), (1, 1, v12)] fun v13 =>
  HStN 2 v2 v13 w_8 fun w_9 =>
  HLdN 2 v2 w_9 fun r =>
  R r w_9
theorem vc85 (v0 : Value) (w : World) (R : Value → World → Prop) (h : Vc85 v0 w R) : HCall Tryz.prog 85 [v0] w R :=
  funP_sound (JL := []) (JC := []) Tcall_ok mixed_ok Tryz.func85 (by kernel_rfl) (by kernel_rfl)
    (((by kernel_rfl : funP Tryz.prog Tcall [] [] Tryz.f85 [v0] w R = Vc85 v0 w R)).mpr h)

-- rec.holder.size
def Vc86 (v0 : Value) (w : World) (R : Value → World → Prop) : Prop :=
  ∃ cs : List Value, v0 = .agg cs.toArray ∧ HNew cs 143 w fun v1 w_1 =>
  HFld 0 v1 fun v3 =>
  HLd v3 w_1 fun v4 =>
  HLenS v4 fun v5 =>
  HCvI .u32 v5 fun v6 =>
  HCall Tryz.prog 103 [v6] w_1 fun v7 w_2 =>
  R v7 w_2
theorem vc86 (v0 : Value) (w : World) (R : Value → World → Prop) (h : Vc86 v0 w R) : HCall Tryz.prog 86 [v0] w R :=
  funP_sound (JL := []) (JC := []) Tcall_ok mixed_ok Tryz.func86 (by kernel_rfl) (by kernel_rfl)
    (((by kernel_rfl : funP Tryz.prog Tcall [] [] Tryz.f86 [v0] w R = Vc86 v0 w R)).mpr h)

-- rec.four
def Vc103 (v0 : Value) (w : World) (R : Value → World → Prop) : Prop :=
  HBin .shr v0 (.int .u64 24) fun v4 =>
  HCvI .u8 v4 fun v5 =>
  HBin .shr v0 (.int .u64 16) fun v7 =>
  HCvI .u8 v7 fun v8 =>
  HBin .shr v0 (.int .u64 8) fun v10 =>
  HCvI .u8 v10 fun v11 =>
  HCvI .u8 v0 fun v13 =>
  HBldS (zrow [.int .u8 0] 4) [(0, 1, v5), (1, 1, v8), (2, 1, v11), (3, 1, v13)] 5 4 w fun v14 w_1 =>
  R v14 w_1
theorem vc103 (v0 : Value) (w : World) (R : Value → World → Prop) (h : Vc103 v0 w R) : HCall Tryz.prog 103 [v0] w R :=
  funP_sound (JL := []) (JC := []) Tcall_ok mixed_ok Tryz.func103 (by kernel_rfl) (by kernel_rfl)
    (((by kernel_rfl : funP Tryz.prog Tcall [] [] Tryz.f103 [v0] w R = Vc103 v0 w R)).mpr h)

-- crc.Sum
def Vc104 (v0 : Value) (w : World) (R : Value → World → Prop) : Prop :=
  HLenS v0 fun v7 =>
  ∃ (I : List Value → World → Prop) (μ : List Value → World → Nat), I [(.int .u32 0), (.int .i64 0)] w ∧
  ∀ (v3 : Value) (v8 : Value) w_1, I [v3, v8] w_1 →
  HBin .lss v8 v7 fun v9 =>
  HIf v9
  (HIdx 1 v0 v8 fun v10 =>
  HLd v10 w_1 fun v11 =>
  HCall Tryz.prog 115 [v3, v11] w_1 fun v14 w_2 =>
  HBin .add v8 (.int .i64 1) fun v15 =>
  I [v14, v15] w_2 ∧ μ [v14, v15] w_2 < μ [v3, v8] w_1)
  (R v3 w_1)
theorem vc104 (v0 : Value) (w : World) (R : Value → World → Prop) (h : Vc104 v0 w R) : HCall Tryz.prog 104 [v0] w R :=
  funP_sound (JL := [(3, [3, 8], [6, 7])]) (JC := []) Tcall_ok mixed_ok Tryz.func104 (by kernel_rfl) (by kernel_rfl)
    (((by kernel_rfl : funP Tryz.prog Tcall [(3, [3, 8], [6, 7])] [] Tryz.f104 [v0] w R = Vc104 v0 w R)).mpr h)

-- crc.More
def Vc115 (v0 : Value) (v1 : Value) (w : World) (R : Value → World → Prop) : Prop :=
  HCpl v0 fun v9 =>
  HLenS v1 fun v11 =>
  ∃ (I : List Value → World → Prop) (μ : List Value → World → Nat), I [v9, (.int .i64 0)] w ∧
  ∀ (v5 : Value) (v12 : Value) w_1, I [v5, v12] w_1 →
  HBin .lss v12 v11 fun v13 =>
  HIf v13
  (HIdx 1 v1 v12 fun v14 =>
  HLd v14 w_1 fun v15 =>
  HCall Tryz.prog 117 [v5, v15] w_1 fun v18 w_2 =>
  HBin .add v12 (.int .i64 1) fun v19 =>
  I [v18, v19] w_2 ∧ μ [v18, v19] w_2 < μ [v5, v12] w_1)
  (HCpl v5 fun v21 =>
  R v21 w_1)
theorem vc115 (v0 : Value) (v1 : Value) (w : World) (R : Value → World → Prop) (h : Vc115 v0 v1 w R) : HCall Tryz.prog 115 [v0, v1] w R :=
  funP_sound (JL := [(3, [5, 12], [10, 11])]) (JC := []) Tcall_ok mixed_ok Tryz.func115 (by kernel_rfl) (by kernel_rfl)
    (((by kernel_rfl : funP Tryz.prog Tcall [(3, [5, 12], [10, 11])] [] Tryz.f115 [v0, v1] w R = Vc115 v0 v1 w R)).mpr h)

-- crc.step
def Vc117 (v0 : Value) (v1 : Value) (w : World) (R : Value → World → Prop) : Prop :=
  HCvI .u32 v1 fun v8 =>
  HBin .xor v0 v8 fun v9 =>
  ∃ (I : List Value → World → Prop) (μ : List Value → World → Nat), I [v9, (.int .i64 0)] w ∧
  ∀ (v0_1 : Value) (v10 : Value) w_1, I [v0_1, v10] w_1 →
  HBin .lss v10 (.int .i64 8) fun v11 =>
  HIf v11
  (HBin .and v0_1 (.int .u32 1) fun v13 =>
  HBin .eql v13 (.int .u32 1) fun v14 =>
  HBin .shr v0_1 (.int .u64 1) fun v16 =>
  HIf v14
  (HBin .xor v16 (.int .u32 3988292384) fun v19 =>
  HBin .add v10 (.int .i64 1) fun v20 =>
  I [v19, v20] w_1 ∧ μ [v19, v20] w_1 < μ [v0_1, v10] w_1)
  (HBin .add v10 (.int .i64 1) fun v20_1 =>
  I [v16, v20_1] w_1 ∧ μ [v16, v20_1] w_1 < μ [v0_1, v10] w_1))
  (R v0_1 w_1)
theorem vc117 (v0 : Value) (v1 : Value) (w : World) (R : Value → World → Prop) (h : Vc117 v0 v1 w R) : HCall Tryz.prog 117 [v0, v1] w R :=
  funP_sound (JL := [(3, [0, 10], [])]) (JC := []) Tcall_ok mixed_ok Tryz.func117 (by kernel_rfl) (by kernel_rfl)
    (((by kernel_rfl : funP Tryz.prog Tcall [(3, [0, 10], [])] [] Tryz.f117 [v0, v1] w R = Vc117 v0 v1 w R)).mpr h)

-- field.Decode
def Vc81 (v0 : Value) (w : World) (R : Value → World → Prop) : Prop :=
  HBld [.slice none 0 0, .int .i64 0] [(0, 1, v0)] fun v8 =>
  ∃ cs : List Value, v8 = .agg cs.toArray ∧ HNew cs 152 w fun v9 w_1 =>
  ∃ I : List Value → World → Prop, (HCall Tryz.prog 90 [v9, (.int .i64 32767)] w_1 fun v11 w_2 =>
  ∃ (I_1 : List Value → World → Prop) (μ : List Value → World → Nat), I_1 [(.slice Option.none 0 0), v11] w_2 ∧
  ∀ (v5 : Value) (v6 : Value) w_3, I_1 [v5, v6] w_3 →
  HBin .gtr v6 (.int .i64 0) fun v13 =>
  HIf v13
  (HNil v9 fun v16 =>
  HFld 1 v16 fun v17 =>
  HLd v17 w_3 fun v18 =>
  HBin .eql v18 (.int .i64 0) fun v19 =>
  HIf v19
  (HCall Tryz.prog 91 [v9] w_3 fun v25 w_4 =>
  HBldS (zrow [.int .i64 0, .int .i64 0, .string ⟨#[]⟩] 1) [(0, 3, v25)] 105 1 w_4 fun v26 w_5 =>
  HApp 3 32 [.int .i64 0, .int .i64 0, .string ⟨#[]⟩] 105 v5 v26 w_5 fun v27 w_6 =>
  HBin .sub v6 (.int .i64 1) fun v22 =>
  I_1 [v27, v22] w_6 ∧ μ [v27, v22] w_6 < μ [v5, v6] w_3)
  (I [v5] w_3))
  (I [v5] w_3)) ∧
  ∀ (v5_1 : Value) w_7, I [v5_1] w_7 →
  ∃ I_2 : List Value → World → Prop, (HNil v9 fun v29 =>
  HFld 1 v29 fun v30 =>
  HLd v30 w_7 fun v31 =>
  HBin .eql v31 (.int .i64 0) fun v32 =>
  HIf v32
  (HNil v9 fun v35 =>
  HFld 0 v35 fun v36 =>
  HLd v36 w_7 fun v37 =>
  HLenS v37 fun v38 =>
  HBin .gtr v38 (.int .i64 0) fun v39 =>
  HIf v39
  (HNil v9 fun v42 =>
  HFld 1 v42 fun v43 =>
  HSt v43 (.int .i64 3) w_7 fun w_8 =>
  I_2 [] w_8)
  (I_2 [] w_7))
  (I_2 [] w_7)) ∧
  ∀ w_9, I_2 [] w_9 →
  HNil v9 fun v45 =>
  HFld 1 v45 fun v46 =>
  HLd v46 w_9 fun v47 =>
  HBin .neq v47 (.int .i64 0) fun v48 =>
  HIf v48
  (HDraw w_9 fun w_10 =>
  HNil v9 fun v50 =>
  HFld 1 v50 fun v51 =>
  HLd v51 w_10 fun v52 =>
  HLd v51 w_10 fun v52_1 =>
  v52_1 = v52 ∧
  R (.tuple #[(.slice Option.none 0 0), v52]) w_10)
  (R (.tuple #[v5_1, (.int .i64 0)]) w_9)
theorem vc81 (v0 : Value) (w : World) (R : Value → World → Prop) (h : Vc81 v0 w R) : HCall Tryz.prog 81 [v0] w R :=
  funP_sound (JL := [(4, [5, 6], [4])]) (JC := [(7, [5], [4]), (9, [], [4, 5])]) Tcall_ok mixed_ok Tryz.func81 (by kernel_rfl) (by kernel_rfl)
    (((by kernel_rfl : funP Tryz.prog Tcall [(4, [5, 6], [4])] [(7, [5], [4]), (9, [], [4, 5])] Tryz.f81 [v0] w R = Vc81 v0 w R)).mpr h)

-- field.Encode
def Vc87 (v0 : Value) (w : World) (R : Value → World → Prop) : Prop :=
  HLenS v0 fun v8 =>
  HBin .gtr v8 (.int .i64 32767) fun v9 =>
  HIf v9
  (R (.tuple #[(.slice Option.none 0 0), (.int .i64 1)]) w)
  (HLenS v0 fun v11 =>
  HCvI .u64 v11 fun v12 =>
  HCall Tryz.prog 105 [(.slice Option.none 0 0), v12, (.int .i64 2)] w fun v13 w_1 =>
  HLenS v0 fun v15 =>
  ∃ (I : List Value → World → Prop) (μ : List Value → World → Nat), I [v13, (.int .i64 0)] w_1 ∧
  ∀ (v4 : Value) (v16 : Value) w_2, I [v4, v16] w_2 →
  HBin .lss v16 v15 fun v17 =>
  HIf v17
  (HIdx 3 v0 v16 fun v18 =>
  HLdN 3 v18 w_2 fun v19 =>
  HNew [.int .i64 0, .int .i64 0, .string ⟨#[]⟩] 105 w_2 fun v6 w_3 =>
  HStN 3 v6 v19 w_3 fun w_4 =>
  HLdN 3 v6 w_4 fun v20 =>
  HCall Tryz.prog 106 [v20] w_4 fun v21 w_5 =>
  HNot v21 fun v22 =>
  HIf v22
  (R (.tuple #[(.slice Option.none 0 0), (.int .i64 1)]) w_5)
  (HFld 0 v6 fun v24 =>
  HLd v24 w_5 fun v25 =>
  HCvI .u8 v25 fun v26 =>
  HBldS (zrow [.int .u8 0] 1) [(0, 1, v26)] 5 1 w_5 fun v27 w_6 =>
  HApp 1 1 [.int .u8 0] 5 v4 v27 w_6 fun v28 w_7 =>
  HFld 0 v6 fun v29 =>
  HLd v29 w_7 fun v30 =>
  HBin .eql v30 (.int .i64 1) fun v31 =>
  HIf v31
  (HFld 1 v6 fun v33 =>
  HLd v33 w_7 fun v34 =>
  HCvI .u64 v34 fun v35 =>
  HCall Tryz.prog 105 [v28, v35, (.int .i64 8)] w_7 fun v36 w_8 =>
  HBin .add v16 (.int .i64 1) fun v46 =>
  I [v36, v46] w_8 ∧ μ [v36, v46] w_8 < μ [v4, v16] w_2)
  (HDraw w_7 fun w_9 =>
  HFld 2 v6 fun v38 =>
  HLd v38 w_9 fun v39 =>
  HLenT v39 fun v40 =>
  HCvI .u64 v40 fun v41 =>
  HFld 2 v6 fun v43 =>
  HLd v43 w_9 fun v44 =>
  HCall Tryz.prog 105 [v28, v41, (.int .i64 2)] w_9 fun v42 w_10 =>
  HLd v43 w_10 fun v44_1 =>
  v44_1 = v44 ∧
  HApp 1 1 [.int .u8 0] 5 v42 v44 w_10 fun v45 w_11 =>
  HBin .add v16 (.int .i64 1) fun v46_1 =>
  I [v45, v46_1] w_11 ∧ μ [v45, v46_1] w_11 < μ [v4, v16] w_2)))
  (R (.tuple #[v4, (.int .i64 0)]) w_2))
theorem vc87 (v0 : Value) (w : World) (R : Value → World → Prop) (h : Vc87 v0 w R) : HCall Tryz.prog 87 [v0] w R :=
  funP_sound (JL := [(5, [4, 16], [14, 15])]) (JC := []) Tcall_ok mixed_ok Tryz.func87 (by kernel_rfl) (by kernel_rfl)
    (((by kernel_rfl : funP Tryz.prog Tcall [(5, [4, 16], [14, 15])] [] Tryz.f87 [v0] w R = Vc87 v0 w R)).mpr h)

-- field.reader.most
def Vc90 (v0 : Value) (v1 : Value) (w : World) (R : Value → World → Prop) : Prop :=
  HCall Tryz.prog 107 [v0, (.int .i64 2)] w fun v7 w_1 =>
  HCvI .i64 v7 fun v8 =>
  HBin .gtr v8 v1 fun v11 =>
  HIf v11
  (HNil v0 fun v13 =>
  HFld 1 v13 fun v14 =>
  HSt v14 (.int .i64 3) w_1 fun w_2 =>
  R (.int .i64 0) w_2)
  (R v8 w_1)
theorem vc90 (v0 : Value) (v1 : Value) (w : World) (R : Value → World → Prop) (h : Vc90 v0 v1 w R) : HCall Tryz.prog 90 [v0, v1] w R :=
  funP_sound (JL := []) (JC := []) Tcall_ok mixed_ok Tryz.func90 (by kernel_rfl) (by kernel_rfl)
    (((by kernel_rfl : funP Tryz.prog Tcall [] [] Tryz.f90 [v0, v1] w R = Vc90 v0 v1 w R)).mpr h)

-- field.reader.field
def Vc91 (v0 : Value) (w : World) (R : Value → World → Prop) : Prop :=
  HNew [.int .i64 0, .int .i64 0, .string ⟨#[]⟩] 105 w fun v2 w_1 =>
  HCall Tryz.prog 107 [v0, (.int .i64 1)] w_1 fun v5 w_2 =>
  HCvI .i64 v5 fun v6 =>
  HBin .eql v6 (.int .i64 1) fun v9 =>
  HIf v9
  (HCall Tryz.prog 107 [v0, (.int .i64 8)] w_2 fun v12 w_3 =>
  HCvI .i64 v12 fun v13 =>
  HBld [.int .i64 0, .int .i64 0, .string ⟨#[]⟩] [(0, 1, v6), (1, 1, v13)] fun v14 =>
  HStN 3 v2 v14 w_3 fun w_4 =>
  HLdN 3 v2 w_4 fun r =>
  R r w_4)
  (HBin .eql v6 (.int .i64 2) fun v16 =>
  HIf v16
  (HCall Tryz.prog 90 [v0, (.int .i64 4096)] w_2 fun v20 w_5 =>
  HCall Tryz.prog 108 [v0, v20] w_5 fun v21 w_6 =>
  HRq Tryz.prog (convert 31 9 v21) w_6 fun v22 =>
  HBld [.int .i64 0, .int .i64 0, .string ⟨#[]⟩] [(0, 1, v6), (2, 1, v22)] fun v23 =>
  HStN 3 v2 v23 w_6 fun w_7 =>
  HLdN 3 v2 w_7 fun r_1 =>
  R r_1 w_7)
  (HNil v0 fun v25 =>
  HFld 1 v25 fun v26 =>
  HLd v26 w_2 fun v27 =>
  HBin .eql v27 (.int .i64 0) fun v28 =>
  HIf v28
  (HNil v0 fun v30 =>
  HFld 1 v30 fun v31 =>
  HSt v31 (.int .i64 3) w_2 fun w_8 =>
  HBld [.int .i64 0, .int .i64 0, .string ⟨#[]⟩] [] fun v32 =>
  HStN 3 v2 v32 w_8 fun w_9 =>
  HLdN 3 v2 w_9 fun r_2 =>
  R r_2 w_9)
  (HBld [.int .i64 0, .int .i64 0, .string ⟨#[]⟩] [] fun v32_1 =>
  HStN 3 v2 v32_1 w_2 fun w_10 =>
  HLdN 3 v2 w_10 fun r_3 =>
  R r_3 w_10)))
theorem vc91 (v0 : Value) (w : World) (R : Value → World → Prop) (h : Vc91 v0 w R) : HCall Tryz.prog 91 [v0] w R :=
  funP_sound (JL := []) (JC := []) Tcall_ok mixed_ok Tryz.func91 (by kernel_rfl) (by kernel_rfl)
    (((by kernel_rfl : funP Tryz.prog Tcall [] [] Tryz.f91 [v0] w R = Vc91 v0 w R)).mpr h)

-- field.number
def Vc105 (v0 : Value) (v1 : Value) (v2 : Value) (w : World) (R : Value → World → Prop) : Prop :=
  HBin .sub v2 (.int .i64 1) fun v9 =>
  ∃ (I : List Value → World → Prop) (μ : List Value → World → Nat), I [v0, v9] w ∧
  ∀ (v0_1 : Value) (v7 : Value) w_1, I [v0_1, v7] w_1 →
  HBin .geq v7 (.int .i64 0) fun v11 =>
  HIf v11
  (HBin .mul (.int .i64 8) v7 fun v17 =>
  HBin .shr v1 v17 fun v18 =>
  HCvI .u8 v18 fun v19 =>
  HBldS (zrow [.int .u8 0] 1) [(0, 1, v19)] 5 1 w_1 fun v20 w_2 =>
  HApp 1 1 [.int .u8 0] 5 v0_1 v20 w_2 fun v21 w_3 =>
  HBin .sub v7 (.int .i64 1) fun v13 =>
  I [v21, v13] w_3 ∧ μ [v21, v13] w_3 < μ [v0_1, v7] w_1)
  (R v0_1 w_1)
theorem vc105 (v0 : Value) (v1 : Value) (v2 : Value) (w : World) (R : Value → World → Prop) (h : Vc105 v0 v1 v2 w R) : HCall Tryz.prog 105 [v0, v1, v2] w R :=
  funP_sound (JL := [(2, [0, 7], [1])]) (JC := []) Tcall_ok mixed_ok Tryz.func105 (by kernel_rfl) (by kernel_rfl)
    (((by kernel_rfl : funP Tryz.prog Tcall [(2, [0, 7], [1])] [] Tryz.f105 [v0, v1, v2] w R = Vc105 v0 v1 v2 w R)).mpr h)

-- field.right
def Vc106 (v0 : Value) (w : World) (R : Value → World → Prop) : Prop :=
  ∃ cs : List Value, v0 = .agg cs.toArray ∧ HNew cs 105 w fun v1 w_1 =>
  HFld 0 v1 fun v3 =>
  HLd v3 w_1 fun v4 =>
  HBin .eql v4 (.int .i64 1) fun v6 =>
  HIf v6
  (HFld 2 v1 fun v7 =>
  HLd v7 w_1 fun v8 =>
  HBin .eql v8 (.string { data := #[] }) fun v9 =>
  R v9 w_1)
  (HBin .eql v4 (.int .i64 2) fun v11 =>
  HIf v11
  (HFld 1 v1 fun v12 =>
  HLd v12 w_1 fun v13 =>
  HBin .eql v13 (.int .i64 0) fun v14 =>
  HIf v14
  (HFld 2 v1 fun v16 =>
  HLd v16 w_1 fun v17 =>
  HLenT v17 fun v18 =>
  HBin .leq v18 (.int .i64 4096) fun v19 =>
  R v19 w_1)
  (R (.bool false) w_1))
  (R (.bool false) w_1))
theorem vc106 (v0 : Value) (w : World) (R : Value → World → Prop) (h : Vc106 v0 w R) : HCall Tryz.prog 106 [v0] w R :=
  funP_sound (JL := []) (JC := []) Tcall_ok mixed_ok Tryz.func106 (by kernel_rfl) (by kernel_rfl)
    (((by kernel_rfl : funP Tryz.prog Tcall [] [] Tryz.f106 [v0] w R = Vc106 v0 w R)).mpr h)

-- field.reader.number
def Vc107 (v0 : Value) (v1 : Value) (w : World) (R : Value → World → Prop) : Prop :=
  HCall Tryz.prog 108 [v0, v1] w fun v10 w_1 =>
  HLenS v10 fun v11 =>
  ∃ (I : List Value → World → Prop) (μ : List Value → World → Nat), I [(.int .u64 0), (.int .i64 0)] w_1 ∧
  ∀ (v5 : Value) (v12 : Value) w_2, I [v5, v12] w_2 →
  HBin .lss v12 v11 fun v13 =>
  HIf v13
  (HIdx 1 v10 v12 fun v14 =>
  HLd v14 w_2 fun v15 =>
  HBin .shl v5 (.int .u64 8) fun v17 =>
  HCvI .u64 v15 fun v19 =>
  HBin .or v17 v19 fun v20 =>
  HBin .add v12 (.int .i64 1) fun v21 =>
  I [v20, v21] w_2 ∧ μ [v20, v21] w_2 < μ [v5, v12] w_2)
  (R v5 w_2)
theorem vc107 (v0 : Value) (v1 : Value) (w : World) (R : Value → World → Prop) (h : Vc107 v0 v1 w R) : HCall Tryz.prog 107 [v0, v1] w R :=
  funP_sound (JL := [(3, [5, 12], [10, 11])]) (JC := []) Tcall_ok mixed_ok Tryz.func107 (by kernel_rfl) (by kernel_rfl)
    (((by kernel_rfl : funP Tryz.prog Tcall [(3, [5, 12], [10, 11])] [] Tryz.f107 [v0, v1] w R = Vc107 v0 v1 w R)).mpr h)

-- field.reader.next
def Vc108 (v0 : Value) (v1 : Value) (w : World) (R : Value → World → Prop) : Prop :=
  ∃ I : List Value → World → Prop, (HNil v0 fun v7 =>
  HFld 1 v7 fun v8 =>
  HLd v8 w fun v9 =>
  HBin .eql v9 (.int .i64 0) fun v10 =>
  HIf v10
  (HNil v0 fun v13 =>
  HFld 0 v13 fun v14 =>
  HLd v14 w fun v15 =>
  HLenS v15 fun v16 =>
  HBin .lss v16 v1 fun v18 =>
  HIf v18
  (HNil v0 fun v21 =>
  HFld 1 v21 fun v22 =>
  HSt v22 (.int .i64 2) w fun w_1 =>
  I [] w_1)
  (I [] w))
  (I [] w)) ∧
  ∀ w_2, I [] w_2 →
  HNil v0 fun v24 =>
  HFld 1 v24 fun v25 =>
  HLd v25 w_2 fun v26 =>
  HBin .neq v26 (.int .i64 0) fun v27 =>
  HIf v27
  (R (.slice Option.none 0 0) w_2)
  (HNil v0 fun v29 =>
  HFld 0 v29 fun v30 =>
  HLd v30 w_2 fun v31 =>
  HSl 1 v31 none (some v1) none fun v33 =>
  HNil v0 fun v36 =>
  HFld 0 v36 fun v37 =>
  HLd v37 w_2 fun v38 =>
  HSl 1 v38 (some v1) none none fun v40 =>
  HNil v0 fun v41 =>
  HFld 0 v41 fun v42 =>
  HSt v42 v40 w_2 fun w_3 =>
  R v33 w_3)
theorem vc108 (v0 : Value) (v1 : Value) (w : World) (R : Value → World → Prop) (h : Vc108 v0 v1 w R) : HCall Tryz.prog 108 [v0, v1] w R :=
  funP_sound (JL := []) (JC := [(3, [], [0, 1])]) Tcall_ok mixed_ok Tryz.func108 (by kernel_rfl) (by kernel_rfl)
    (((by kernel_rfl : funP Tryz.prog Tcall [] [(3, [], [0, 1])] Tryz.f108 [v0, v1] w R = Vc108 v0 v1 w R)).mpr h)

-- slices.Concat[[]byte,byte]
def Vc79 (v0 : Value) (w : World) (R : Value → World → Prop) : Prop :=
  HLenS v0 fun v10 =>
  ∃ (I : List Value → World → Prop) (μ : List Value → World → Nat), I [(.int .i64 0), (.int .i64 0)] w ∧
  ∀ (v3 : Value) (v11 : Value) w_1, I [v3, v11] w_1 →
  HBin .lss v11 v10 fun v12 =>
  HIf v12
  (HIdx 1 v0 v11 fun v13 =>
  HLd v13 w_1 fun v14 =>
  HLenS v14 fun v17 =>
  HBin .add v3 v17 fun v18 =>
  HBin .lss v18 (.int .i64 0) fun v20 =>
  HIf v20
  (False)
  (HBin .add v11 (.int .i64 1) fun v22 =>
  I [v18, v22] w_1 ∧ μ [v18, v22] w_1 < μ [v3, v11] w_1))
  (HCall Tryz.prog 88 [(.slice Option.none 0 0), v3] w_1 fun v24 w_2 =>
  HLenS v0 fun v26 =>
  ∃ (I_1 : List Value → World → Prop) (μ_1 : List Value → World → Nat), I_1 [v24, (.int .i64 0)] w_2 ∧
  ∀ (v6 : Value) (v27 : Value) w_3, I_1 [v6, v27] w_3 →
  HBin .lss v27 v26 fun v28 =>
  HIf v28
  (HIdx 1 v0 v27 fun v29 =>
  HLd v29 w_3 fun v30 =>
  HApp 1 1 [.int .u8 0] 5 v6 v30 w_3 fun v33 w_4 =>
  HBin .add v27 (.int .i64 1) fun v34 =>
  I_1 [v33, v34] w_4 ∧ μ_1 [v33, v34] w_4 < μ_1 [v6, v27] w_3)
  (R v6 w_3))
theorem vc79 (v0 : Value) (w : World) (R : Value → World → Prop) (h : Vc79 v0 w R) : HCall Tryz.prog 79 [v0] w R :=
  funP_sound (JL := [(3, [3, 11], [0, 9, 10]), (11, [6, 27], [25, 26])]) (JC := []) Tcall_ok mixed_ok Tryz.func79 (by kernel_rfl) (by kernel_rfl)
    (((by kernel_rfl : funP Tryz.prog Tcall [(3, [3, 11], [0, 9, 10]), (11, [6, 27], [25, 26])] [] Tryz.f79 [v0] w R = Vc79 v0 w R)).mpr h)

-- slices.Grow[[]byte,byte]
def Vc88 (v0 : Value) (v1 : Value) (w : World) (R : Value → World → Prop) : Prop :=
  HBin .lss v1 (.int .i64 0) fun v6 =>
  HIf v6
  (False)
  (HRq Tryz.prog (Builtin.cap_ #[31] 3 [v0].toArray) w fun v10 =>
  HLenS v0 fun v12 =>
  HBin .sub v10 v12 fun v13 =>
  HBin .sub v1 v13 fun v14 =>
  HBin .gtr v14 (.int .i64 0) fun v16 =>
  HIf v16
  (HRq Tryz.prog (Builtin.cap_ #[31] 3 [v0].toArray) w fun v19 =>
  HSl 1 v0 none (some v19) none fun v20 =>
  HRun Tryz.prog (Builtin.append_ #[31, 3] 31 #[v20, v14]) w fun v22 w_1 =>
  HLenS v0 fun v24 =>
  HSl 1 v22 none (some v24) none fun v25 =>
  R v25 w_1)
  (R v0 w))
theorem vc88 (v0 : Value) (v1 : Value) (w : World) (R : Value → World → Prop) (h : Vc88 v0 v1 w R) : HCall Tryz.prog 88 [v0, v1] w R :=
  funP_sound (JL := []) (JC := []) Tcall_ok mixed_ok Tryz.func88 (by kernel_rfl) (by kernel_rfl)
    (((by kernel_rfl : funP Tryz.prog Tcall [] [] Tryz.f88 [v0, v1] w R = Vc88 v0 v1 w R)).mpr h)

-- slices.Equal[[]byte,byte]
def Vc89 (v0 : Value) (v1 : Value) (w : World) (R : Value → World → Prop) : Prop :=
  HLenS v0 fun v7 =>
  HLenS v1 fun v9 =>
  HBin .neq v7 v9 fun v10 =>
  HIf v10
  (R (.bool false) w)
  (HLenS v0 fun v12 =>
  ∃ (I : List Value → World → Prop) (μ : List Value → World → Nat), I [(.int .i64 0)] w ∧
  ∀ (v13 : Value) w_1, I [v13] w_1 →
  HBin .lss v13 v12 fun v14 =>
  HIf v14
  (HDraw w_1 fun w_2 =>
  HIdx 1 v0 v13 fun v18 =>
  HLd v18 w_2 fun v19 =>
  HIdx 1 v1 v13 fun v22 =>
  HLd v22 w_2 fun v23 =>
  HBin .neq v19 v23 fun v24 =>
  HIf v24
  (R (.bool false) w_2)
  (HBin .add v13 (.int .i64 1) fun v25 =>
  I [v25] w_2 ∧ μ [v25] w_2 < μ [v13] w_1))
  (R (.bool true) w_1))
theorem vc89 (v0 : Value) (v1 : Value) (w : World) (R : Value → World → Prop) (h : Vc89 v0 v1 w R) : HCall Tryz.prog 89 [v0, v1] w R :=
  funP_sound (JL := [(4, [13], [0, 1, 12])]) (JC := []) Tcall_ok mixed_ok Tryz.func89 (by kernel_rfl) (by kernel_rfl)
    (((by kernel_rfl : funP Tryz.prog Tcall [(4, [13], [0, 1, 12])] [] Tryz.f89 [v0, v1] w R = Vc89 v0 v1 w R)).mpr h)

end Go.Proofs.YtmcglicbolhmfaaGreat
