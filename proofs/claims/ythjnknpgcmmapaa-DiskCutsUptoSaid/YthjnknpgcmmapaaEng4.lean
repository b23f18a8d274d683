/-
  My own engine, part 4: what an operation asks is sound (the rest of the operations, and all of them together).
-/
import Derived.Test.YthjnknpgcmmapaaEng3
namespace Go.Proofs.Ythjnknpgcmmapaa
set_option linter.unusedVariables false
open Go.RowKit

section
variable {P : Program} {w : World} {K : Value → World → Prop}

theorem eqVal_runIn {d : TypeDesc} {t : TypeId} (ht : P.underlying t = some d) {a b : Value} {r : Bool} (n : Nat) (h : eqVal d a b = some r) : (Op.equalIn (n + 1) t a b).run P w = .ok r w := by
  unfold eqVal at h
  split at h <;> first | (cases h; done) | skip
  all_goals (cases h; simp only [Op.equalIn, Sem.run_bind, run_underlying ht, Result.andThen_ok, Sem.run_pure])
  all_goals first | rfl | (rename_i a _ _ _ _; cases a <;> rfl) | (rename_i a; cases a <;> rfl) | (rename_i a _; cases a <;> rfl) | skip
theorem eqVal_run {d : TypeDesc} {t : TypeId} (ht : P.underlying t = some d) {a b : Value} {r : Bool} (h : eqVal d a b = some r) : (Op.equal t a b).run P w = .ok r w := eqVal_runIn ht 9999 h

theorem eqVal_form {d : TypeDesc} {a b : Value} {r : Bool} (h : eqVal d a b = some r) : (∀ u, a ≠ .agg u) ∧ a ≠ .nilIface := by
  unfold eqVal at h
  split at h <;> first | (cases h; done) | exact ⟨(fun u hu => (by cases hu)), (fun hu => (by cases hu))⟩

theorem eqVal_bin {d : TypeDesc} {t : TypeId} (ht : P.underlying t = some d) {a b : Value} {r : Bool} (h : eqVal d a b = some r) :
    (binOp .eql t a b).run P w = .ok (.bool r) w ∧ (binOp .neq t a b).run P w = .ok (.bool !r) w := by
  have hr := eqVal_run (w := w) ht h
  unfold eqVal at h
  split at h <;> first | (cases h; done) | skip
  all_goals exact ⟨by simp only [binOp, Sem.run_bind, hr, Result.andThen_ok, Sem.run_pure], by simp only [binOp, Sem.run_bind, hr, Result.andThen_ok, Sem.run_pure]⟩

theorem eq_does {d : TypeDesc} {t : TypeId} {x y : Operand} {a b : Value} (ht : P.underlying t = some d) (h : HEq d false a b fun v => K v w) :
    Does P (do pure (.value (← (do eqGuard .eql t x y a b; binOp .eql t a b)))) w K := by
  obtain ⟨r, hv, hk⟩ := h
  obtain ⟨h1, h2⟩ := eqVal_form hv
  refine .value (v := .bool r) ?_ hk
  simp only [Sem.run_bind, eqGuard_int .eql t x y a b h1 h2, Result.andThen_ok, (eqVal_bin ht hv).1]
theorem neq_does {d : TypeDesc} {t : TypeId} {x y : Operand} {a b : Value} (ht : P.underlying t = some d) (h : HEq d true a b fun v => K v w) :
    Does P (do pure (.value (← (do eqGuard .neq t x y a b; binOp .neq t a b)))) w K := by
  obtain ⟨r, hv, hk⟩ := h
  obtain ⟨h1, h2⟩ := eqVal_form hv
  refine .value (v := .bool !r) ?_ hk
  simp only [Sem.run_bind, eqGuard_int .neq t x y a b h1 h2, Result.andThen_ok, (eqVal_bin ht hv).2]

theorem eqG_does {t : TypeId} {x y : Operand} {a b : Value} (hm : P.eqGuardType P.depth t = false) (h : HEqG P t false a b w fun v => K v w) :
    Does P (do pure (.value (← (do eqGuard .eql t x y a b; binOp .eql t a b)))) w K := by
  obtain ⟨xs, ys, r, rfl, rfl, hv, hk⟩ := h
  refine .value (v := .bool r) ?_ hk
  simp only [Sem.run_bind, run_eqGuard_agg w .eql t x y xs ys hm, Result.andThen_ok, binOp, hv, Sem.run_pure]
theorem neqG_does {t : TypeId} {x y : Operand} {a b : Value} (hm : P.eqGuardType P.depth t = false) (h : HEqG P t true a b w fun v => K v w) :
    Does P (do pure (.value (← (do eqGuard .neq t x y a b; binOp .neq t a b)))) w K := by
  obtain ⟨xs, ys, r, rfl, rfl, hv, hk⟩ := h
  refine .value (v := .bool !r) ?_ hk
  simp only [Sem.run_bind, run_eqGuard_agg w .neq t x y xs ys hm, Result.andThen_ok, binOp, hv, Sem.run_pure]

theorem not_does {x : Value} (h : HNot x fun v => K v w) : Does P (do pure (.value (← Op.unary .not x))) w K := by
  obtain ⟨b, rfl, hk⟩ := h
  exact .value rfl hk
theorem neg_does {x : Value} (h : HNeg x fun v => K v w) : Does P (do pure (.value (← Op.unary .neg x))) w K := by
  obtain ⟨k, n, rfl, hk⟩ := h
  exact .value rfl hk
theorem cvI_does {s d : TypeId} {x : Value} {k : IntKind} {e : TypeDesc} (hs : P.underlying s = some e) (hd : P.underlying d = some (.int k)) (h : HCvI k x fun v => K v w) :
    Does P (do pure (.value (← convert s d x))) w K := by
  obtain ⟨j, n, rfl, hk⟩ := h
  exact .value (by simp [convert, run_underlying hs, run_underlying hd, Conv.intToInt]) hk
theorem cvS_does {s d : TypeId} {x : Value} (hs : P.underlying s = some .string) (hd : P.underlying d = some .string) (h : HCvS x fun v => K v w) :
    Does P (do pure (.value (← convert s d x))) w K := by
  obtain ⟨n, rfl, hk⟩ := h
  exact .value (by simp [convert, run_underlying hs, run_underlying hd]) hk
theorem ext_does {x : Value} {i : Nat} (h : HExt i x fun v => K v w) : Does P (do pure (.value (← Instr.extract x i))) w K := by
  obtain ⟨vs, v, rfl, hv, hk⟩ := h
  exact .value (by simp [Instr.extract, hv]) hk
theorem lenS_does {t e ty : TypeId} {x : Value} (ht : P.underlying t = some (.slice e)) (h : HLenS x fun v => K v w) : Does P (do pure (.value (← Builtin.len_ #[t] ty #[x]))) w K := by
  obtain ⟨a, n, c, rfl, hk⟩ := h
  exact .value (by simp [Builtin.len_, run_underlying ht]; rfl) hk
theorem lenT_does {t ty : TypeId} {x : Value} (ht : P.underlying t = some .string) (h : HLenT x fun v => K v w) : Does P (do pure (.value (← Builtin.len_ #[t] ty #[x]))) w K := by
  obtain ⟨s, rfl, hk⟩ := h
  exact .value (by simp [Builtin.len_, run_underlying ht]; rfl) hk
theorem min_does {ts : Array TypeId} {ty : TypeId} {x y : Value} (h : HMin x y fun v => K v w) : Does P (do pure (.value (← Builtin.min_ ts ty #[x, y]))) w K := by
  obtain ⟨k, a, b, rfl, rfl, hk⟩ := h
  exact .value (run_min_int2 w ts ty k k a b) hk
theorem max_does {ts : Array TypeId} {ty : TypeId} {x y : Value} (h : HMax x y fun v => K v w) : Does P (do pure (.value (← Builtin.max_ ts ty #[x, y]))) w K := by
  obtain ⟨k, a, b, rfl, rfl, hk⟩ := h
  exact .value (run_max_int2 w ts ty k k a b) hk

theorem bnd_run {v : Value} {d l y : Nat} {c : BoundsCode} (h : bnd (some v) d l) (hl : l ≤ y) : (Instr.sliceBound v y c).run P w = .ok l w := by
  obtain ⟨k, rfl⟩ := h
  simp [Instr.sliceBound, asIntOf, hl]

theorem bounds_run {b : Bool} {len cap l h m : Nat} {lo hi mx : Option Value} (hm : bnd mx cap m) (hh : bnd hi len h) (hl : bnd lo 0 l) (h1 : l ≤ h) (h2 : h ≤ m) (h3 : m ≤ cap) (hx : mx.isSome = true → hi.isSome = true) :
    (Instr.sliceBounds b len cap lo hi mx).run P w = .ok (l, h, m) w := by
  unfold Instr.sliceBounds
  cases mx with
  | none =>
    have : m = cap := hm
    subst this
    cases hi with
    | none =>
      have : h = len := hh
      subst this
      cases lo with
      | none => have : l = 0 := hl; subst this; simp
      | some v => simp [bnd_run hl h1]
    | some u =>
      cases lo with
      | none => have : l = 0 := hl; subst this; simp [bnd_run hh h2]
      | some v => simp [bnd_run hl h1, bnd_run hh h2]
  | some x =>
    cases hi with
    | none => simp at hx
    | some u =>
      cases lo with
      | none => have : l = 0 := hl; subst this; simp [bnd_run hh h2, bnd_run hm h3]
      | some v => simp [bnd_run hl h1, bnd_run hh h2, bnd_run hm h3]

theorem sl_does {t e : TypeId} {n : Nat} {x : Value} {lo hi mx : Option Value} (ht : P.underlying t = some (.slice e)) (hn : tSize P e = some n) (hx : mx.isSome = true → hi.isSome = true)
    (h : HSl n x lo hi mx fun v => K v w) : Does P (do pure (.value (← Instr.sliceAt t x lo hi mx))) w K := by
  obtain ⟨a, len, cap, l, h, m, rfl, hm, hh, hl, h1, h2, h3, hk⟩ := h
  refine .value ?_ hk
  simp [Instr.sliceAt, Instr.slice, run_underlying ht, bounds_run hm hh hl h1 h2 h3 hx, run_sizeOf hn]

theorem slS_does {t : TypeId} {x : Value} {lo hi : Option Value} (ht : P.underlying t = some .string)
    (h : HSlS x lo hi fun v => K v w) : Does P (do pure (.value (← Instr.sliceAt t x lo hi none))) w K := by
  obtain ⟨s, l, h, rfl, hh, hl, h1, h2, hk⟩ := h
  refine .value ?_ hk
  simp [Instr.sliceAt, Instr.slice, run_underlying ht, bounds_run (b := false) (cap := s.size) (m := s.size) (mx := none) rfl hh hl h1 h2 (Nat.le_refl _) (by simp)]

/-! ### Rows of zeros -/
theorem zrow_get (z : List Value) (hz : 0 < z.length) : ∀ (n i : Nat) (h : i < n * z.length), (zrow z n)[i]? = z[i % z.length]?
  | 0, i, h => by simp at h
  | n + 1, i, h => by
    unfold zrow
    rw [List.replicate_succ, List.flatten_cons]
    by_cases hi : i < z.length
    · rw [List.getElem?_append_left hi, Nat.mod_eq_of_lt hi]
    · rw [List.getElem?_append_right (by omega)]
      have := zrow_get z hz n (i - z.length) (by rw [Nat.add_mul] at h; omega)
      unfold zrow at this
      rw [this]
      congr 1
      conv => rhs; rw [show i = (i - z.length) + z.length by omega, Nat.add_mod_right]
theorem zrow_length (z : List Value) : ∀ n, (zrow z n).length = n * z.length
  | 0 => by simp [zrow]
  | n + 1 => by
    have := zrow_length z n
    unfold zrow at *
    rw [List.replicate_succ, List.flatten_cons, List.length_append, this, Nat.add_mul]; omega

theorem zrow_range (z : Array Value) (n : Nat) : (Array.range (n * z.size)).map (fun i => z[i % z.size]!) = (zrow z.toList n).toArray := by
  apply Array.ext
  · simp [zrow_length]
  · intro i h1 h2
    have hi : i < n * z.size := by simpa using h1
    have hz : 0 < z.toList.length := by
      rcases Nat.eq_zero_or_pos z.size with h | h
      · rw [h] at hi; omega
      · simpa using h
    have hg := zrow_get z.toList hz n i (by simpa using hi)
    have hm : i % z.size < z.size := Nat.mod_lt _ (by simpa using hz)
    simp only [Array.getElem_map, Array.getElem_range, List.getElem_toArray]
    rw [List.getElem?_eq_getElem (by simpa [zrow_length] using hi)] at hg
    simp only [Array.length_toList] at hg
    rw [List.getElem?_eq_getElem (by simpa using hm)] at hg
    simp at hg
    rw [hg, getElem!_pos z (i % z.size) hm]

theorem mk_does {t e : TypeId} {i : TypeInfo} {v : Value} {x y : Value} (ht : P.underlying t = some (.slice e)) (hi : P.info? e = some i) (hv : i.zero = some v) (hn : tSize P e = some v.cells.size)
    (h : HMk v.cells.toList (tBytes P e) e x y w K) : Does P (do pure (.value (← Instr.makeSlice t x y))) w K := by
  obtain ⟨n, c, kl, kc, rfl, rfl, hnc, hb, hc, hk⟩ := h
  have hb' : tBytes P e = i.bytes := by simp [tBytes, hi]
  have w1 : IntKind.i64.wrap (((n : Nat) : Int)) = n := IntWalk.i64_in _ (by omega)
  have w2 : IntKind.i64.wrap (((c : Nat) : Int)) = c := IntWalk.i64_in _ (by omega)
  refine .value ?_ hk
  have h1 : ¬ ((i.bytes : Int) * (c : Int) > 281474976710656) := by
    rw [hb'] at hb
    have : ((i.bytes * c : Nat) : Int) ≤ 281474976710656 := by omega
    simpa using this
  have hz := zrow_range v.cells c
  by_cases h0 : c * v.cells.size = 0
  · have : zrow v.cells.toList c = [] := List.eq_nil_of_length_eq_zero (by rw [zrow_length]; simpa using h0)
    simp [Instr.makeSlice, run_underlying ht, asInt, asIntOf, typeInfo, hi, w1, w2, run_sizeOf hn, run_zeroValue hi hv, newRow, h0, this, h1, show ¬ ((c : Int) < 0) by omega, show ¬ ((n : Int) < 0) by omega, show ¬ ((n : Int) > c) by omega]
    rw [show Array.map (fun _ => (default : Value)) (Array.range 0) = #[] from Array.eq_empty_of_size_eq_zero (by simp)]
  · simp [Instr.makeSlice, run_underlying ht, asInt, asIntOf, typeInfo, hi, w1, w2, run_sizeOf hn, run_zeroValue hi hv, newRow, h0, hz, h1, show ¬ ((c : Int) < 0) by omega, show ¬ ((n : Int) < 0) by omega, show ¬ ((n : Int) > c) by omega]
end
end Go.Proofs.Ythjnknpgcmmapaa
