/-
  My own engine, part 3: what an operation asks is sound.
-/
import Derived.Test.YthjnknpgcmmapaaEng2
namespace Go.Proofs.Ythjnknpgcmmapaa
set_option linter.unusedVariables false
open Go.RowKit

def Callable (P : Program) (f : FuncId) : Prop := ∃ fn, P.funcs[f]? = some fn ∧ (fn.name == "runtime.NumGoroutine") = false ∧ fn.body.isNone = false
def Calls.Tab (P : Program) (T : List Bool) : Prop := ∀ f, T.getD f false = true → Callable P f

/-- One operation's run, as the rules of the kit take it. -/
def Does (P : Program) (s : Sem Next) (w : World) (K : Value → World → Prop) : Prop :=
  (∃ v w', s.run P w = .ok (.value v) w' ∧ K v w') ∨ (∃ w', s.run P w = .ok .skip w' ∧ K undef w') ∨
  (∃ f args, s.run P w = .ok (.enter f args) w ∧ Calls P f args w fun e w' => ∃ v, e = .returned v ∧ K v w')

theorem Does.upon {P : Program} {o : Oper} {a : Act} {w : World} {K : Value → World → Prop} {next : Act → World → Prop} {Q : Exit → Act → World → Prop}
    (h : Does P (execOp a.eval o) w K) (hn : ∀ v w', K v w' → next (a.put o.dst v) w') : o.wp P a w next Q := by
  unfold Oper.wp
  rcases h with ⟨v, w', hr, hk⟩ | ⟨w', hr, hk⟩ | ⟨f, args, hr, hk⟩
  · rw [hr]; exact hn _ _ hk
  · rw [hr]; exact hn _ _ hk
  · rw [hr]
    refine hk.mono ?_
    rintro e w' ⟨v, rfl, hk⟩
    exact hn _ _ hk

theorem Does.value {P : Program} {s : Sem Value} {w w' : World} {K : Value → World → Prop} {v : Value} (h : s.run P w = .ok v w') (hk : K v w') :
    Does P (do pure (.value (← s))) w K := .inl ⟨v, w', by simp [h], hk⟩

theorem HRun.does {P : Program} {s : Sem Value} {w : World} {K : Value → World → Prop} (h : HRun P s w K) : Does P (do pure (.value (← s))) w K := by
  obtain ⟨v, w', h1, h2⟩ := h
  exact .value h1 h2

theorem HRq.does {P : Program} {s : Sem Value} {w : World} {K : Value → World → Prop} (h : HRq P s w fun v => K v w) : Does P (do pure (.value (← s))) w K := by
  obtain ⟨v, h1, h2⟩ := h
  exact .value h1 h2

/-! ### The type table -/
theorem run_sizeOf {P : Program} {t : TypeId} {n : Nat} (h : tSize P t = some n) (w : World) : (sizeOf t).run P w = .ok n w := by
  unfold tSize at h
  split at h
  · rename_i i hi; cases h; simp [sizeOf, typeInfo, hi]
  · cases h
theorem tZero_spec {P : Program} {t : TypeId} {z : List Value} (h : tZero P t = some z) : ∃ i v, P.info? t = some i ∧ i.zero = some v ∧ v.cells.toList = z := by
  unfold tZero at h
  split at h
  · rename_i i hi
    split at h
    · rename_i v hv; cases h; exact ⟨i, v, hi, hv, rfl⟩
    · cases h
  · cases h
theorem run_zeroValue {P : Program} {t : TypeId} {i : TypeInfo} {v : Value} (h : P.info? t = some i) (hv : i.zero = some v) (w : World) : (zeroValue t).run P w = .ok v w := by
  simp [zeroValue, typeInfo, h, hv]
theorem tk_one {P : Program} {t : TypeId} (h : tk P t = .one) : (∀ w, (isAgg t).run P w = .ok false w) ∧ ∃ i, P.info? t = some i := by
  unfold tk at h
  split at h
  · split at h <;> cases h
  · split at h <;> cases h
  · rename_i d h1 h2 hd
    split at h
    · rename_i i hi
      refine ⟨fun w => ?_, i, hi⟩
      simp only [isAgg, Sem.run_bind, run_underlying hd, Result.andThen_ok]
      rfl
    · cases h
  · cases h
theorem tk_agg {P : Program} {t : TypeId} {n : Nat} (h : tk P t = .agg n) : (∀ w, (isAgg t).run P w = .ok true w) ∧ tSize P t = some n := by
  unfold tk at h
  split at h
  · rename_i fs hd
    split at h
    · rename_i i hi; cases h; exact ⟨fun w => by simp [isAgg, run_underlying hd], by simp [tSize, hi]⟩
    · cases h
  · rename_i k e hd
    split at h
    · rename_i i hi; cases h; exact ⟨fun w => by simp [isAgg, run_underlying hd], by simp [tSize, hi]⟩
    · cases h
  · split at h <;> cases h
  · cases h

/-! ### Operation by operation -/
section
variable {P : Program} {w : World} {K : Value → World → Prop}

theorem HNew.run {z : List Value} {v : Value} {e : TypeId} (hz : v.cells.toList = z) (h : HNew z e w K) : ∃ u w', (do pure (Value.pointer (some (← newVar e v))) : Sem Value).run P w = .ok u w' ∧ K u w' := by
  refine ⟨_, _, rfl, ?_⟩
  unfold HNew at h
  subst hz
  rw [Array.toArray_toList] at h
  exact h

theorem alloc_does {e : TypeId} {z : List Value} (hz : tZero P e = some z) (h : HNew z e w K) : Does P (do pure (.value (← Instr.alloc e true (.tuple #[])))) w K := by
  obtain ⟨i, v, hi, hv, rfl⟩ := tZero_spec hz
  obtain ⟨u, w', hr, hk⟩ := HNew.run (P := P) rfl h
  refine .value ?_ hk
  rw [← hr]
  have := Sem.run_bind' P (zeroValue e) (fun zero => (do pure (Value.pointer (some (← newVar e zero))) : Sem Value)) w
  rw [run_zeroValue hi hv] at this
  exact this

theorem box_does {e : TypeId} {x : Value} {z : List Value} (hz : x.cells.toList = z) (h : HNew z e w K) : Does P (do pure (.value (← Instr.box e x))) w K := by
  obtain ⟨u, w', hr, hk⟩ := HNew.run (P := P) hz h
  exact .value hr hk

theorem load1_does {t : TypeId} {x : Value} (ht : tk P t = .one) (h : HLd x w fun v => K v w) : Does P (do pure (.value (← Instr.loadAt t x))) w K := by
  obtain ⟨a, v, rfl, hc, hk⟩ := h
  refine .value (v := v) ?_ hk
  simp [Instr.loadAt, Instr.sureAddr, loadVar, (tk_one ht).1, hc]

theorem loadN_does {t : TypeId} {n : Nat} {x : Value} (ht : tk P t = .agg n) (h : HLdN n x w fun v => K v w) : Does P (do pure (.value (← Instr.loadAt t x))) w K := by
  obtain ⟨a, vs, rfl, hl, hc, hk⟩ := h
  subst hl
  refine .value (v := .agg vs.toArray) ?_ hk
  simp [Instr.loadAt, Instr.sureAddr, loadVar, (tk_agg ht).1, run_sizeOf (tk_agg ht).2, run_loadCells_list w a vs hc]

theorem one_cells {v : Value} (h : v.oneCell' = true) : v.cells = #[v] := by
  cases v <;> first | rfl | cases h

theorem run_store_one {a : Addr} {v u : Value} (hv : v.oneCell' = true) (hc : w.cell? a = some u) (hf : w.frozen? a = false) : (store a v).run P w = .ok () (w.setCell a v) := by
  rw [run_store P w a v _ hv, hc]; simp [hf]

theorem store1_does {t : TypeId} {x v : Value} (ht : tk P t = .one) (hs : tSize P t = some 1) (h : HSt x v w fun w' => K undef w') : Does P (do Instr.storeAt t x v; pure .skip) w K := by
  obtain ⟨a, u, rfl, hv, hc, hf, hk⟩ := h
  refine .inr (.inl ⟨_, ?_, hk⟩)
  have h0 : a.add 0 = a := rfl
  simp [Instr.storeAt, Instr.sureAddr, storeVar, one_cells hv, run_sizeOf hs, storeCells, h0, run_store_one hv hc hf]

theorem stN_run : ∀ (vs : List Value) (a : Addr) (i : Nat) (w : World) (K : World → Prop), stN a i vs w K → ∃ w', (storeCells a vs i).run P w = .ok () w' ∧ K w'
  | [], a, i, w, K, h => ⟨w, by simp [storeCells], h⟩
  | v :: r, a, i, w, K, ⟨hv, ⟨u, hc⟩, hf, h⟩ => by
    obtain ⟨w', hr, hk⟩ := stN_run r a (i + 1) _ K h
    exact ⟨w', by simp [storeCells, run_store_one hv hc hf, hr], hk⟩

theorem storeN_does {t : TypeId} {n : Nat} {x v : Value} (ht : tk P t = .agg n) (h : HStN n x v w fun w' => K undef w') : Does P (do Instr.storeAt t x v; pure .skip) w K := by
  obtain ⟨a, vs, rfl, rfl, hl, hk⟩ := h
  obtain ⟨w', hr, hk⟩ := stN_run (P := P) _ _ _ _ _ hk
  refine .inr (.inl ⟨w', ?_, hk⟩)
  simp [Instr.storeAt, Instr.sureAddr, storeVar, run_sizeOf (tk_agg ht).2, Value.cells, hl, hr]

theorem fieldAddr_does {s : TypeId} {x : Value} {f off : Nat} (hf : fldOff P s f = some off) (h : HFld off x fun v => K v w) : Does P (do pure (.value (← Instr.fieldAt s x f))) w K := by
  obtain ⟨a, rfl, hk⟩ := h
  unfold fldOff at hf
  split at hf
  · rename_i fields hs
    split at hf
    · rename_i d hd
      split at hf
      · rename_i n hn
        cases hf
        refine .value ?_ hk
        simp [Instr.fieldAt, run_underlying hs, hd, Instr.sureAddr, fieldPlace, run_sizeOf hn]
      · cases hf
    · cases hf
  · cases hf

theorem idx_does {t e : TypeId} {n : Nat} {x i : Value} (ht : P.underlying t = some (.slice e)) (hn : tSize P e = some n) (h : HIdx n x i fun v => K v w) : Does P (do pure (.value (← Instr.indexAt t x i))) w K := by
  obtain ⟨a, len, cap, k, j, rfl, rfl, hlt, hk⟩ := h
  refine .value ?_ hk
  simp [Instr.indexAt, run_underlying ht, asIntOf, run_sizeOf hn, hlt]

theorem idxA_does {t e : TypeId} {n len : Nat} {x i : Value} (ht : P.underlying t = some (.array len e)) (hn : tSize P e = some n) (h : HIdxA n len x i fun v => K v w) : Does P (do pure (.value (← Instr.indexAt t x i))) w K := by
  obtain ⟨a, k, j, rfl, rfl, hlt, hk⟩ := h
  refine .value ?_ hk
  simp [Instr.indexAt, run_underlying ht, asIntOf, run_sizeOf hn, hlt, Instr.sureAddr]

theorem eqGuard_int (op : BinOp) (t : TypeId) (x y : Operand) (a b : Value) (ha : ∀ u, a ≠ .agg u) (hb : a ≠ .nilIface) : (eqGuard op t x y a b).run P w = .ok () w := by
  cases a <;> simp_all [eqGuard]

theorem binVal_run {op : BinOp} {a b v : Value} (t : TypeId) (h : binVal op a b = some v) : ((∀ u, a ≠ .agg u) ∧ a ≠ .nilIface) ∧ (binOp op t a b).run P w = .ok v w := by
  unfold binVal at h
  split at h <;> first | (cases h; done) | skip
  all_goals refine ⟨⟨(fun u hu => (by cases hu)), (fun hu => (by cases hu))⟩, ?_⟩
  all_goals (repeat' split at h)
  all_goals
    first
      | (cases h; done)
      | (cases h; simp_all [binOp, Op.intArith, Op.intCmp, Op.intDiv, Op.intBits, Op.shift, Op.stringOp]; done)
      | (cases h; simp_all [binOp, Op.shift]; omega)

theorem bin_does {op : BinOp} {t : TypeId} {x y : Operand} {a b : Value} (h : HBin op a b fun v => K v w) : Does P (do pure (.value (← (do eqGuard op t x y a b; binOp op t a b)))) w K := by
  obtain ⟨v, hv, hk⟩ := h
  obtain ⟨⟨h1, h2⟩, hr⟩ := binVal_run (P := P) (w := w) t hv
  refine .value (v := v) ?_ hk
  simp only [Sem.run_bind, eqGuard_int op t x y a b h1 h2, Result.andThen_ok, hr]
end
end Go.Proofs.Ythjnknpgcmmapaa
