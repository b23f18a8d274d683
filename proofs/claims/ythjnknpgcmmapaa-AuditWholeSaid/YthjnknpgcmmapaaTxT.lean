/-
  Arguments: lists of transactions.
-/
import Derived.Test.YthjnknpgcmmapaaOpT
import Derived.Test.YthjnknpgcmmapaaCellsN
import Derived.Test.YthjnknpgcmmapaaFMod
namespace Go.Proofs.Ythjnknpgcmmapaa
set_option linter.unusedVariables false
set_option maxRecDepth 100000
open Go.ChangeShapes Go.WideShapes Go.ChangeAt Go.RowKit

def tChg : GoT Chg := (tPair (tInt .i64) (tPair (tInt .i64) (tPair tBool (tPair tStr tUnit)))).via fun o => (o.table, o.key, o.gone, o.val, ())
theorem tChg_rd {w : World} {M : MS} {o : Chg} {cs : List Value} (h : tChg.rd w M o cs) : cs = encChg o := by
  obtain ⟨c1, c2, rfl, h1, c3, c4, rfl, h3, c5, c6, rfl, h5, c7, c8, rfl, h7, h8⟩ := h
  have h1' : c1 = [.int .i64 o.table] := h1
  have h3' : c3 = [.int .i64 o.key] := h3
  have h5' : c5 = [.bool o.gone] := h5
  have h7' : c7 = [.string o.val] := h7
  have h8' : c8 = [] := h8
  subst h1' h3' h5' h7' h8'
  rfl
def tTxn : GoT TxnD := (tPair (tInt .i64) (tPair (tInt .i64) (tPair (tSlice tChg) (tPair (tSlice tStr) (tPair (tInt .i64) tUnit))))).via fun t => (t.lsn, t.kind, t.changes, t.signals, t.mark, ())
theorem tTxn_rd {w : World} {t : TxnD} {cs : List Value} (h : tTxn.rd w Nob t cs) : ∃ x : TxV, cs = encTx x ∧ TxIs (Heap.of w) x t := by
  obtain ⟨c1, c2, rfl, h1, c3, c4, rfl, h3, c5, c6, rfl, h5, c7, c8, rfl, h7, c9, c10, rfl, h9, h10⟩ := h
  have h1' : c1 = [.int .i64 t.lsn] := h1
  have h3' : c3 = [.int .i64 t.kind] := h3
  obtain ⟨cv, h5', hcv⟩ : ∃ v, c5 = [v] ∧ RdS tChg w Nob t.changes v := h5
  obtain ⟨sv, h7', hsv⟩ : ∃ v, c7 = [v] ∧ RdS tStr w Nob t.signals v := h7
  have h9' : c9 = [.int .i64 t.mark] := h9
  have h10' : c10 = [] := h10
  subst h1' h3' h5' h7' h9' h10'
  refine ⟨⟨t.lsn, t.kind, cv, sv, t.mark⟩, rfl, rfl, rfl, rfl, hcv.flat tChg_rd (fun _ => rfl), ?_⟩
  have := hsv.flat (enc := fun s => [.string s]) (fun h => h) (fun _ => rfl)
  have e : (t.signals.map fun s => [Value.string s]).flatten = t.signals.map Value.string := by
    induction t.signals with
    | nil => rfl
    | cons a l ih => simp [ih]
  rw [e] at this
  exact this
theorem RdTx.of {w : World} {l : List TxnD} {v : Value} (h : RdS tTxn w Nob l v) : RdTx (Heap.of w) v l := by
  obtain ⟨css, h1, h2, h3⟩ := RdS.cellsN h (by decide)
  have hex : ∀ i, ∃ x : TxV, ∀ (h : i < l.length) (h' : i < css.length), css[i] = encTx x ∧ TxIs (Heap.of w) x l[i] := fun i => by
    by_cases hi : i < l.length
    · obtain ⟨x, e, hx⟩ := tTxn_rd (h3 i hi (by omega))
      exact ⟨x, fun _ _ => ⟨e, hx⟩⟩
    · exact ⟨⟨0, 0, .slice none 0 0, .slice none 0 0, 0⟩, fun h => absurd h hi⟩
  obtain ⟨f, hf⟩ := Classical.axiomOfChoice hex
  refine ⟨(List.range l.length).map f, by simp, ?_, fun i hi hi' => by simpa using (hf i hi (by omega)).2⟩
  have e : css = ((List.range l.length).map f).map encTx := List.ext_getElem (by simp [h1]) fun i g1 g2 => by simpa using (hf i (by omega) g1).1
  rw [e] at h2
  exact h2
def okChgA (c : Chg) : Prop := inK .i64 c.key
theorem chgOpens : Opens Try.prog 99 tChg okChgA :=
  opens_ok (opens_via (fun o : Chg => (o.table, o.key, o.gone, o.val, ())) (fun x => ⟨x.1, x.2.1, x.2.2.1, x.2.2.2.1⟩) (fun _ => rfl)
    (opens_struct Try.underlying99 (by kernel_rfl) (fields_cons (opens_int Try.underlying3 (by kernel_rfl)) rfl (fields_cons (opens_int Try.underlying2 (by kernel_rfl)) rfl (fields_cons (opens_bool Try.underlying4 (by kernel_rfl)) rfl (fields_cons (opens_str Try.underlying9 (by kernel_rfl)) rfl (fields_nil _ _))))))) (fun o h => h.2.1)
def okTxnA (t : TxnD) : Prop := inI64 t.kind ∧ t.changes.length ≤ 140737488351232 ∧ t.signals.length ≤ 140737488351232 ∧ ∀ c ∈ t.changes, inI64 c.key
theorem txnOpens : Opens Try.prog 103 tTxn okTxnA :=
  opens_ok (opens_via (fun t : TxnD => (t.lsn, t.kind, t.changes, t.signals, t.mark, ())) (fun x => ⟨x.1, x.2.1, x.2.2.1, x.2.2.2.1, x.2.2.2.2.1⟩) (fun _ => rfl)
    (opens_struct Try.underlying103 (by kernel_rfl) (fields_cons (opens_int Try.underlying2 (by kernel_rfl)) rfl (fields_cons (opens_int Try.underlying3 (by kernel_rfl)) rfl
      (fields_cons (opens_slice (b := 40) chgOpens Try.underlying100 (by kernel_rfl) (by kernel_rfl) (by decide)) rfl (fields_cons (opens_slice (b := 16) (opens_str Try.underlying9 (by kernel_rfl)) Try.underlying101 (by kernel_rfl) (by kernel_rfl) (by decide)) rfl
        (fields_cons (opens_int Try.underlying2 (by kernel_rfl)) rfl (fields_nil _ _)))))))) (fun t h => by
      have h2 := h.2.2.1
      have h3 := h.2.2.2.1
      exact ⟨inK_i64 h.2.1, by have := h2.1; simp only at this; omega, by have := h3.1; simp only at this; omega, fun c hc => inK_i64 (h2.2 c hc)⟩)
end Go.Proofs.Ythjnknpgcmmapaa
