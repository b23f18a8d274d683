/-
  Transactions that play makes are such as the calls want.
-/
import Derived.Test.YthjnknpgcmmapaaTxnsS
import Derived.Test.YthjnknpgcmmapaaTxT
import Derived.Test.YthjnknpgcmmapaaRqT
namespace Go.Proofs.Ythjnknpgcmmapaa
set_option linter.unusedVariables false
set_option maxRecDepth 100000
open Go.ChangeShapes Go.WideShapes Go.ChangeAt Go.RowKit

def okTxn (t : TxnD) : Prop := inI64 t.kind ∧ t.changes.length ≤ 140737488351232 ∧ t.signals.length ≤ 140737488351232 ∧ ∀ c ∈ t.changes, inI64 c.key
theorem okTx.keys {k : Nat} {t : TxnD} (h : okTx k t) : ∀ c ∈ t.changes, inI64 c.key := fun c hc => by
  have := h.2.2 c hc
  unfold inI64; omega
theorem okTx.total {k : Nat} : ∀ {ts : List TxnD}, (∀ t ∈ ts, okTx k t) → (ts.flatMap (·.changes)).length ≤ 5 * ts.length
  | [], _ => by simp
  | t :: ts, h => by
    have := (h t (.head _)).1
    have ih := okTx.total (ts := ts) (fun x hx => h x (.tail _ hx))
    rw [List.flatMap_cons, List.length_append, List.length_cons]; omega
theorem TxOk.of {H : Heap} {v : Value} {ts : List TxnD} {k : Nat} (h : RdTx H v ts) (hl : ts.length ≤ 1000) (ok : ∀ t ∈ ts, okTx k t) : TxOk H v ts :=
  ⟨h, by omega, fun t ht => by have := (ok t ht).1; omega, fun t ht => (ok t ht).keys, by have := okTx.total ok; omega⟩
theorem bool_iff {p q : Bool} {P : Prop} (h1 : p = true ↔ P) (h2 : q = true ↔ P) : p = q := by
  cases p <;> cases q <;> simp_all
theorem mem_appR {t : Int} {C : List Row} {c : Chg} {x : Row} (h : x ∈ appR t C c) : x = ⟨c.key, c.val⟩ ∨ x ∈ C := by
  unfold appR at h
  split at h
  · split at h
    · exact .inr (mem_delR h)
    · exact mem_insR h
  · exact .inr h
theorem foldl_all {P : Row → Prop} {t : Int} : ∀ (l : List Chg) (C : List Row), (∀ c ∈ l, P ⟨c.key, c.val⟩) → (∀ r ∈ C, P r) → ∀ r ∈ l.foldl (appR t) C, P r
  | [], C, _, h => h
  | c :: l, C, hl, h => foldl_all l (appR t C c) (fun c hc => hl c (.tail _ hc)) fun r hr => by
    rcases mem_appR hr with rfl | hr
    · exact hl c (.head _)
    · exact h r hr
theorem foldR_all {P : Row → Prop} {t : Int} {l : List TxnD} (h : ∀ x ∈ l, ∀ c ∈ x.changes, P ⟨c.key, c.val⟩) (i : Nat) : ∀ r ∈ foldR t (l.take i), P r := by
  refine foldl_all _ _ (fun c hc => ?_) (fun r hr => by cases hr)
  obtain ⟨x, hx, hc⟩ := List.mem_flatMap.1 hc
  exact h x (List.mem_of_mem_take hx) c hc
/-- A row that such transactions make. -/
def okRow (r : Row) : Prop := 1 ≤ r.key ∧ r.key ≤ 1099511627776 ∧ r.val.size ≤ 32
theorem okRow_of {ts : List TxnD} {k : Nat} (ok : ∀ t ∈ ts, okTx k t) (t : Int) (i : Nat) : ∀ r ∈ foldR t (ts.take i), okRow r :=
  foldR_all (fun x hx c hc => by have := (ok x hx).2.2 c hc; exact ⟨this.1, this.2.1, this.2.2.2.2⟩) i
end Go.Proofs.Ythjnknpgcmmapaa
