/-
  The laws of AuditChunks and AuditTables.
-/
import Derived.Test.YthjnknpgcmmapaaLaw32C
import Derived.Test.YthjnknpgcmmapaaLaw32T
import Derived.Test.YthjnknpgcmmapaaOwn
namespace Go.Proofs.Ythjnknpgcmmapaa
set_option linter.unusedVariables false
set_option maxRecDepth 100000
open Go.ChangeShapes Go.WideShapes Go.ChangeAt Go.RowKit

theorem auditChunks_law (l : List TxnD) (A : List Ask) (R : List Rq) (n : Int) (hok : ∀ t ∈ l, okTxn t) (lv av rv : Value) (w : World) (hl : RdS tTxn w Nob l lv) (ha : RdS tAsk w Nob A av) (hr : RdS tRq w Nob R rv)
    (nl : l.length ≤ 140737488351232) (nA : A.length ≤ 140737488351232) (nR : R.length ≤ 140737488351232) :
    Calls Try.prog 11 #[lv, av, rv, .int .i64 n] w fun e w' => e = .returned (.bool true) ∧ Below w.heap.size w w' :=
  (law_of_spec (auditChunks_spec (Heap.of w) lv av rv l A R n (RdTx.of hl) nl hok (ha.flat tAsk_rd (fun _ => rfl)) nA (hr.flat tRq_rd (fun _ => rfl)) nR)).calls
def tRow : GoT Row := (tPair (tInt .i64) (tPair tStr tUnit)).via fun r => (r.key, r.val, ())
theorem tRow_rd {w : World} {M : MS} {r : Row} {cs : List Value} (h : tRow.rd w M r cs) : cs = encRow r := by
  obtain ⟨c1, c2, rfl, h1, c3, c4, rfl, h3, h4⟩ := h
  have h1' : c1 = [.int .i64 r.key] := h1
  have h3' : c3 = [.string r.val] := h3
  have h4' : c4 = [] := h4
  subst h1' h3' h4'
  rfl
theorem rowOpens : Opens Try.prog 69 tRow (fun _ => True) :=
  opens_ok (opens_via (fun r : Row => (r.key, r.val, ())) (fun x => ⟨x.1, x.2.1⟩) (fun _ => rfl)
    (opens_struct Try.underlying69 (by kernel_rfl) (fields_cons (opens_int Try.underlying2 (by kernel_rfl)) rfl (fields_cons (opens_str Try.underlying9 (by kernel_rfl)) rfl (fields_nil _ _))))) (fun _ _ => trivial)
theorem auditTables_law (l : List TxnD) (A : List Ask) (late lsn t : Int) (rows : List Row) (at_ : Int) (hok : ∀ t ∈ l, okTxn t) (lv av rv : Value) (w : World) (hl : RdS tTxn w Nob l lv) (ha : RdS tAsk w Nob A av) (hr : RdS tRow w Nob rows rv)
    (nl : l.length ≤ 140737488351232) (nA : A.length ≤ 140737488351232) (nR : rows.length ≤ 140737488351232) :
    Calls Try.prog 9 #[lv, av, .int .i64 late, .int .i64 lsn, .int .i64 t, rv, .int .i64 at_] w fun e w' => e = .returned (.bool true) ∧ Below w.heap.size w w' :=
  (law_of_spec (auditTables_spec (Heap.of w) lv av rv l A rows late lsn t at_ (RdTx.of hl) nl hok (ha.flat tAsk_rd (fun _ => rfl)) nA (hr.flat tRow_rd (fun _ => rfl)) nR)).calls
end Go.Proofs.Ythjnknpgcmmapaa
