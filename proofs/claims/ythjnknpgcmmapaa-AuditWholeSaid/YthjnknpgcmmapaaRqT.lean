/-
  Arguments: lists of requests, of asks.
-/
import Derived.Test.YthjnknpgcmmapaaLaw32
import Derived.Test.YthjnknpgcmmapaaOwn
namespace Go.Proofs.Ythjnknpgcmmapaa
set_option linter.unusedVariables false
set_option maxRecDepth 100000
open Go.ChangeShapes Go.WideShapes Go.ChangeAt Go.RowKit

def tRq : GoT Rq := (tPair (tInt .i64) (tPair (tInt .i64) (tPair (tInt .i64) (tPair (tInt .i64) (tPair (tInt .i64) (tPair (tInt .i64) (tPair tBool tUnit))))))).via fun r => (r.id, r.table, r.weight, r.at_, r.cursor, r.chunks, r.done, ())
theorem tRq_rd {w : World} {M : MS} {r : Rq} {cs : List Value} (h : tRq.rd w M r cs) : cs = encRq r := by
  obtain ⟨c1, c2, rfl, h1, c3, c4, rfl, h3, c5, c6, rfl, h5, c7, c8, rfl, h7, c9, c10, rfl, h9, c11, c12, rfl, h11, c13, c14, rfl, h13, h14⟩ := h
  have h1' : c1 = [.int .i64 r.id] := h1
  have h3' : c3 = [.int .i64 r.table] := h3
  have h5' : c5 = [.int .i64 r.weight] := h5
  have h7' : c7 = [.int .i64 r.at_] := h7
  have h9' : c9 = [.int .i64 r.cursor] := h9
  have h11' : c11 = [.int .i64 r.chunks] := h11
  have h13' : c13 = [.bool r.done] := h13
  have h14' : c14 = [] := h14
  subst h1' h3' h5' h7' h9' h11' h13' h14'
  rfl
theorem rqOpens : Opens Try.prog 74 tRq (fun _ => True) :=
  opens_ok (opens_via (fun r : Rq => (r.id, r.table, r.weight, r.at_, r.cursor, r.chunks, r.done, ())) (fun x => ⟨x.1, x.2.1, x.2.2.1, x.2.2.2.1, x.2.2.2.2.1, x.2.2.2.2.2.1, x.2.2.2.2.2.2.1⟩) (fun _ => rfl)
    (opens_struct Try.underlying74 (by kernel_rfl) (fields_cons (opens_int Try.underlying3 (by kernel_rfl)) rfl (fields_cons (opens_int Try.underlying3 (by kernel_rfl)) rfl (fields_cons (opens_int Try.underlying3 (by kernel_rfl)) rfl
      (fields_cons (opens_int Try.underlying2 (by kernel_rfl)) rfl (fields_cons (opens_int Try.underlying2 (by kernel_rfl)) rfl (fields_cons (opens_int Try.underlying3 (by kernel_rfl)) rfl (fields_cons (opens_bool Try.underlying4 (by kernel_rfl)) rfl (fields_nil _ _)))))))))) (fun _ _ => trivial)
def tAsk : GoT Ask := (tPair (tInt .i64) (tPair (tInt .i64) (tPair (tInt .i64) (tPair (tInt .i64) (tPair (tInt .i64) (tPair tBool tUnit)))))).via fun r => (r.table, r.weight, r.at_, r.chunks, r.cursor, r.done, ())
theorem tAsk_rd {w : World} {M : MS} {r : Ask} {cs : List Value} (h : tAsk.rd w M r cs) : cs = encAsk r := by
  obtain ⟨c1, c2, rfl, h1, c3, c4, rfl, h3, c5, c6, rfl, h5, c7, c8, rfl, h7, c9, c10, rfl, h9, c11, c12, rfl, h11, h12⟩ := h
  have h1' : c1 = [.int .i64 r.table] := h1
  have h3' : c3 = [.int .i64 r.weight] := h3
  have h5' : c5 = [.int .i64 r.at_] := h5
  have h7' : c7 = [.int .i64 r.chunks] := h7
  have h9' : c9 = [.int .i64 r.cursor] := h9
  have h11' : c11 = [.bool r.done] := h11
  have h12' : c12 = [] := h12
  subst h1' h3' h5' h7' h9' h11' h12'
  rfl
theorem askOpens : Opens Try.prog 105 tAsk (fun _ => True) :=
  opens_ok (opens_via (fun r : Ask => (r.table, r.weight, r.at_, r.chunks, r.cursor, r.done, ())) (fun x => ⟨x.1, x.2.1, x.2.2.1, x.2.2.2.1, x.2.2.2.2.1, x.2.2.2.2.2.1⟩) (fun _ => rfl)
    (opens_struct Try.underlying105 (by kernel_rfl) (fields_cons (opens_int Try.underlying3 (by kernel_rfl)) rfl (fields_cons (opens_int Try.underlying3 (by kernel_rfl)) rfl (fields_cons (opens_int Try.underlying3 (by kernel_rfl)) rfl
      (fields_cons (opens_int Try.underlying3 (by kernel_rfl)) rfl (fields_cons (opens_int Try.underlying2 (by kernel_rfl)) rfl (fields_cons (opens_bool Try.underlying4 (by kernel_rfl)) rfl (fields_nil _ _))))))))) (fun _ _ => trivial)
theorem auditStands_law (late : Int) (L : List Rq) (A : List Ask) (t : Int) (lv av : Value) (w : World) (hl : RdS tRq w Nob L lv) (ha : RdS tAsk w Nob A av) (hL : L.length ≤ 140737488351232) (hA : A.length ≤ 140737488351232) :
    Calls Try.prog 8 #[.int .i64 late, lv, av, .int .i64 t] w fun e w' => e = .returned (.bool true) ∧ Below w.heap.size w w' :=
  (law_of_spec (auditStands_spec (Heap.of w) late t lv av L A (hl.flat tRq_rd (fun _ => rfl)) hL (ha.flat tAsk_rd (fun _ => rfl)) hA)).calls
end Go.Proofs.Ythjnknpgcmmapaa
