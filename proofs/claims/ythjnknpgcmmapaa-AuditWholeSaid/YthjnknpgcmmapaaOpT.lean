/-
  Arguments: lists of ops, lists of lists.
-/
import Derived.Test.YthjnknpgcmmapaaApi
import Derived.Test.YthjnknpgcmmapaaLawS
import Derived.Test.YthjnknpgcmmapaaOwn
namespace Go.Proofs.Ythjnknpgcmmapaa
set_option linter.unusedVariables false
set_option maxRecDepth 100000
open Go.ChangeShapes Go.WideShapes Go.ChangeAt Go.RowKit

def tAOp : GoT AOp := (tPair (tInt .i64) (tPair (tInt .i64) (tPair (tInt .i64) (tPair tBool (tPair tStr tUnit))))).via fun o => (o.lsn, o.table, o.key, o.gone, o.val, ())
theorem tAOp_rd {w : World} {M : MS} {o : AOp} {cs : List Value} (h : tAOp.rd w M o cs) : cs = encOp o := by
  obtain ⟨c1, c2, rfl, h1, c3, c4, rfl, h3, c5, c6, rfl, h5, c7, c8, rfl, h7, c9, c10, rfl, h9, h10⟩ := h
  have h1' : c1 = [.int .i64 o.lsn] := h1
  have h3' : c3 = [.int .i64 o.table] := h3
  have h5' : c5 = [.int .i64 o.key] := h5
  have h7' : c7 = [.bool o.gone] := h7
  have h9' : c9 = [.string o.val] := h9
  have h10' : c10 = [] := h10
  subst h1' h3' h5' h7' h9' h10'
  rfl
def okAOp (o : AOp) : Prop := inK .i64 o.lsn ∧ inK .i64 o.table ∧ inK .i64 o.key ∧ okStr o.val
/-- A row of one-cell elements: their cells. -/
theorem RdS.cells1 {α : Type} {T : GoT α} (hT : T.n = 1) {w : World} {xs : List α} {v : Value} (h : RdS T w Nob xs v) :
    ∃ vs : List Value, vs.length = xs.length ∧ RdSl (Heap.of w) 1 v xs.length vs ∧ ∀ i (h : i < xs.length) (h' : i < vs.length), T.rd w Nob xs[i] [vs[i]] := by
  obtain ⟨a, cap, rfl, hc, hx⟩ := h.out
  have hex : ∀ i, ∃ u, ∀ h : i < xs.length, T.rd w Nob xs[i] [u] ∧ ∃ b off, a = some ⟨b, off, none⟩ ∧ w.cell? ⟨b, off + i, none⟩ = some u := fun i => by
    by_cases hi : i < xs.length
    · obtain ⟨b, off, cs, ha, hr, hat⟩ := hx i hi
      have hl := T.len hr
      rw [hT] at hl
      match cs, hl with
      | [u], _ =>
        refine ⟨u, fun _ => ⟨hr, b, off, ha, ?_⟩⟩
        have := hat.2 0 u rfl
        rw [hT] at this
        simpa using this
    · exact ⟨undef, fun h => absurd h hi⟩
  obtain ⟨f, hf⟩ := Classical.axiomOfChoice hex
  refine ⟨(List.range xs.length).map f, by simp, ⟨by simp, a, cap, rfl, hc, ?_⟩, fun i hi hi' => ?_⟩
  · rcases Nat.eq_zero_or_pos xs.length with h0 | h0
    · exact .inl h0
    · right
      obtain ⟨_, b, off, rfl, _⟩ := hf 0 h0
      refine ⟨b, off, rfl, fun j u hu => ?_⟩
      have hj : j < xs.length := by have := (List.getElem?_eq_some_iff.1 hu).1; simpa using this
      have hu' : f j = u := by simpa [hj] using hu
      obtain ⟨_, b', off', hab, hcell⟩ := hf j hj
      simp at hab
      obtain ⟨rfl, rfl⟩ := hab
      rw [hu'] at hcell
      unfold World.cell? at hcell
      unfold Heap.cell Heap.of
      simp only at hcell ⊢
      split at hcell
      · rename_i c t f he'; rw [he']; simpa using hcell
      · cases hcell
  · simpa using (hf i hi).1
/-- A row of rows. -/
theorem RdS.rows {α : Type} {T : GoT α} {enc : α → List Value} {w : World} {xss : List (List α)} {v : Value} (h : RdS (tSlice T) w Nob xss v) (he : ∀ {M x cs}, T.rd w M x cs → cs = enc x) (hn : ∀ x, (enc x).length = T.n) :
    ∃ vs : List Value, vs.length = xss.length ∧ RdSl (Heap.of w) 1 v xss.length vs ∧ ∀ i (h : i < xss.length) (h' : i < vs.length), RdSl (Heap.of w) T.n vs[i] xss[i].length (xss[i].map enc).flatten := by
  obtain ⟨vs, h1, h2, h3⟩ := RdS.cells1 rfl h
  refine ⟨vs, h1, h2, fun i hi hi' => ?_⟩
  obtain ⟨u, hu, hr⟩ := h3 i hi hi'
  have : vs[i] = u := by simpa using hu
  rw [this]
  exact hr.flat he hn
end Go.Proofs.Ythjnknpgcmmapaa
