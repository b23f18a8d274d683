/-
  Arguments: a row of structs, its cells.
-/
import Derived.Test.YthjnknpgcmmapaaLawS
namespace Go.Proofs.Ythjnknpgcmmapaa
set_option linter.unusedVariables false
open Go.ChangeShapes Go.WideShapes Go.ChangeAt Go.RowKit

/-- A row's elements, each with its cells. -/
theorem RdS.cellsN {α : Type} {T : GoT α} {w : World} {xs : List α} {v : Value} (h : RdS T w Nob xs v) (hT : 0 < T.n) :
    ∃ css : List (List Value), css.length = xs.length ∧ RdSl (Heap.of w) T.n v xs.length css.flatten ∧ ∀ i (h : i < xs.length) (h' : i < css.length), T.rd w Nob xs[i] css[i] := by
  obtain ⟨a, cap, rfl, hc, hx⟩ := h.out
  have hex : ∀ i, ∃ cs : List Value, cs.length = T.n ∧ ∀ h : i < xs.length, T.rd w Nob xs[i] cs ∧ ∃ b off, a = some ⟨b, off, none⟩ ∧ At w Nob b (off + i * T.n) cs := fun i => by
    by_cases hi : i < xs.length
    · obtain ⟨b, off, cs, ha, hr, hat⟩ := hx i hi
      exact ⟨cs, T.len hr, fun _ => ⟨hr, b, off, ha, hat⟩⟩
    · exact ⟨List.replicate T.n undef, by simp, fun h => absurd h hi⟩
  obtain ⟨f, hf⟩ := Classical.axiomOfChoice hex
  have hlen : ∀ x ∈ (List.range xs.length).map f, x.length = T.n := fun x hx => by
    obtain ⟨i, _, rfl⟩ := List.mem_map.1 hx; exact (hf i).1
  have hfl : ((List.range xs.length).map f).flatten.length = xs.length * T.n := by rw [flatten_length (n := T.n) _ hlen]; simp
  refine ⟨(List.range xs.length).map f, by simp, ⟨hfl, a, cap, rfl, hc, ?_⟩, fun i hi hi' => ?_⟩
  · rcases Nat.eq_zero_or_pos xs.length with h0 | h0
    · exact .inl h0
    · right
      obtain ⟨_, b, off, rfl, _⟩ := (hf 0).2 h0
      refine ⟨b, off, rfl, fun j u hu => ?_⟩
      have hj := (List.getElem?_eq_some_iff.1 hu).1
      rw [hfl] at hj
      have hi : j / T.n < xs.length := (Nat.div_lt_iff_lt_mul hT).2 hj
      obtain ⟨_, b', off', hab, hat⟩ := (hf (j / T.n)).2 hi
      simp at hab
      obtain ⟨rfl, rfl⟩ := hab
      have hmod : j % T.n < (f (j / T.n)).length := by rw [(hf _).1]; exact Nat.mod_lt _ hT
      have hg := flatten_get (n := T.n) ((List.range xs.length).map f) hlen (j / T.n) (j % T.n) (by simpa using hi) ((f (j / T.n))[j % T.n]'hmod) (by simp [List.getElem?_eq_getElem hmod])
      have hdm : j / T.n * T.n + j % T.n = j := by rw [Nat.mul_comm]; exact Nat.div_add_mod j T.n
      rw [hdm, hu] at hg
      have hu' : u = (f (j / T.n))[j % T.n] := Option.some.inj hg
      have := hat.2 (j % T.n) u (by rw [hu']; exact List.getElem?_eq_getElem hmod)
      rw [show off + j / T.n * T.n + j % T.n = off + j by omega] at this
      unfold World.cell? at this
      unfold Heap.cell Heap.of
      simp only at this ⊢
      split at this
      · rename_i c t f he'; rw [he']; simpa using this
      · cases this
  · simpa using ((hf i).2 hi).1
end Go.Proofs.Ythjnknpgcmmapaa
