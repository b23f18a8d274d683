/-
  My own library: a law over pieces of memory; arguments as rows that are not written.
-/
import Derived.Test.YthjnknpgcmmapaaSl3
import Derived.Test.YthjnknpgcmmapaaLib3
namespace Go.Proofs.Ythjnknpgcmmapaa
set_option linter.unusedVariables false
open Go.RowKit

/-- The law answers true, and what was there is as it was. -/
def LawS (P : Program) (f : FuncId) (args : List Value) (w : World) : Prop := HCall P f args w fun v w' => v = .bool true ∧ Below w.heap.size w w'
theorem law_of_spec {P : Program} {f : FuncId} {args : List Value} {w : World} (h : Spec P f args [.mem (Heap.of w)] fun v post => v = .bool true ∧ ∃ H l, (Heap.of w).le H ∧ post = .mem H :: l) : LawS P f args w := by
  refine (h w [] w (SL.init w)).mono ?_
  rintro v w' ⟨post, ⟨rfl, H, l, hH, rfl⟩, hS⟩
  exact ⟨rfl, hS.below (.hd) hH⟩
theorem LawS.calls {P : Program} {f : FuncId} {args : List Value} {w : World} (h : LawS P f args w) : Calls P f args.toArray w fun e w' => e = .returned (.bool true) ∧ Below w.heap.size w w' :=
  Calls.mono h fun e w' ⟨v, he, hv, hb⟩ => ⟨by rw [he, hv], hb⟩

/-- A slice argument of elements without memory behind them. -/
theorem RdS.flat {α : Type} {T : GoT α} {enc : α → List Value} {w : World} {xs : List α} {v : Value} (h : RdS T w Nob xs v) (he : ∀ {M x cs}, T.rd w M x cs → cs = enc x) (hn : ∀ x, (enc x).length = T.n) :
    RdSl (Heap.of w) T.n v xs.length (xs.map enc).flatten := by
  obtain ⟨a, cap, rfl, hc, hx⟩ := h.out
  have hlen : (xs.map enc).flatten.length = xs.length * T.n := by
    rw [flatten_length (n := T.n) _ (fun x hx => by obtain ⟨y, _, rfl⟩ := List.mem_map.1 hx; exact hn y), List.length_map]
  refine ⟨hlen, a, cap, rfl, hc, ?_⟩
  rcases Nat.eq_zero_or_pos xs.length with h0 | h0
  · exact .inl h0
  · right
    obtain ⟨b, off, _, rfl, _, _⟩ := hx 0 h0
    refine ⟨b, off, rfl, fun j u hu => ?_⟩
    have hj := (List.getElem?_eq_some_iff.1 hu).1
    rcases Nat.eq_zero_or_pos T.n with hz | hz
    · rw [hlen, hz] at hj; omega
    have hi : j / T.n < xs.length := by rw [hlen] at hj; exact (Nat.div_lt_iff_lt_mul hz).2 hj
    obtain ⟨b', off', cs, hab, hr, hat⟩ := hx (j / T.n) hi
    simp at hab
    obtain ⟨rfl, rfl⟩ := hab
    have hcs := he hr
    subst hcs
    have hmod : j % T.n < (enc xs[j / T.n]).length := by rw [hn]; exact Nat.mod_lt _ hz
    have hg := flatten_get (n := T.n) (xs.map enc) (fun x hx => by obtain ⟨y, _, rfl⟩ := List.mem_map.1 hx; exact hn y) (j / T.n) (j % T.n) (by simpa using hi) ((enc xs[j / T.n])[j % T.n]'hmod) (by simp [List.getElem?_eq_getElem hmod])
    have hdm : j / T.n * T.n + j % T.n = j := by rw [Nat.mul_comm]; exact Nat.div_add_mod j T.n
    rw [hdm] at hg
    rw [hu] at hg
    have hu' : u = (enc xs[j / T.n])[j % T.n] := Option.some.inj hg
    have := hat.2 (j % T.n) u (by rw [hu']; exact List.getElem?_eq_getElem hmod)
    rw [show off + j / T.n * T.n + j % T.n = off + j by omega] at this
    unfold World.cell? at this
    unfold Heap.cell Heap.of
    simp only at this ⊢
    split at this
    · rename_i c t f he'; rw [he']; simpa using this
    · cases this
/-- Element j of such a row. -/
theorem flat_get {α : Type} {enc : α → List Value} {n : Nat} {xs : List α} (hn : ∀ x, (enc x).length = n) {j i : Nat} (hj : j < xs.length) {u : Value} (hu : (enc xs[j])[i]? = some u) : ((xs.map enc).flatten)[j * n + i]? = some u :=
  flatten_get (n := n) (xs.map enc) (fun x hx => by obtain ⟨y, _, rfl⟩ := List.mem_map.1 hx; exact hn y) j i (by simpa using hj) u (by simpa using hu)
end Go.Proofs.Ythjnknpgcmmapaa
