/-
  Plain: how many rows lie ahead of a key.
-/
import Derived.Test.YtffogjfnmbgogaaLaw11L
namespace Go.Proofs.Ytffogjfnmbgogaa
set_option linter.unusedVariables false

section
variable {W w : World} {l : List Chunk} {P : Program}
theorem s_eqGn {t : TypeId} {xs ys : List Value} {p : Prop} [Decidable p] {K : Value → Prop} (h : (Op.equal t (agg xs) (agg ys)).run P w = .ok (decide p) w) (hK : K (.bool !(decide p))) : HEqG P t true (agg xs) (agg ys) w K :=
  ⟨_, _, _, rfl, rfl, h, hK⟩
end
def cntR (C : List Row) (k : Int) : Nat := (C.filter fun r => decide (r.key < k)).length
theorem cntR_le (C : List Row) (k : Int) : cntR C k ≤ C.length := List.length_filter_le _ _
theorem cntR_lt {C : List Row} (hs : SortedR C) (k : Int) : ∀ j (h : j < C.length), C[j].key < k ↔ j < cntR C k := by
  unfold SortedR at hs
  unfold cntR
  induction C with
  | nil => intro j h; simp at h
  | cons x C ih =>
    rw [List.pairwise_cons] at hs
    intro j h
    by_cases hx : x.key < k
    · rw [List.filter_cons_of_pos (by simpa using hx)]
      cases j with
      | zero => simp [hx]
      | succ j => simpa using ih hs.2 j (by simpa using h)
    · have e : C.filter (fun r => decide (r.key < k)) = [] := by
        rw [List.filter_eq_nil_iff]; intro y hy; have := hs.1 y hy; simp; omega
      rw [List.filter_cons_of_neg (by simpa using hx), e]
      cases j with
      | zero => simpa using hx
      | succ j =>
        have hm : C[j]'(by simpa using h) ∈ C := List.getElem_mem _
        have := hs.1 _ hm
        simp; omega
theorem cntR_some {C : List Row} (hs : SortedR C) {k : Int} {v : ByteArray} (h : getR C k = some v) : ∃ hl : cntR C k < C.length, C[cntR C k] = ⟨k, v⟩ ∧ cntR C (k + 1) = cntR C k + 1 := by
  obtain ⟨j, hj, e⟩ := List.mem_iff_getElem.1 (getR_some h)
  have key : C[j].key = k := by rw [e]
  have h1 : cntR C k ≤ j := by have := cntR_lt hs k j hj; omega
  have h2 : cntR C k = j := by
    rcases Nat.lt_or_ge (cntR C k) j with hlt | hge
    · have := List.pairwise_iff_getElem.1 hs (cntR C k) j (by omega) hj hlt
      have h3 := (cntR_lt hs k (cntR C k) (by omega)).1 (by omega)
      omega
    · omega
  have h4 : j < cntR C (k + 1) := (cntR_lt hs (k + 1) j hj).1 (by omega)
  have h5 : cntR C (k + 1) ≤ j + 1 := by
    rcases Nat.lt_or_ge (j + 1) (cntR C (k + 1)) with hlt | hge
    · have hle := cntR_le C (k + 1)
      have := List.pairwise_iff_getElem.1 hs j (j + 1) hj (by omega) (by omega)
      have h3 := (cntR_lt hs (k + 1) (j + 1) (by omega)).2 hlt
      omega
    · exact hge
  exact ⟨by omega, by simp only [h2]; exact e, by omega⟩
theorem cntR_none {C : List Row} (hs : SortedR C) {k : Int} (h : getR C k = none) : cntR C (k + 1) = cntR C k := by
  unfold cntR
  congr 1
  refine List.filter_congr fun x hx => ?_
  have : x.key ≠ k := fun e => by have := getR_mem hs hx; rw [e, h] at this; cases this
  by_cases h1 : x.key < k
  · have : x.key < k + 1 := by omega
    simp [h1, this]
  · have : ¬ x.key < k + 1 := by omega
    simp [h1, this]
theorem cntR_one {C : List Row} (h : ∀ c ∈ C, 1 ≤ c.key) : cntR C 1 = 0 := by
  unfold cntR
  rw [List.length_eq_zero_iff, List.filter_eq_nil_iff]
  intro x hx; have := h x hx; simp; omega
theorem keys_appR {C : List Row} {t : Int} {c : Chg} (h : ∀ r ∈ C, 1 ≤ r.key) (hc : 1 ≤ c.key) : ∀ r ∈ appR t C c, 1 ≤ r.key := by
  intro r hr
  unfold appR at hr
  split at hr
  · split at hr
    · exact h r (mem_delR hr)
    · rcases mem_insR hr with rfl | hr
      · exact hc
      · exact h r hr
  · exact h r hr
theorem keys_foldl {l : List Chg} {t : Int} : ∀ {C : List Row}, (∀ r ∈ C, 1 ≤ r.key) → (∀ c ∈ l, 1 ≤ c.key) → ∀ r ∈ l.foldl (appR t) C, 1 ≤ r.key := by
  induction l with
  | nil => intro C h _; exact h
  | cons c l ih => intro C h hc; exact ih (keys_appR h (hc c (.head _))) (fun x hx => hc x (.tail _ hx))
theorem keys_foldR {l : List TxnD} {k : Nat} (h : ∀ t ∈ l, okTx k t) (tb : Int) (i : Nat) : ∀ r ∈ foldR tb (l.take i), 1 ≤ r.key :=
  keys_foldl (by simp) fun c hc => by
    obtain ⟨x, hx, hc⟩ := List.mem_flatMap.1 hc
    exact ((h x (List.mem_of_mem_take hx)).2.2 c hc).1
end Go.Proofs.Ytffogjfnmbgogaa
