/-
  Plain: of ops of unlike Lsns the greatest counts, in whatever order.
-/
import Derived.Test.YtffogjfnmbgogaaLaw15P
namespace Go.Proofs.Ytffogjfnmbgogaa
set_option linter.unusedVariables false

theorem max_state (l : List AOp) (t : Nat) (k : Int) : ∀ {S : List (List Cell)}, (∀ o ∈ l, inS S o) →
    (getS (putAll S l).1 t k = getS S t k ∧ ∀ o ∈ l, o.table = (t : Int) → o.key = k → ∃ c, getS S t k = some c ∧ o.lsn < c.lsn) ∨
    ∃ o ∈ l, o.table = (t : Int) ∧ o.key = k ∧ getS (putAll S l).1 t k = some (cellOf o) ∧ (∀ p ∈ l, p.table = (t : Int) → p.key = k → p.lsn ≤ o.lsn) ∧ ∀ c, getS S t k = some c → c.lsn ≤ o.lsn := by
  induction l with
  | nil => intro S _; exact .inl ⟨rfl, by simp⟩
  | cons o l ih =>
    intro S hi
    have hio := hi o (.head _)
    have e : (putAll S (o :: l)).1 = (putAll (putS S o).1 l).1 := rfl
    rw [e]
    have ih' := ih (S := (putS S o).1) (fun p hp => inS_put (hi p (.tail _ hp)))
    by_cases ho : o.table = (t : Int) ∧ o.key = k
    · have ht : o.table.toNat = t := by omega
      by_cases hb : ∃ c, getS S t k = some c ∧ o.lsn < c.lsn
      · obtain ⟨c, hc, hlt⟩ := hb
        have hp := put_no hio (by rw [ht, ho.2]; exact hc) hlt
        rw [hp] at ih' ⊢
        simp only at ih' ⊢
        rcases ih' with ⟨h1, h2⟩ | ⟨q, hq, q1, q2, q3, q4, q5⟩
        · refine .inl ⟨h1, fun p hp p1 p2 => ?_⟩
          rcases List.mem_cons.1 hp with rfl | hp
          · exact ⟨c, hc, hlt⟩
          · exact h2 p hp p1 p2
        · refine .inr ⟨q, .tail _ hq, q1, q2, q3, fun p hp p1 p2 => ?_, q5⟩
          rcases List.mem_cons.1 hp with rfl | hp
          · have := q5 c hc; omega
          · exact q4 p hp p1 p2
      · have hy := put_yes hio (fun c hc hlt => hb ⟨c, by rw [← ht, ← ho.2]; exact hc, hlt⟩)
        have hg : getS (putS S o).1 t k = some (cellOf o) := by rw [hy.2, if_pos ho]
        have hS : ∀ c, getS S t k = some c → c.lsn ≤ o.lsn := fun c hc => by
          by_cases hlt : o.lsn < c.lsn
          · exact absurd ⟨c, hc, hlt⟩ hb
          · omega
        rcases ih' with ⟨h1, h2⟩ | ⟨q, hq, q1, q2, q3, q4, q5⟩
        · refine .inr ⟨o, .head _, ho.1, ho.2, by rw [h1, hg], fun p hp p1 p2 => ?_, hS⟩
          rcases List.mem_cons.1 hp with rfl | hp
          · exact Int.le_refl _
          · obtain ⟨c, hc, hlt⟩ := h2 p hp p1 p2
            rw [hg] at hc; cases hc
            have : (cellOf o).lsn = o.lsn := rfl
            omega
        · have hq5 : o.lsn ≤ q.lsn := q5 _ hg
          refine .inr ⟨q, .tail _ hq, q1, q2, q3, fun p hp p1 p2 => ?_, fun c hc => ?_⟩
          · rcases List.mem_cons.1 hp with rfl | hp
            · exact hq5
            · exact q4 p hp p1 p2
          · have := hS c hc; omega
    · have hg : getS (putS S o).1 t k = getS S t k := put_at hio ho
      rw [hg] at ih'
      rcases ih' with ⟨h1, h2⟩ | ⟨q, hq, q1, q2, q3, q4, q5⟩
      · refine .inl ⟨h1, fun p hp p1 p2 => ?_⟩
        rcases List.mem_cons.1 hp with rfl | hp
        · exact absurd ⟨p1, p2⟩ ho
        · exact h2 p hp p1 p2
      · refine .inr ⟨q, .tail _ hq, q1, q2, q3, fun p hp p1 p2 => ?_, q5⟩
        rcases List.mem_cons.1 hp with rfl | hp
        · exact absurd ⟨p1, p2⟩ ho
        · exact q4 p hp p1 p2
/-- The order does not count. -/
theorem order_free (n : Nat) (l l' : List AOp) (hi : ∀ o ∈ l, 0 ≤ o.table ∧ o.table.toNat < n) (hk : ∀ o ∈ l, inI64 o.key) (hm : ∀ o, o ∈ l ↔ o ∈ l') (hd : ∀ o ∈ l, ∀ p ∈ l, o.lsn = p.lsn → o = p) :
    (putAll (List.replicate n []) l).1 = (putAll (List.replicate n []) l').1 := by
  have hi0 : ∀ o ∈ l, inS (List.replicate n []) o := fun o ho => ⟨(hi o ho).1, by rw [List.length_replicate]; exact (hi o ho).2⟩
  refine ext_S _ _ (by simp only [putAll_len]) (okS_all (okS_empty n) hk) (okS_all (okS_empty n) (fun o ho => hk o ((hm o).2 ho))) fun t k _ => ?_
  rcases max_state l t k hi0 with ⟨h1, h2⟩ | ⟨o, ho, o1, o2, o3, o4, _⟩
  · rcases max_state l' t k (fun o ho => hi0 o ((hm o).2 ho)) with ⟨g1, _⟩ | ⟨q, hq, q1, q2, _, _, _⟩
    · rw [h1, g1]
    · obtain ⟨c, hc, _⟩ := h2 q ((hm q).2 hq) q1 q2
      rw [getS_empty] at hc; cases hc
  · rcases max_state l' t k (fun o ho => hi0 o ((hm o).2 ho)) with ⟨_, g2⟩ | ⟨q, hq, q1, q2, q3, q4, _⟩
    · obtain ⟨c, hc, _⟩ := g2 o ((hm o).1 ho) o1 o2
      rw [getS_empty] at hc; cases hc
    · have h5 := o4 q ((hm q).2 hq) q1 q2
      have h6 := q4 o ((hm o).1 ho) o1 o2
      have := hd o ho q ((hm q).2 hq) (by omega)
      subst this
      rw [o3, q3]
end Go.Proofs.Ytffogjfnmbgogaa
