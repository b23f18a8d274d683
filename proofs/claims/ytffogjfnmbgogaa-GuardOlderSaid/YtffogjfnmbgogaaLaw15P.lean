/-
  Plain: what puts come to, key by key.
-/
import Derived.Test.YtffogjfnmbgogaaGMod
namespace Go.Proofs.Ytffogjfnmbgogaa
set_option linter.unusedVariables false

def getS (S : List (List Cell)) (t : Nat) (k : Int) : Option Cell := (S[t]?).bind fun C => getC C k
theorem ext_C : ∀ (C D : List Cell), SortedC C → SortedC D → (∀ k, getC C k = getC D k) → C = D
  | [], [], _, _, _ => rfl
  | [], d :: D, _, _, h => by have := h d.key; simp [getC] at this
  | c :: C, [], _, _, h => by have := h c.key; simp [getC] at this
  | c :: C, d :: D, hc, hd, h => by
    unfold SortedC at hc hd
    rw [List.pairwise_cons] at hc hd
    have nd : ∀ (x : Cell) (L : List Cell) (k : Int), (∀ a ∈ L, x.key < a.key) → k ≤ x.key → getC L k = none := fun x L k hx hk => by
      unfold getC
      rw [List.find?_eq_none]
      intro a ha
      have := hx a ha
      simp; omega
    have hkey : c.key = d.key := by
      rcases Int.lt_trichotomy c.key d.key with hl | he | hl
      · have := h c.key
        have h1 : getC (c :: C) c.key = some c := by simp [getC]
        have h2 : getC (d :: D) c.key = none := by
          have hne : ¬ d.key = c.key := by omega
          have := nd d D c.key hd.1 (by omega)
          unfold getC at this ⊢
          rw [List.find?_cons]; simp [hne, this]
        rw [h1, h2] at this; cases this
      · exact he
      · have := h d.key
        have h1 : getC (d :: D) d.key = some d := by simp [getC]
        have h2 : getC (c :: C) d.key = none := by
          have hne : ¬ c.key = d.key := by omega
          have := nd c C d.key hc.1 (by omega)
          unfold getC at this ⊢
          rw [List.find?_cons]; simp [hne, this]
        rw [h1, h2] at this; cases this
    have hcd : c = d := by
      have := h c.key
      simp [getC, hkey] at this; exact this
    subst hcd
    have ht : C = D := ext_C C D hc.2 hd.2 fun k => by
      by_cases hk : k ≤ c.key
      · rw [nd c C k hc.1 hk, nd c D k hd.1 hk]
      · have := h k
        have hne : ¬ c.key = k := by omega
        unfold getC at this ⊢
        rw [List.find?_cons, List.find?_cons] at this
        simpa [hne] using this
    rw [ht]
theorem ext_S (S T : List (List Cell)) (hl : S.length = T.length) (hS : okS S) (hT : okS T) (h : ∀ t k, t < S.length → getS S t k = getS T t k) : S = T := by
  refine List.ext_getElem hl fun t h1 h2 => ext_C _ _ (hS _ (List.getElem_mem h1)).1 (hT _ (List.getElem_mem h2)).1 fun k => ?_
  have := h t k h1
  simpa [getS, h1, h2] using this

/-- An op's place. -/
def inS (S : List (List Cell)) (o : AOp) : Prop := 0 ≤ o.table ∧ o.table.toNat < S.length
def at_ (o : AOp) (t : Nat) (k : Int) : Prop := o.table = t ∧ o.key = k
theorem put_yes {S : List (List Cell)} {o : AOp} (hi : inS S o) (h : ∀ c, getS S o.table.toNat o.key = some c → ¬ o.lsn < c.lsn) :
    (putS S o).2 = true ∧ ∀ t k, getS (putS S o).1 t k = if o.table = t ∧ o.key = k then some (cellOf o) else getS S t k := by
  obtain ⟨h0, h1⟩ := hi
  have e := putS_at (ts := S) (t := o.table.toNat) (o := o) (by omega) h1
  have hp : putT S[o.table.toNat] o = (insC S[o.table.toNat] (cellOf o), true) := by
    unfold putT
    cases hg : getC S[o.table.toNat] o.key with
    | none => rfl
    | some c =>
      have := h c (by simp [getS, h1, hg])
      simp [this]
  rw [e, hp]
  refine ⟨rfl, fun t k => ?_⟩
  simp only [getS]
  rw [List.getElem?_set]
  by_cases ht : o.table.toNat = t
  · subst ht
    simp only [h1, if_true, Option.bind_some, get_insC]
    have hc : (cellOf o).key = o.key := rfl
    have hx : o.table = (o.table.toNat : Int) := by omega
    rw [hc]
    by_cases hk : o.key = k
    · rw [if_pos hk, if_pos ⟨hx, hk⟩]
    · rw [if_neg hk, if_neg (fun x => hk x.2)]; simp [h1]
  · have : ¬ (o.table = (t : Int) ∧ o.key = k) := fun x => ht (by omega)
    rw [if_neg ht, if_neg this]
theorem put_no {S : List (List Cell)} {o : AOp} {c : Cell} (hi : inS S o) (hg : getS S o.table.toNat o.key = some c) (h : o.lsn < c.lsn) : putS S o = (S, false) := by
  obtain ⟨h0, h1⟩ := hi
  have e := putS_at (ts := S) (t := o.table.toNat) (o := o) (by omega) h1
  have hg' : getC S[o.table.toNat] o.key = some c := by simpa [getS, h1] using hg
  have hp : putT S[o.table.toNat] o = (S[o.table.toNat], false) := by unfold putT; simp [hg', h]
  rw [e, hp]; simp
theorem put_at {S : List (List Cell)} {o : AOp} (hi : inS S o) {t : Nat} {k : Int} (h : ¬ (o.table = t ∧ o.key = k)) : getS (putS S o).1 t k = getS S t k := by
  by_cases hb : ∃ c, getS S o.table.toNat o.key = some c ∧ o.lsn < c.lsn
  · obtain ⟨c, h1, h2⟩ := hb; rw [put_no hi h1 h2]
  · rw [(put_yes hi (fun c h1 h2 => hb ⟨c, h1, h2⟩)).2, if_neg h]

theorem inS_put {S : List (List Cell)} {o p : AOp} (h : inS S o) : inS (putS S p).1 o := ⟨h.1, by rw [putS_len]; exact h.2⟩
theorem inS_all {S : List (List Cell)} {o : AOp} {l : List AOp} (h : inS S o) : inS (putAll S l).1 o := ⟨h.1, by rw [putAll_len]; exact h.2⟩
/-- No cell there is newer than B. -/
def leB (S : List (List Cell)) (t : Nat) (k : Int) (B : Int) : Prop := ∀ c, getS S t k = some c → c.lsn ≤ B
theorem leB_put {S : List (List Cell)} {o : AOp} {t : Nat} {k B : Int} (hi : inS S o) (h : leB S t k B) (ho : o.table = t → o.key = k → o.lsn ≤ B) : leB (putS S o).1 t k B := by
  intro c hc
  by_cases hb : ∃ c, getS S o.table.toNat o.key = some c ∧ o.lsn < c.lsn
  · obtain ⟨c', h1, h2⟩ := hb; rw [put_no hi h1 h2] at hc; exact h c hc
  · rw [(put_yes hi (fun c h1 h2 => hb ⟨c, h1, h2⟩)).2] at hc
    split at hc
    · rename_i hx; cases hc; exact ho hx.1 hx.2
    · exact h c hc
theorem leB_all {l : List AOp} : ∀ {S : List (List Cell)} {t : Nat} {k B : Int}, (∀ o ∈ l, inS S o) → leB S t k B → (∀ o ∈ l, o.table = t → o.key = k → o.lsn ≤ B) → leB (putAll S l).1 t k B := by
  induction l with
  | nil => intro S t k B _ h _; exact h
  | cons o l ih =>
    intro S t k B hi h ho
    exact ih (fun p hp => inS_put (hi p (.tail _ hp))) (leB_put (hi o (.head _)) h (ho o (.head _))) (fun p hp => ho p (.tail _ hp))
/-- No op of the key: as before. -/
theorem all_none {l : List AOp} : ∀ {S : List (List Cell)} {t : Nat} {k : Int}, (∀ o ∈ l, inS S o) → (∀ o ∈ l, ¬ (o.table = t ∧ o.key = k)) → getS (putAll S l).1 t k = getS S t k := by
  induction l with
  | nil => intro S t k _ _; rfl
  | cons o l ih =>
    intro S t k hi h
    show getS (putAll (putS S o).1 l).1 t k = _
    rw [ih (fun p hp => inS_put (hi p (.tail _ hp))) (fun p hp => h p (.tail _ hp)), put_at (hi o (.head _)) (h o (.head _))]
/-- The last op of a key, with none of it greater: its cell. -/
theorem all_last {S : List (List Cell)} {pre post : List AOp} {o : AOp} {t : Nat} {k : Int} (hi : ∀ p ∈ pre ++ o :: post, inS S p) (ht : o.table = t) (hk : o.key = k) (hpre : ∀ p ∈ pre, p.table = t → p.key = k → p.lsn ≤ o.lsn)
    (hpost : ∀ p ∈ post, ¬ (p.table = t ∧ p.key = k)) (hS : leB S t k o.lsn) : getS (putAll S (pre ++ o :: post)).1 t k = some (cellOf o) := by
  rw [putAll_append]
  show getS (putAll (putS (putAll S pre).1 o).1 post).1 t k = _
  have hi1 : inS (putAll S pre).1 o := inS_all (hi o (by simp))
  rw [all_none (fun p hp => inS_put (inS_all (hi p (by simp [hp])))) hpost]
  have hB := leB_all (fun p hp => hi p (by simp [hp])) hS hpre
  rw [(put_yes hi1 (fun c hc hlt => by
    have ht' : o.table.toNat = t := by omega
    rw [ht', hk] at hc
    have := hB c hc
    omega)).2, if_pos ⟨ht, hk⟩]
/-- The last op of a key. -/
theorem last_split (l : List AOp) (t : Nat) (k : Int) : (∀ o ∈ l, ¬ (o.table = t ∧ o.key = k)) ∨ ∃ (pre : List AOp) (o : AOp) (post : List AOp), l = pre ++ o :: post ∧ o.table = t ∧ o.key = k ∧ ∀ p ∈ post, ¬ (p.table = t ∧ p.key = k) := by
  induction l with
  | nil => exact .inl (by simp)
  | cons x l ih =>
    rcases ih with h | ⟨pre, o, post, rfl, h1, h2, h3⟩
    · by_cases hx : x.table = t ∧ x.key = k
      · exact .inr ⟨[], x, l, rfl, hx.1, hx.2, h⟩
      · exact .inl fun o ho => by
          rcases List.mem_cons.1 ho with rfl | ho
          · exact hx
          · exact h o ho
    · exact .inr ⟨x :: pre, o, post, rfl, h1, h2, h3⟩

/-! ### Ops whose Lsns do not fall -/
def Rise (l : List AOp) : Prop := l.Pairwise (fun a b => a.lsn ≤ b.lsn)
/-- All cells come from the ops l. -/
def From (S : List (List Cell)) (l : List AOp) : Prop := ∀ t k c, getS S t k = some c → ∃ o ∈ l, o.table = t ∧ o.key = k ∧ c = cellOf o
theorem From.put {S : List (List Cell)} {l : List AOp} {o : AOp} (h : From S l) (hi : inS S o) (ho : o ∈ l) : From (putS S o).1 l := by
  intro t k c hc
  by_cases hb : ∃ c, getS S o.table.toNat o.key = some c ∧ o.lsn < c.lsn
  · obtain ⟨c', h1, h2⟩ := hb; rw [put_no hi h1 h2] at hc; exact h t k c hc
  · rw [(put_yes hi (fun c h1 h2 => hb ⟨c, h1, h2⟩)).2] at hc
    split at hc
    · rename_i hx; cases hc; exact ⟨o, ho, hx.1, hx.2, rfl⟩
    · exact h t k c hc
theorem From.all {l : List AOp} (l' : List AOp) : ∀ {S : List (List Cell)}, From S l → (∀ o ∈ l', inS S o) → (∀ o ∈ l', o ∈ l) → From (putAll S l').1 l := by
  induction l' with
  | nil => intro S h _ _; exact h
  | cons o l' ih => intro S h hi hm; exact ih (h.put (hi o (.head _)) (hm o (.head _))) (fun p hp => inS_put (hi p (.tail _ hp))) (fun p hp => hm p (.tail _ hp))
theorem rise_state {S : List (List Cell)} {l : List AOp} (hr : Rise l) (hi : ∀ o ∈ l, inS S o) (hf : From S l) (t : Nat) (k : Int) :
    getS (putAll S l).1 t k = match (l.filter fun o => decide (o.table = (t : Int) ∧ o.key = k)).getLast? with | some o => some (cellOf o) | none => none := by
  rcases last_split l t k with h | ⟨pre, o, post, rfl, h1, h2, h3⟩
  · rw [all_none hi h]
    have : l.filter (fun o => decide (o.table = (t : Int) ∧ o.key = k)) = [] := by
      rw [List.filter_eq_nil_iff]; intro o ho; simpa using h o ho
    rw [this]
    cases hg : getS S t k with
    | none => rfl
    | some c =>
      obtain ⟨o, ho, h1, h2, _⟩ := hf t k c hg
      exact absurd ⟨h1, h2⟩ (h o ho)
  · unfold Rise at hr
    rw [List.pairwise_append] at hr
    have hpre : ∀ p ∈ pre, p.lsn ≤ o.lsn := fun p hp => hr.2.2 p hp o (.head _)
    rw [all_last hi h1 h2 (fun p hp _ _ => hpre p hp) h3 (fun c hc => by
      obtain ⟨q, hq, q1, q2, rfl⟩ := hf t k c hc
      show q.lsn ≤ o.lsn
      rcases List.mem_append.1 hq with hq | hq
      · exact hpre q hq
      · rcases List.mem_cons.1 hq with rfl | hq
        · exact Int.le_refl _
        · exact absurd ⟨q1, q2⟩ (h3 q hq))]
    have hpost : post.filter (fun o => decide (o.table = (t : Int) ∧ o.key = k)) = [] := by
      rw [List.filter_eq_nil_iff]; intro p hp; simpa using h3 p hp
    rw [List.filter_append, List.filter_cons, if_pos (by simp [h1, h2]), hpost]
    simp
theorem rise_count {l : List AOp} : ∀ {S : List (List Cell)}, Rise l → (∀ o ∈ l, inS S o) → (∀ o ∈ l, ∀ t k c, getS S t k = some c → c.lsn ≤ o.lsn) → (putAll S l).2 = l.length := by
  induction l with
  | nil => intro S _ _ _; rfl
  | cons o l ih =>
    intro S hr hi hb
    unfold Rise at hr
    rw [List.pairwise_cons] at hr
    have hy := put_yes (hi o (.head _)) (fun c hc hlt => by have := hb o (.head _) _ _ c hc; omega)
    show (if (putS S o).2 then 1 else 0) + (putAll (putS S o).1 l).2 = _
    rw [hy.1, ih hr.2 (fun p hp => inS_put (hi p (.tail _ hp))) (fun p hp t k c hc => by
      rw [hy.2] at hc
      split at hc
      · cases hc; exact hr.1 p hp
      · exact hb p (.tail _ hp) t k c hc)]
    simp; omega
theorem getS_empty (n t : Nat) (k : Int) : getS (List.replicate n []) t k = none := by
  unfold getS
  cases h : (List.replicate n ([] : List Cell))[t]? with
  | none => rfl
  | some C =>
    have := List.mem_of_getElem? h
    obtain ⟨_, rfl⟩ := List.mem_replicate.1 this
    rfl
theorem okS_empty (n : Nat) : okS (List.replicate n []) := fun C hC => by
  obtain ⟨_, rfl⟩ := List.mem_replicate.1 hC
  exact ⟨List.Pairwise.nil, by simp⟩
/-- Put once, or a beginning, then all, and all again: the same. -/
theorem again (n : Nat) (l : List AOp) (c : Nat) (hr : Rise l) (hi : ∀ o ∈ l, 0 ≤ o.table ∧ o.table.toNat < n) (hk : ∀ o ∈ l, inI64 o.key) :
    (putAll (List.replicate n []) l).2 = l.length ∧ (putAll (putAll (putAll (List.replicate n []) (l.take c)).1 l).1 l).1 = (putAll (List.replicate n []) l).1 := by
  have hi0 : ∀ o ∈ l, inS (List.replicate n []) o := fun o ho => ⟨(hi o ho).1, by rw [List.length_replicate]; exact (hi o ho).2⟩
  have hf0 : From (List.replicate n []) l := fun t k c hc => by rw [getS_empty] at hc; cases hc
  refine ⟨rise_count hr hi0 (fun o ho t k c hc => by rw [getS_empty] at hc; cases hc), ?_⟩
  have hit : ∀ o ∈ l.take c, o ∈ l := fun o ho => List.mem_of_mem_take ho
  have hf1 : From (putAll (List.replicate n []) (l.take c)).1 l := From.all _ hf0 (fun o ho => hi0 o (hit o ho)) hit
  have hf2 := From.all _ hf1 (fun o ho => inS_all (hi0 o ho)) (fun o ho => ho)
  have ok1 : okS (putAll (List.replicate n []) (l.take c)).1 := okS_all (okS_empty n) (fun o ho => hk o (hit o ho))
  refine ext_S _ _ (by simp only [putAll_len]) (okS_all (okS_all ok1 hk) hk) (okS_all (okS_empty n) hk) fun t k _ => ?_
  rw [rise_state hr (fun o ho => inS_all (inS_all (hi0 o ho))) hf2, rise_state hr hi0 hf0]
end Go.Proofs.Ytffogjfnmbgogaa
