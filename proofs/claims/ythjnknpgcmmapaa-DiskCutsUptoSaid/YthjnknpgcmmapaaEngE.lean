/-
  My own engine, part 9c: regions that draw their order: any order.
-/
import Derived.Test.YthjnknpgcmmapaaEngD
namespace Go.Proofs.Ythjnknpgcmmapaa
set_option linter.unusedVariables false
open Go.RowKit

theorem subB_iff {a b : Nat} : subB a b = true ↔ ∀ k, a.testBit k = true → b.testBit k = true := by
  unfold subB
  rw [beq_iff]
  constructor
  · intro h k hk
    have : (Nat.land a b).testBit k = true := by rw [h]; exact hk
    have e : (a &&& b).testBit k = true := this
    rw [Nat.testBit_and] at e
    simp only [Bool.and_eq_true] at e
    exact e.2
  · intro h
    show a &&& b = a
    apply Nat.eq_of_testBit_eq
    intro k
    rw [Nat.testBit_and]
    cases hk : a.testBit k with
    | true => simp [h k hk]
    | false => rfl
theorem maskOf_bit {l : List Nat} {k : Nat} : (maskOf l).testBit k = true ↔ k ∈ l := by
  induction l with
  | nil => simp [maskOf]
  | cons j r ih =>
    simp only [maskOf, Nat.testBit_or, Bool.or_eq_true, ih, List.mem_cons, Nat.testBit_two_pow, decide_eq_true_eq]
    constructor
    · rintro (h | h)
      · exact .inl h.symm
      · exact .inr h
    · rintro (h | h)
      · exact .inl h.symm
      · exact .inr h
theorem fltr_eq (f : Nat → Bool) : ∀ l : List Nat, fltr f l = l.filter f
  | [] => rfl
  | j :: r => by
    simp only [fltr, fltr_eq f r, List.filter_cons]
    cases f j <;> simp
theorem anyN_iff {f : Nat → Bool} {l : List Nat} : anyN f l = true ↔ ∃ c ∈ l, f c = true := by
  induction l with
  | nil => simp [anyN]
  | cons j r ih =>
    simp only [anyN]
    cases h : f j <;> simp [h, ih]
theorem idxs_mem {f : Oper → Bool} : ∀ {l : List Oper} {s k : Nat}, k ∈ idxs f l s ↔ ∃ o, s ≤ k ∧ l[k - s]? = some o ∧ f o = true
  | [], s, k => by simp [idxs]
  | o :: r, s, k => by
    have ih := @idxs_mem f r (s + 1) k
    have step : (∃ o', s ≤ k ∧ (o :: r)[k - s]? = some o' ∧ f o' = true) ↔ (k = s ∧ f o = true) ∨ ∃ o', s + 1 ≤ k ∧ r[k - (s + 1)]? = some o' ∧ f o' = true := by
      constructor
      · rintro ⟨o', h1, h2, h3⟩
        by_cases hk : k = s
        · subst hk; simp at h2; subst h2; exact .inl ⟨rfl, h3⟩
        · refine .inr ⟨o', by omega, ?_, h3⟩
          rw [show k - s = (k - (s + 1)) + 1 by omega] at h2
          simpa using h2
      · rintro (⟨rfl, h⟩ | ⟨o', h1, h2, h3⟩)
        · exact ⟨o, Nat.le_refl _, by simp, h⟩
        · refine ⟨o', by omega, ?_, h3⟩
          rw [show k - s = (k - (s + 1)) + 1 by omega]
          simpa using h2
    rw [step]
    simp only [idxs]
    cases h : f o with
    | true => simp [ih]
    | false => simp [ih]
theorem idxs_asc {f : Oper → Bool} : ∀ {l : List Oper} {s : Nat}, (idxs f l s).Pairwise (· < ·)
  | [], s => by simp [idxs]
  | o :: r, s => by
    simp only [idxs]
    split
    · refine List.pairwise_cons.2 ⟨fun k hk => ?_, idxs_asc⟩
      obtain ⟨_, h, _⟩ := idxs_mem.1 hk
      omega
    · exact idxs_asc

theorem befOf_bit {acc : List Nat} {j : Nat} : ∀ {es : List Edge}, (befOf acc es).testBit j = true ↔ ∃ e ∈ es, Region.binds .any e = true ∧ (j = e.on ∨ (acc.getD e.on 0).testBit j = true)
  | [] => by simp [befOf]
  | e :: r => by
    simp only [befOf]
    cases h : Region.binds .any e with
    | true =>
      simp only [Nat.testBit_or, Bool.or_eq_true, befOf_bit (es := r), Nat.testBit_two_pow, decide_eq_true_eq, List.mem_cons]
      constructor
      · rintro ((⟨e', h1, h2⟩ | h1) | h1)
        · exact ⟨e', .inr h1, h2⟩
        · exact ⟨e, .inl rfl, h, .inl h1.symm⟩
        · exact ⟨e, .inl rfl, h, .inr h1⟩
      · rintro ⟨e', rfl | h1, h2, h3⟩
        · rcases h3 with h3 | h3
          · exact .inl (.inr h3.symm)
          · exact .inr h3
        · exact .inl (.inl ⟨e', h1, h2, h3⟩)
    | false =>
      simp only [befOf_bit (es := r), List.mem_cons]
      constructor
      · rintro ⟨e', h1, h2⟩; exact ⟨e', .inr h1, h2⟩
      · rintro ⟨e', rfl | h1, h2, h3⟩
        · rw [h] at h2; cases h2
        · exact ⟨e', h1, h2, h3⟩
theorem befs_ext : ∀ (l : List Oper) (acc : List Nat), ∃ x, befs l acc = acc ++ x ∧ x.length = l.length
  | [], acc => ⟨[], by simp [befs], rfl⟩
  | o :: r, acc => by
    obtain ⟨x, h1, h2⟩ := befs_ext r (acc ++ [befOf acc o.after.toList])
    exact ⟨befOf acc o.after.toList :: x, by rw [befs, h1]; simp, by simp [h2]⟩
theorem befs_get : ∀ (l : List Oper) (acc : List Nat) (i : Nat) (o : Oper), l[i]? = some o → (befs l acc).getD (acc.length + i) 0 = befOf ((befs l acc).take (acc.length + i)) o.after.toList
  | [], acc, i, o, h => by simp at h
  | o' :: r, acc, i, o, h => by
    cases i with
    | zero =>
      simp at h; subst h
      obtain ⟨x, h1, h2⟩ := befs_ext r (acc ++ [befOf acc o'.after.toList])
      rw [befs, h1]
      simp
    | succ i =>
      have := befs_get r (acc ++ [befOf acc o'.after.toList]) i o (by simpa using h)
      simp only [List.length_append, List.length_cons, List.length_nil] at this
      rw [show acc.length + (0 + 1) + i = acc.length + (i + 1) by omega] at this
      rw [befs]; exact this

section
variable {P : Program} {T : List Bool} {n : Nat} {ops : Array Oper}

/-- The form of a region, as facts. -/
structure RF (P : Program) (n : Nat) (l : List Oper) : Prop where
  low : ∀ (i : Nat) (o : Oper) (d : Nat), l[i]? = some o → o.dst = some d → d < n
  back : ∀ (i : Nat) (o : Oper) (e : Edge), l[i]? = some o → e ∈ o.after.toList → Region.binds .any e = true → e.on < i
  self : ∀ (i : Nat) (o : Oper) (d : Nat), l[i]? = some o → isFlt P o.op = true → o.dst = some d → d ∉ looks l o
  one : ∀ (i j : Nat) (oi oj : Oper) (d : Nat), l[i]? = some oi → l[j]? = some oj → i ≠ j → oj.dst = some d → isFlt P oj.op = true → oi.dst ≠ some d
  dep : ∀ (i j : Nat) (oi oj : Oper) (d : Nat), l[i]? = some oi → l[j]? = some oj → i ≠ j → oj.dst = some d → d ∈ looks l oi → ((befs l []).getD i 0).testBit j = true ∨ (isFlt P oj.op = false ∧ ((befs l []).getD j 0).testBit i = true)

theorem regOk_facts {l : List Oper} (h : regOk P n l true = true) : RF P n l := by
  simp only [regOk, mkRS, List.all_eq_true, List.mem_range] at h
  have key : ∀ i oi, l[i]? = some oi → _ := fun i oi hi => by
    have := h i (List.getElem?_eq_some_iff.1 hi).1
    rw [hi] at this
    exact this
  refine ⟨fun i o d hi hd => ?_, fun i o e hi he hb => ?_, fun i o d hi hf hd => ?_, fun i j oi oj d hi hj hne hd hf => ?_, fun i j oi oj d hi hj hne hd hl => ?_⟩
  · have := key i o hi
    simp only [Bool.and_eq_true, List.all_eq_true] at this
    have := this.1.1.1 d (by simp [hd])
    simpa using this
  · have := key i o hi
    simp only [Bool.and_eq_true, List.all_eq_true] at this
    have := this.1.1.2 e he
    simpa [hb] using this
  · have := key i o hi
    simp only [Bool.and_eq_true] at this
    have := this.1.2
    simp [hf, hd] at this
    exact this
  · have := key i oi hi
    simp only [Bool.and_eq_true, List.all_eq_true, List.mem_range] at this
    have := this.2 j (List.getElem?_eq_some_iff.1 hj).1
    rw [hj] at this
    simp only [hd] at this
    simp only [Bool.or_eq_true, beq_iff_eq, hne, false_or, Bool.and_eq_true, hf, Bool.not_true, Bool.false_eq_true, bne_iff_ne, ne_eq] at this
    exact this.1
  · have := key i oi hi
    simp only [Bool.and_eq_true, List.all_eq_true, List.mem_range] at this
    have := this.2 j (List.getElem?_eq_some_iff.1 hj).1
    rw [hj] at this
    simp only [hd] at this
    have hc : (looks l oi).contains d = true := by simpa using hl
    simp only [Bool.or_eq_true, beq_iff_eq, hne, false_or, Bool.and_eq_true, hc, Bool.not_true, Bool.false_eq_true, Bool.not_eq_true'] at this
    exact this.2

/-- j must be done ahead of i. -/
def Bt (l : List Oper) (i j : Nat) : Prop := ((befs l []).getD i 0).testBit j = true
theorem Bt.iff {l : List Oper} (rf : RF P n l) {i j : Nat} {o : Oper} (hi : l[i]? = some o) : Bt l i j ↔ ∃ e ∈ o.after.toList, Region.binds .any e = true ∧ (j = e.on ∨ Bt l e.on j) := by
  unfold Bt
  have h1 := befs_get l [] i o hi
  simp only [List.length_nil, Nat.zero_add] at h1
  rw [h1, befOf_bit]
  have hg : ∀ e ∈ o.after.toList, Region.binds .any e = true → ((befs l []).take i).getD e.on 0 = (befs l []).getD e.on 0 := fun e he hb => by
    have := rf.back i o e hi he hb
    simp [this]
  constructor
  · rintro ⟨e, h1, h2, h3⟩; exact ⟨e, h1, h2, h3.imp id (fun h => by rw [← hg e h1 h2]; exact h)⟩
  · rintro ⟨e, h1, h2, h3⟩; exact ⟨e, h1, h2, h3.imp id (fun h => by rw [hg e h1 h2]; exact h)⟩
theorem Bt.op {l : List Oper} {i j : Nat} (h : Bt l i j) : ∃ o, l[i]? = some o := by
  unfold Bt at h
  obtain ⟨x, h1, h2⟩ := befs_ext l []
  by_cases hi : i < l.length
  · exact ⟨l[i], List.getElem?_eq_getElem hi⟩
  · have : (befs l []).getD i 0 = 0 := by
      rw [List.getD_eq_getElem?_getD, List.getElem?_eq_none (by rw [h1]; simp; omega)]; rfl
    rw [this] at h; simp at h
theorem Bt.lt {l : List Oper} (rf : RF P n l) : ∀ (i : Nat) {j : Nat}, Bt l i j → j < i := by
  intro i
  induction i using Nat.strongRecOn with
  | _ i ih =>
    intro j h
    obtain ⟨o, ho⟩ := h.op
    obtain ⟨e, h1, h2, h3⟩ := (Bt.iff rf ho).1 h
    have hb := rf.back i o e ho h1 h2
    rcases h3 with rfl | h3
    · exact hb
    · have := ih e.on hb h3; omega
theorem Bt.trans {l : List Oper} (rf : RF P n l) : ∀ (i : Nat) {j k : Nat}, Bt l i j → Bt l j k → Bt l i k := by
  intro i
  induction i using Nat.strongRecOn with
  | _ i ih =>
    intro j k h hk
    obtain ⟨o, ho⟩ := h.op
    obtain ⟨e, h1, h2, h3⟩ := (Bt.iff rf ho).1 h
    have hb := rf.back i o e ho h1 h2
    refine (Bt.iff rf ho).2 ⟨e, h1, h2, .inr ?_⟩
    rcases h3 with rfl | h3
    · exact hk
    · exact ih e.on hb h3 hk
end
end Go.Proofs.Ythjnknpgcmmapaa
