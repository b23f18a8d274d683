/-
  Plain: cells by key, rising; what a put does.
-/
import Derived.Test.YthjnknpgcmmapaaApi
import Derived.Test.YthjnknpgcmmapaaKeys
namespace Go.Proofs.Ythjnknpgcmmapaa
set_option linter.unusedVariables false

def SortedC (C : List Cell) : Prop := C.Pairwise (fun a b => a.key < b.key)
def getC (C : List Cell) (k : Int) : Option Cell := C.find? (fun c => decide (c.key = k))
def insC : List Cell → Cell → List Cell
  | [], c => [c]
  | x :: C, c => if x.key < c.key then x :: insC C c else if x.key = c.key then c :: C else c :: x :: C
def cellOf (o : AOp) : Cell := ⟨o.key, o.lsn, o.gone, if o.gone then ⟨#[]⟩ else o.val⟩
def putT (C : List Cell) (o : AOp) : List Cell × Bool := match getC C o.key with
  | some c => if o.lsn < c.lsn then (C, false) else (insC C (cellOf o), true)
  | none => (insC C (cellOf o), true)
def putS (ts : List (List Cell)) (o : AOp) : List (List Cell) × Bool :=
  if o.table < 0 then (ts, false) else match ts[o.table.toNat]? with
  | some C => (ts.set o.table.toNat (putT C o).1, (putT C o).2)
  | none => (ts, false)
def putAll : List (List Cell) → List AOp → List (List Cell) × Nat
  | ts, [] => (ts, 0)
  | ts, o :: l => ((putAll (putS ts o).1 l).1, (if (putS ts o).2 then 1 else 0) + (putAll (putS ts o).1 l).2)
def rowsOf (C : List Cell) : List Row := (C.filter fun c => !c.gone).map fun c => ⟨c.key, c.val⟩

theorem rowsOf_take (C : List Cell) (k : Nat) (h : k < C.length) : rowsOf (C.take (k + 1)) = if C[k].gone then rowsOf (C.take k) else rowsOf (C.take k) ++ [⟨C[k].key, C[k].val⟩] := by
  unfold rowsOf
  rw [List.take_succ_eq_append_getElem h, List.filter_append, List.map_append]
  cases hg : C[k].gone <;> simp [hg]
theorem rowsOf_le (C : List Cell) : (rowsOf C).length ≤ C.length := by unfold rowsOf; rw [List.length_map]; exact List.length_filter_le _ _
theorem mem_insC {C : List Cell} {c x : Cell} (h : x ∈ insC C c) : x = c ∨ x ∈ C := by
  induction C with
  | nil => simpa [insC] using h
  | cons y C ih =>
    unfold insC at h
    split at h
    · rcases List.mem_cons.1 h with rfl | h
      · exact .inr (.head _)
      · rcases ih h with h | h
        · exact .inl h
        · exact .inr (.tail _ h)
    · split at h
      · rcases List.mem_cons.1 h with rfl | h
        · exact .inl rfl
        · exact .inr (.tail _ h)
      · rcases List.mem_cons.1 h with rfl | h
        · exact .inl rfl
        · exact .inr h
theorem sorted_insC {C : List Cell} (h : SortedC C) (c : Cell) : SortedC (insC C c) := by
  unfold SortedC at *
  induction C with
  | nil => simp [insC]
  | cons y C ih =>
    rw [List.pairwise_cons] at h
    unfold insC
    split
    · rename_i hlt
      refine List.pairwise_cons.2 ⟨fun z hz => ?_, ih h.2⟩
      rcases mem_insC hz with rfl | hz
      · exact hlt
      · exact h.1 z hz
    · split
      · rename_i he
        exact List.pairwise_cons.2 ⟨fun z hz => by have := h.1 z hz; omega, h.2⟩
      · rename_i h1 h2
        refine List.pairwise_cons.2 ⟨fun z hz => ?_, List.pairwise_cons.2 h⟩
        rcases List.mem_cons.1 hz with rfl | hz
        · omega
        · have := h.1 z hz; omega
theorem get_insC (C : List Cell) (c : Cell) (k : Int) : getC (insC C c) k = if c.key = k then some c else getC C k := by
  unfold getC
  induction C with
  | nil => by_cases h : c.key = k <;> simp [insC, h]
  | cons y C ih =>
    unfold insC
    split
    · rw [List.find?_cons, List.find?_cons, ih]
      by_cases h1 : y.key = k
      · have : c.key ≠ k := by omega
        simp [h1, this]
      · simp [h1]
    · split
      · rename_i he
        rw [List.find?_cons, List.find?_cons]
        by_cases h1 : c.key = k
        · simp [h1]
        · have : y.key ≠ k := by omega
          simp [h1, this]
      · rw [List.find?_cons]
        by_cases h1 : c.key = k <;> simp [h1]
theorem length_insC (C : List Cell) (c : Cell) : (insC C c).length ≤ C.length + 1 := by
  induction C with
  | nil => simp [insC]
  | cons y C ih =>
    unfold insC
    split
    · simp; omega
    · split <;> simp
theorem getC_key {C : List Cell} {k : Int} {c : Cell} (h : getC C k = some c) : c.key = k ∧ c ∈ C := by
  unfold getC at h
  have h1 := List.find?_some (p := fun c : Cell => decide (c.key = k)) h
  exact ⟨of_decide_eq_true h1, List.mem_of_find?_eq_some h⟩
theorem getC_mem {C : List Cell} (h : SortedC C) {c : Cell} (hc : c ∈ C) : getC C c.key = some c := by
  unfold getC SortedC at *
  induction C with
  | nil => cases hc
  | cons y C ih =>
    rw [List.pairwise_cons] at h
    rcases List.mem_cons.1 hc with rfl | hc
    · simp
    · have := h.1 c hc
      rw [List.find?_cons]
      have hn : ¬ y.key = c.key := by omega
      simp [hn, ih h.2 hc]
theorem putS_at {ts : List (List Cell)} {t : Nat} {o : AOp} (h : o.table = t) (ht : t < ts.length) : putS ts o = (ts.set t (putT ts[t] o).1, (putT ts[t] o).2) := by
  have h0 : ¬ o.table < 0 := by omega
  have h1 : o.table.toNat = t := by omega
  unfold putS
  simp [h0, h1, ht]
theorem putS_len (ts : List (List Cell)) (o : AOp) : (putS ts o).1.length = ts.length := by
  unfold putS
  split
  · rfl
  · split <;> simp
theorem putAll_len (l : List AOp) : ∀ ts, (putAll ts l).1.length = ts.length := by
  induction l with
  | nil => intro ts; rfl
  | cons o l ih => intro ts; simp only [putAll]; rw [ih, putS_len]
theorem putAll_le (l : List AOp) : ∀ ts, (putAll ts l).2 ≤ l.length := by
  induction l with
  | nil => intro ts; simp [putAll]
  | cons o l ih => intro ts; simp only [putAll, List.length_cons]; have := ih (putS ts o).1; split <;> omega
theorem putAll_append (l l' : List AOp) : ∀ ts, putAll ts (l ++ l') = ((putAll (putAll ts l).1 l').1, (putAll ts l).2 + (putAll (putAll ts l).1 l').2) := by
  induction l with
  | nil => intro ts; simp [putAll]
  | cons o l ih => intro ts; simp only [List.cons_append, putAll, ih]; simp only [Nat.add_assoc]
/-- All tables have room for k more. -/
def small (ts : List (List Cell)) (k : Nat) : Prop := ∀ C ∈ ts, C.length + k ≤ 1000000
theorem putT_len (C : List Cell) (o : AOp) : (putT C o).1.length ≤ C.length + 1 := by
  unfold putT
  have := length_insC C (cellOf o)
  split
  · split <;> simp_all
  · exact this
theorem small_put {ts : List (List Cell)} {k : Nat} {o : AOp} (h : small ts (k + 1)) : small (putS ts o).1 k := by
  unfold putS
  split
  · intro C hC; have := h C hC; omega
  · split
    · rename_i C0 h0
      intro C hC
      rcases List.mem_or_eq_of_mem_set hC with hC | rfl
      · have := h C hC; omega
      · have := h C0 (List.mem_of_getElem? h0)
        have := putT_len C0 o
        omega
    · intro C hC; have := h C hC; omega
theorem small_mono {ts : List (List Cell)} {j k : Nat} (h : small ts k) (hj : j ≤ k) : small ts j := fun C hC => by have := h C hC; omega
theorem small_all {l : List AOp} : ∀ {ts : List (List Cell)} {k : Nat}, small ts (k + l.length) → small (putAll ts l).1 k := by
  induction l with
  | nil => intro ts k h; simpa [putAll] using h
  | cons o l ih => intro ts k h; exact ih (small_put (by rw [List.length_cons] at h; rw [Nat.add_assoc]; exact h))
/-- Numbers that are int64s; keys rising. -/
def inI64 (n : Int) : Prop := -9223372036854775808 ≤ n ∧ n ≤ 9223372036854775807
def okC (C : List Cell) : Prop := SortedC C ∧ ∀ c ∈ C, inI64 c.key
def okS (ts : List (List Cell)) : Prop := ∀ C ∈ ts, okC C
theorem okC_put {C : List Cell} {o : AOp} (h : okC C) (ho : inI64 o.key) : okC (putT C o).1 := by
  have hi : okC (insC C (cellOf o)) := ⟨sorted_insC h.1 _, fun c hc => by rcases mem_insC hc with rfl | hc; exact ho; exact h.2 c hc⟩
  unfold putT
  split
  · split
    · exact h
    · exact hi
  · exact hi
theorem okS_put {ts : List (List Cell)} {o : AOp} (h : okS ts) (ho : inI64 o.key) : okS (putS ts o).1 := by
  unfold putS
  split
  · exact h
  · split
    · rename_i C0 h0
      intro C hC
      rcases List.mem_or_eq_of_mem_set hC with hC | rfl
      · exact h C hC
      · exact okC_put (h C0 (List.mem_of_getElem? h0)) ho
    · exact h
theorem okS_all {l : List AOp} : ∀ {ts : List (List Cell)}, okS ts → (∀ o ∈ l, inI64 o.key) → okS (putAll ts l).1 := by
  induction l with
  | nil => intro ts h _; exact h
  | cons o l ih => intro ts h ho; exact ih (okS_put h (ho o (.head _))) (fun o' h' => ho o' (.tail _ h'))

def cellsAt (ts : List (List Cell)) (t : Int) : List Cell := if 0 ≤ t then (ts[t.toNat]?).getD [] else []
theorem cellsAt_small {ts : List (List Cell)} {t : Int} (hs : small ts 0) : (cellsAt ts t).length ≤ 1000000 := by
  unfold cellsAt
  split
  · cases h : ts[t.toNat]? with
    | none => simp
    | some C => simpa using hs C (List.mem_of_getElem? h)
  · simp
/-! ### A map that holds just these cells -/
structure RelM (m : List (Int × Cell)) (C : List Cell) : Prop where
  get : ∀ k, mget m k = getC C k
  nodup : (m.map (·.1)).Nodup
theorem mget_mset {α : Type} (m : List (Int × α)) (k : Int) (v : α) (k' : Int) : mget (mset m k v) k' = if k = k' then some v else mget m k' := by
  induction m with
  | nil => by_cases h : k = k' <;> simp [mset, mget, h]
  | cons p m ih =>
    unfold mset
    split
    · rename_i hp
      by_cases h : k = k'
      · simp [mget, h]
      · have : ¬ p.1 = k' := by omega
        simp [mget, h, this]
    · by_cases h : p.1 = k'
      · have : ¬ k = k' := by omega
        simp [mget, h, this]
      · simp [mget, h, ih]
theorem mem_keys_mset {α : Type} {m : List (Int × α)} {k : Int} {v : α} {x : Int} (h : x ∈ (mset m k v).map (·.1)) : x = k ∨ x ∈ m.map (·.1) := by
  induction m with
  | nil => simpa [mset] using h
  | cons p m ih =>
    unfold mset at h
    split at h
    · simp only [List.map_cons, List.mem_cons] at h ⊢
      rcases h with h | h
      · exact .inl h
      · exact .inr (.inr h)
    · simp only [List.map_cons, List.mem_cons] at h ⊢
      rcases h with h | h
      · exact .inr (.inl h)
      · rcases ih h with h | h
        · exact .inl h
        · exact .inr (.inr h)
theorem nodup_mset {α : Type} {m : List (Int × α)} (h : (m.map (·.1)).Nodup) (k : Int) (v : α) : ((mset m k v).map (·.1)).Nodup := by
  induction m with
  | nil => simp [mset]
  | cons p m ih =>
    rw [List.map_cons, List.nodup_cons] at h
    unfold mset
    split
    · rename_i hp
      rw [List.map_cons, List.nodup_cons]
      exact ⟨by rw [← hp]; exact h.1, h.2⟩
    · rename_i hp
      rw [List.map_cons, List.nodup_cons]
      refine ⟨fun hm => ?_, ih h.2⟩
      rcases mem_keys_mset hm with e | e
      · exact hp e
      · exact h.1 e
theorem mget_some {α : Type} {m : List (Int × α)} {k : Int} : k ∈ m.map (·.1) ↔ ∃ v, mget m k = some v := by
  induction m with
  | nil => simp [mget]
  | cons p m ih =>
    by_cases h : p.1 = k
    · simp [mget, h]
    · have : ¬ k = p.1 := fun e => h e.symm
      simp only [List.map_cons, List.mem_cons, this, false_or, ih, mget, h, if_false]
theorem RelM.put {m : List (Int × Cell)} {C : List Cell} (h : RelM m C) (c : Cell) : RelM (mset m c.key c) (insC C c) :=
  ⟨fun k => by rw [mget_mset, get_insC, h.get], nodup_mset h.nodup _ _⟩
theorem RelM.nil : RelM [] [] := ⟨fun k => rfl, by simp⟩
theorem nodup_keys {C : List Cell} (h : SortedC C) : (C.map (·.key)).Nodup := by
  unfold SortedC at h
  refine List.pairwise_map.2 (h.imp fun hab => ?_)
  omega
theorem RelM.perm {m : List (Int × Cell)} {C : List Cell} (h : RelM m C) (hs : SortedC C) : (m.map (·.1)).Perm (C.map (·.key)) := by
  refine (List.perm_ext_iff_of_nodup h.nodup (nodup_keys hs)).2 fun k => ?_
  rw [mget_some]
  simp only [h.get]
  constructor
  · rintro ⟨c, hc⟩
    obtain ⟨h1, h2⟩ := getC_key hc
    exact List.mem_map.2 ⟨c, h2, h1⟩
  · intro hk
    obtain ⟨c, hc, rfl⟩ := List.mem_map.1 hk
    exact ⟨c, getC_mem hs hc⟩
theorem RelM.skeys {m : List (Int × Cell)} {C : List Cell} (h : RelM m C) (hs : SortedC C) : skeys m = C.map (·.key) := by
  have e : Ythjnknpgcmmapaa.skeys m = (C.map (·.key)).mergeSort (fun x y => decide (x ≤ y)) := Go.mergeSort_of_perm_i (h.perm hs)
  rw [e]
  refine List.mergeSort_of_pairwise ?_
  refine List.pairwise_map.2 (List.Pairwise.imp (R := fun a b : Cell => a.key < b.key) (fun {a b} hab => ?_) hs)
  simp only [decide_eq_true_eq]; omega
theorem RelM.len {m : List (Int × Cell)} {C : List Cell} (h : RelM m C) (hs : SortedC C) : m.length = C.length := by simpa using (h.perm hs).length_eq
theorem RelM.wf {m : List (Int × Cell)} {C : List Cell} (h : RelM m C) (ok : okC C) : ∀ p ∈ m, (Lit.int .i64 p.1).wf = true := fun p hp => by
  have : p.1 ∈ C.map (·.key) := (h.perm ok.1).subset (List.mem_map.2 ⟨p, hp, rfl⟩)
  obtain ⟨c, hc, hk⟩ := List.mem_map.1 this
  have := ok.2 c hc
  rw [hk] at this
  unfold inI64 at this
  have h1 : IntKind.i64.min = -9223372036854775808 := by decide
  have h2 : IntKind.i64.max = 9223372036854775807 := by decide
  simp only [Lit.wf, h1, h2, Bool.and_eq_true, decide_eq_true_eq]
  exact this
end Go.Proofs.Ythjnknpgcmmapaa
