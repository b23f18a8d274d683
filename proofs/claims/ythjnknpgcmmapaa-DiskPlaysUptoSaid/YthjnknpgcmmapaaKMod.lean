/-
  Plain: lists by a key, rising; how many lie ahead of a key; a map that holds just these.
-/
import Derived.Test.YthjnknpgcmmapaaSl5
import Derived.Test.YthjnknpgcmmapaaKeys
namespace Go.Proofs.Ythjnknpgcmmapaa
set_option linter.unusedVariables false

section
variable {α : Type} (key : α → Int)
def SortedK (L : List α) : Prop := L.Pairwise fun a b => key a < key b
/-- How many lie ahead of k. -/
def cntK (L : List α) (k : Int) : Nat := (L.filter fun x => decide (key x < k)).length
variable {key}
theorem cntK_le (L : List α) (k : Int) : cntK key L k ≤ L.length := List.length_filter_le _ _
theorem cntK_lt {L : List α} (hs : SortedK key L) (k : Int) : ∀ j (h : j < L.length), key L[j] < k ↔ j < cntK key L k := by
  unfold SortedK at hs
  unfold cntK
  induction L with
  | nil => intro j h; simp at h
  | cons x L ih =>
    rw [List.pairwise_cons] at hs
    intro j h
    by_cases hx : key x < k
    · rw [List.filter_cons_of_pos (by simpa using hx)]
      cases j with
      | zero => simp [hx]
      | succ j => simpa using ih hs.2 j (by simpa using h)
    · have e : L.filter (fun r => decide (key r < k)) = [] := by
        rw [List.filter_eq_nil_iff]; intro y hy; have := hs.1 y hy; simp; omega
      rw [List.filter_cons_of_neg (by simpa using hx), e]
      cases j with
      | zero => simpa using hx
      | succ j =>
        have hm : L[j]'(by simpa using h) ∈ L := List.getElem_mem _
        have := hs.1 _ hm
        simp; omega
theorem cntK_eq {L : List α} (hs : SortedK key L) (k : Int) {i : Nat} (hi : i ≤ L.length) (h1 : ∀ j (h : j < L.length), j < i → key L[j] < k) (h2 : ∀ h : i < L.length, ¬ key L[i] < k) : cntK key L k = i := by
  have hle := cntK_le (key := key) L k
  rcases Nat.lt_trichotomy (cntK key L k) i with h | h | h
  · have := (cntK_lt hs k _ (by omega)).1 (h1 (cntK key L k) (by omega) h)
    omega
  · exact h
  · have := h2 (by omega)
    have h3 := (cntK_lt hs k i (by omega)).2 h
    exact absurd h3 this
/-- The one at k, if it is there, stands at that place. -/
theorem cntK_at {L : List α} (hs : SortedK key L) {k : Int} {j : Nat} (hj : j < L.length) (h : key L[j] = k) : cntK key L k = j := by
  refine cntK_eq hs k (by omega) (fun i hi hij => ?_) (fun _ => by omega)
  have := List.pairwise_iff_getElem.1 hs i j hi hj hij
  omega
def isK (key : α → Int) (L : List α) (k : Int) : Bool := match L[cntK key L k]? with
  | some x => decide (key x = k)
  | none => false
theorem isK_iff {L : List α} (hs : SortedK key L) {k : Int} : isK key L k = true ↔ ∃ x ∈ L, key x = k := by
  unfold isK
  constructor
  · intro h
    split at h
    · rename_i x e
      exact ⟨x, List.mem_of_getElem? e, of_decide_eq_true h⟩
    · cases h
  · rintro ⟨x, hx, rfl⟩
    obtain ⟨j, hj, rfl⟩ := List.mem_iff_getElem.1 hx
    rw [cntK_at hs hj rfl, List.getElem?_eq_getElem hj]
    simp
theorem isK_true {L : List α} {k : Int} (h : isK key L k = true) : ∃ hl : cntK key L k < L.length, key L[cntK key L k] = k := by
  unfold isK at h
  split at h
  · rename_i x e
    obtain ⟨hl, rfl⟩ := List.getElem?_eq_some_iff.1 e
    exact ⟨hl, of_decide_eq_true h⟩
  · cases h
theorem isK_false {L : List α} (hs : SortedK key L) {k : Int} (h : isK key L k = false) : ∀ x ∈ L, key x ≠ k := fun x hx e => by
  have := (isK_iff hs).2 ⟨x, hx, e⟩
  rw [h] at this; cases this
def getK (key : α → Int) (L : List α) (k : Int) : Option α := if isK key L k then L[cntK key L k]? else none
/-- One more, or one in another's place. -/
def putK (key : α → Int) (L : List α) (x : α) : List α := L.take (cntK key L (key x)) ++ [x] ++ L.drop (if isK key L (key x) then cntK key L (key x) + 1 else cntK key L (key x))
def delK (key : α → Int) (L : List α) (k : Int) : List α := if isK key L k then L.eraseIdx (cntK key L k) else L
theorem putK_is {L : List α} {x : α} (h : isK key L (key x) = true) : putK key L x = L.set (cntK key L (key x)) x := by
  obtain ⟨hl, _⟩ := isK_true h
  unfold putK
  rw [if_pos h, List.set_eq_take_append_cons_drop, if_pos hl]; simp
theorem getK_mem {L : List α} {k : Int} {x : α} (h : getK key L k = some x) : x ∈ L ∧ key x = k := by
  unfold getK at h
  split at h
  · rename_i hi
    obtain ⟨hl, e⟩ := isK_true hi
    rw [List.getElem?_eq_getElem hl] at h
    cases h
    exact ⟨List.getElem_mem hl, e⟩
  · cases h
theorem getK_of {L : List α} (hs : SortedK key L) {x : α} (h : x ∈ L) : getK key L (key x) = some x := by
  unfold getK
  rw [if_pos ((isK_iff hs).2 ⟨x, h, rfl⟩)]
  obtain ⟨j, hj, rfl⟩ := List.mem_iff_getElem.1 h
  rw [cntK_at hs hj rfl, List.getElem?_eq_getElem hj]
theorem getK_none {L : List α} (hs : SortedK key L) {k : Int} : getK key L k = none ↔ ∀ x ∈ L, key x ≠ k := by
  constructor
  · intro h x hx e
    subst e
    rw [getK_of hs hx] at h; cases h
  · intro h
    cases hg : getK key L k with
    | none => rfl
    | some x => obtain ⟨h1, h2⟩ := getK_mem hg; exact absurd h2 (h x h1)
theorem sorted_set {L : List α} (hs : SortedK key L) {i : Nat} (hi : i < L.length) {x : α} (hx : key x = key L[i]) : SortedK key (L.set i x) := by
  unfold SortedK at *
  rw [List.pairwise_iff_getElem] at *
  intro a b ha hb hab
  rw [List.length_set] at ha hb
  rw [List.getElem_set, List.getElem_set]
  have h1 := hs a b ha hb hab
  split <;> split
  · omega
  · rename_i e _; subst e; omega
  · rename_i e; subst e; omega
  · exact h1
theorem putK_perm {L : List α} (hs : SortedK key L) {x : α} (h : isK key L (key x) = false) : (putK key L x).Perm (x :: L) := by
  unfold putK
  rw [if_neg (by rw [h]; decide)]
  have : L = L.take (cntK key L (key x)) ++ L.drop (cntK key L (key x)) := by simp
  conv => rhs; rw [this]
  rw [List.append_assoc]
  exact List.perm_middle
theorem putK_sorted {L : List α} (hs : SortedK key L) (x : α) : SortedK key (putK key L x) := by
  cases h : isK key L (key x) with
  | true =>
    rw [putK_is h]
    obtain ⟨hl, e⟩ := isK_true h
    exact sorted_set hs hl e.symm
  | false =>
    have hn := isK_false hs h
    unfold putK
    rw [if_neg (by rw [h]; decide)]
    have hlt := cntK_lt hs (key x)
    have hle := cntK_le (key := key) L (key x)
    unfold SortedK at *
    rw [List.append_assoc, List.pairwise_append]
    refine ⟨hs.sublist (List.take_sublist _ _), ?_, fun a ha b hb => ?_⟩
    · rw [List.singleton_append, List.pairwise_cons]
      refine ⟨fun b hb => ?_, hs.sublist (List.drop_sublist _ _)⟩
      obtain ⟨j, hj, rfl⟩ := List.mem_iff_getElem.1 hb
      rw [List.getElem_drop]
      have hj2 : cntK key L (key x) + j < L.length := by simp at hj; omega
      have h1 := (not_congr (hlt _ hj2)).2 (by omega)
      have h2 := hn _ (List.getElem_mem hj2)
      omega
    · obtain ⟨j, hj, rfl⟩ := List.mem_iff_getElem.1 ha
      rw [List.getElem_take]
      have hj2 : j < cntK key L (key x) ∧ j < L.length := by simp at hj; omega
      have h1 := (hlt j hj2.2).2 hj2.1
      rcases List.mem_append.1 hb with hb | hb
      · simp at hb; subst hb; exact h1
      · obtain ⟨i, hi, rfl⟩ := List.mem_iff_getElem.1 hb
        rw [List.getElem_drop]
        have hi2 : cntK key L (key x) + i < L.length := by simp at hi; omega
        have h3 := (not_congr (hlt _ hi2)).2 (by omega)
        omega
theorem delK_sorted {L : List α} (hs : SortedK key L) (k : Int) : SortedK key (delK key L k) := by
  unfold delK
  split
  · exact hs.sublist (List.eraseIdx_sublist _ _)
  · exact hs
theorem nodupK {L : List α} (hs : SortedK key L) : (L.map key).Nodup := by
  refine List.pairwise_map.2 (List.Pairwise.imp (R := fun a b => key a < key b) (fun {a b} hab => ?_) hs)
  omega
theorem delK_filter {L : List α} (hs : SortedK key L) (k : Int) : delK key L k = L.filter fun x => decide (key x ≠ k) := by
  unfold delK
  split
  · rename_i h
    obtain ⟨hl, e⟩ := isK_true h
    generalize cntK key L k = i at *
    have hs' := hs
    unfold SortedK at hs'
    clear h hs
    induction L generalizing i with
    | nil => simp at hl
    | cons y L ih =>
      rw [List.pairwise_cons] at hs'
      cases i with
      | zero =>
        simp only [List.getElem_cons_zero] at e
        rw [List.eraseIdx_cons_zero, List.filter_cons_of_neg (by simp [e])]
        symm
        rw [List.filter_eq_self]
        intro z hz
        have := hs'.1 z hz
        simp; omega
      | succ i =>
        have hl' : i < L.length := by simpa using hl
        have e' : key L[i] = k := by simpa using e
        have := hs'.1 _ (List.getElem_mem hl')
        rw [List.eraseIdx_cons_succ, List.filter_cons_of_pos (by simp; omega), ih i hl' e' hs'.2]
  · rename_i h
    have hn := isK_false hs (by simpa using h)
    symm
    rw [List.filter_eq_self]
    intro x hx; simpa using hn x hx
theorem cntK_map {β : Type} {kb : β → Int} {f : β → α} (hf : ∀ b, key (f b) = kb b) (L : List β) (k : Int) : cntK key (L.map f) k = cntK kb L k := by
  unfold cntK
  rw [List.filter_map, List.length_map]
  congr 2
  funext b
  simp [hf]
theorem sorted_map {β : Type} {kb : β → Int} {f : β → α} (hf : ∀ b, key (f b) = kb b) {L : List β} : SortedK key (L.map f) ↔ SortedK kb L := by
  unfold SortedK
  rw [List.pairwise_map]
  simp only [hf]
theorem isK_map {β : Type} {kb : β → Int} {f : β → α} (hf : ∀ b, key (f b) = kb b) (L : List β) (k : Int) : isK key (L.map f) k = isK kb L k := by
  unfold isK
  rw [cntK_map hf, List.getElem?_map]
  cases L[cntK kb L k]? with
  | none => rfl
  | some b => simp [hf]
theorem putK_map {β : Type} {kb : β → Int} {f : β → α} (hf : ∀ b, key (f b) = kb b) (L : List β) (b : β) : (putK kb L b).map f = putK key (L.map f) (f b) := by
  unfold putK
  rw [isK_map hf, cntK_map hf, hf]
  simp
theorem map_erase {α β : Type} (f : β → α) : ∀ (L : List β) (i : Nat), (L.eraseIdx i).map f = (L.map f).eraseIdx i
  | [], _ => rfl
  | x :: L, 0 => rfl
  | x :: L, i + 1 => by simp only [List.eraseIdx_cons_succ, List.map_cons, map_erase f L i]
theorem delK_map {β : Type} {kb : β → Int} {f : β → α} (hf : ∀ b, key (f b) = kb b) (L : List β) (k : Int) : (delK kb L k).map f = delK key (L.map f) k := by
  unfold delK
  rw [isK_map hf, cntK_map hf]
  split
  · exact map_erase f L _
  · rfl
theorem putK_len (L : List α) (x : α) : (putK key L x).length ≤ L.length + 1 := by
  have := cntK_le (key := key) L (key x)
  unfold putK
  simp only [List.length_append, List.length_take, List.length_drop, List.length_singleton]
  split <;> omega
theorem delK_len (L : List α) (k : Int) : (delK key L k).length ≤ L.length := by
  unfold delK
  split
  · rw [List.length_eraseIdx]; split <;> omega
  · omega
theorem mem_putK {L : List α} {x y : α} (h : y ∈ putK key L x) : y = x ∨ y ∈ L := by
  unfold putK at h
  rcases List.mem_append.1 h with h | h
  · rcases List.mem_append.1 h with h | h
    · exact .inr (List.mem_of_mem_take h)
    · exact .inl (by simpa using h)
  · exact .inr (List.mem_of_mem_drop h)
theorem mem_delK {L : List α} {k : Int} {y : α} (h : y ∈ delK key L k) : y ∈ L := by
  unfold delK at h
  split at h
  · exact List.mem_of_mem_eraseIdx h
  · exact h
end

/-! ### A map whose entries are just those of a list -/
section
variable {α β : Type} {key : α → Int} {val : α → β} {m : List (Int × β)} {L : List α}
/-- The map m holds, of each of L, its key and its value. -/
def RelM (key : α → Int) (val : α → β) (m : List (Int × β)) (L : List α) : Prop := m.Perm (L.map fun x => (key x, val x)) ∧ SortedK key L
theorem RelM.nodup (h : RelM key val m L) : (m.map (·.1)).Nodup := by
  have := h.1.map (·.1)
  rw [List.map_map] at this
  exact this.nodup_iff.2 (nodupK h.2)
theorem mget_iff (hn : (m.map (·.1)).Nodup) (k : Int) (v : β) : mget m k = some v ↔ (k, v) ∈ m := by
  induction m with
  | nil => simp [mget]
  | cons p m ih =>
    rw [List.map_cons, List.nodup_cons] at hn
    obtain ⟨a, b⟩ := p
    by_cases ha : a = k
    · subst ha
      simp only [mget, if_true, Option.some.injEq, List.mem_cons, Prod.mk.injEq, true_and]
      constructor
      · rintro rfl; exact .inl rfl
      · rintro (h | h)
        · exact h.symm
        · exact absurd (List.mem_map.2 ⟨_, h, rfl⟩) hn.1
    · have ih' := ih hn.2
      have hne : ¬ (k = a) := fun e => ha e.symm
      simp only [mget, ha, if_false, ih', List.mem_cons, Prod.mk.injEq, hne, false_and, false_or]
theorem RelM.get (h : RelM key val m L) (k : Int) : mget m k = (getK key L k).map val := by
  cases hg : getK key L k with
  | some x =>
    obtain ⟨hx, rfl⟩ := getK_mem hg
    exact (mget_iff h.nodup _ _).2 (h.1.symm.subset (List.mem_map.2 ⟨x, hx, rfl⟩))
  | none =>
    cases hm : mget m k with
    | none => rfl
    | some v =>
      obtain ⟨x, hx, e⟩ := List.mem_map.1 (h.1.subset ((mget_iff h.nodup _ _).1 hm))
      cases e
      exact absurd rfl ((getK_none h.2).1 hg x hx)
theorem mdel_filter (hn : (m.map (·.1)).Nodup) (k : Int) : mdel m k = m.filter fun p => decide (p.1 ≠ k) := by
  induction m with
  | nil => rfl
  | cons p m ih =>
    rw [List.map_cons, List.nodup_cons] at hn
    unfold mdel
    split
    · rename_i e
      rw [List.filter_cons_of_neg (by simp [e])]
      symm
      rw [List.filter_eq_self]
      intro q hq
      have : q.1 ≠ p.1 := fun e2 => hn.1 (by rw [← e2]; exact List.mem_map.2 ⟨q, hq, rfl⟩)
      simp; omega
    · rename_i e
      rw [List.filter_cons_of_pos (by simpa using e), ih hn.2]
theorem RelM.del (h : RelM key val m L) (k : Int) : RelM key val (mdel m k) (delK key L k) := by
  refine ⟨?_, delK_sorted h.2 k⟩
  rw [mdel_filter h.nodup, delK_filter h.2]
  have := h.1.filter fun p => decide (p.1 ≠ k)
  rwa [List.filter_map] at this
theorem mset_new {k : Int} (hn : mget m k = none) (v : β) : mset m k v = m ++ [(k, v)] := by
  induction m with
  | nil => rfl
  | cons p m ih =>
    unfold mget at hn
    split at hn
    · cases hn
    · rename_i e
      unfold mset
      rw [if_neg e, ih hn]; rfl
theorem RelM.add (h : RelM key val m L) {x : α} (hn : isK key L (key x) = false) : RelM key val (mset m (key x) (val x)) (putK key L x) := by
  refine ⟨?_, putK_sorted h.2 x⟩
  have hg : getK key L (key x) = none := (getK_none h.2).2 (isK_false h.2 hn)
  rw [mset_new (by rw [h.get, hg]; rfl)]
  have h1 := (putK_perm h.2 hn).map fun x => (key x, val x)
  refine (List.perm_append_comm.trans ?_).trans h1.symm
  rw [List.map_cons]
  exact h.1.cons _
/-- One of L turns, its key and value do not. -/
theorem RelM.upd (h : RelM key val m L) {i : Nat} (hi : i < L.length) {x : α} (h1 : key x = key L[i]) (h2 : val x = val L[i]) : RelM key val m (L.set i x) := by
  refine ⟨?_, sorted_set h.2 hi h1⟩
  have e : (L.set i x).map (fun x => (key x, val x)) = L.map fun x => (key x, val x) := by
    rw [List.map_set, h1, h2]
    refine List.ext_getElem? fun j => ?_
    rw [List.getElem?_set]
    split
    · rename_i hij; subst hij
      rw [if_pos (by simpa using hi), List.getElem?_map, List.getElem?_eq_getElem hi]; rfl
    · rfl
  rw [e]; exact h.1
theorem RelM.skeys (h : RelM key val m L) : skeys m = L.map key := by
  have hp : (m.map (·.1)).Perm (L.map key) := by
    have := h.1.map (·.1)
    rwa [List.map_map] at this
  have e : Ythjnknpgcmmapaa.skeys m = (L.map key).mergeSort (fun x y => decide (x ≤ y)) := Go.mergeSort_of_perm_i hp
  rw [e]
  refine List.mergeSort_of_pairwise ?_
  refine List.pairwise_map.2 (List.Pairwise.imp (R := fun a b : α => key a < key b) (fun {a b} hab => ?_) h.2)
  simp only [decide_eq_true_eq]; omega
theorem RelM.len (h : RelM key val m L) : m.length = L.length := by simpa using h.1.length_eq
theorem RelM.nil : RelM key val [] [] := ⟨.refl _, .nil⟩
end
end Go.Proofs.Ythjnknpgcmmapaa
