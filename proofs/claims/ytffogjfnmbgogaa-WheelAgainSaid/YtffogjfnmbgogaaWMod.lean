/-
  Plain: timers.
-/
import Derived.Test.YtffogjfnmbgogaaSl7
import Derived.Test.YtffogjfnmbgogaaModS
namespace Go.Proofs.Ytffogjfnmbgogaa
set_option linter.unusedVariables false

structure Tm where
  id : Int
  when : Int
deriving DecidableEq
instance : Inhabited Tm := ⟨⟨0, 0⟩⟩
def encTm (t : Tm) : List Value := [.int .i64 t.id, .int .i64 t.when]
theorem encTm_len (t : Tm) : (encTm t).length = 2 := rfl
theorem encTm_one (t : Tm) : ∀ v ∈ encTm t, v.oneCell' = true := by simp [encTm, Value.oneCell']
def clk (x : Int) : Int := min (max x 0) 1125899906842624
def tmLt (a b : Tm) : Prop := a.when < b.when ∨ (a.when = b.when ∧ a.id < b.id)
def keepT (L : List Tm) (id : Int) : List Tm := L.filter fun t => decide (t.id ≠ id)

theorem erase_filter : ∀ (l : List Tm) (i : Nat) (id : Int), (l.map (·.id)).Nodup → (∃ h : i < l.length, l[i].id = id) → keepT l id = l.eraseIdx i
  | [], i, id, _, ⟨h, _⟩ => by simp at h
  | x :: l, 0, id, hn, ⟨_, he⟩ => by
    simp only [List.getElem_cons_zero] at he
    rw [List.map_cons, List.nodup_cons] at hn
    unfold keepT
    rw [List.filter_cons_of_neg (by simpa using he), List.eraseIdx_cons_zero, List.filter_eq_self]
    intro y hy
    have : y.id ≠ x.id := fun e => hn.1 (e ▸ List.mem_map.2 ⟨y, hy, rfl⟩)
    simpa [he] using this
  | x :: l, i + 1, id, hn, ⟨h, he⟩ => by
    rw [List.map_cons, List.nodup_cons] at hn
    have hl : i < l.length := by simpa using h
    have he' : l[i].id = id := by simpa using he
    have hx : x.id ≠ id := fun e => hn.1 (by rw [e, ← he']; exact List.mem_map.2 ⟨_, List.getElem_mem hl, rfl⟩)
    have ih := erase_filter l i id hn.2 ⟨hl, he'⟩
    unfold keepT at ih ⊢
    rw [List.filter_cons_of_pos (by simpa using hx), List.eraseIdx_cons_succ, ih]
theorem keep_none {l : List Tm} {id : Int} (h : ∀ t ∈ l, t.id ≠ id) : keepT l id = l := by
  unfold keepT
  rw [List.filter_eq_self]
  intro t ht; simpa using h t ht
theorem keep_perm {l l' : List Tm} (h : l.Perm l') (id : Int) : (keepT l id).Perm (keepT l' id) := h.filter _
theorem keep_nodup {l : List Tm} (h : (l.map (·.id)).Nodup) (id : Int) : ((keepT l id).map (·.id)).Nodup := h.sublist (List.filter_sublist.map _)
theorem keep_mem {l : List Tm} {id : Int} {t : Tm} : t ∈ keepT l id ↔ t ∈ l ∧ t.id ≠ id := by unfold keepT; rw [List.mem_filter]; simp
/-- One of many rows is another one. -/
theorem flat_set {α β : Type} (f : α → List β) : ∀ (xs : List α) (s : Nat) (h : s < xs.length) (y : α), ∃ R, (xs.flatMap f).Perm (f xs[s] ++ R) ∧ ((xs.set s y).flatMap f).Perm (f y ++ R)
  | [], s, h, y => by simp at h
  | x :: xs, 0, h, y => ⟨xs.flatMap f, by simp, by simp⟩
  | x :: xs, s + 1, h, y => by
    obtain ⟨R, h1, h2⟩ := flat_set f xs s (by simpa using h) y
    refine ⟨f x ++ R, ?_, ?_⟩
    · simp only [List.flatMap_cons, List.getElem_cons_succ]
      refine (h1.append_left _).trans ?_
      rw [← List.append_assoc, ← List.append_assoc]
      exact List.perm_append_comm.append_right _
    · simp only [List.set_cons_succ, List.flatMap_cons]
      refine (h2.append_left _).trans ?_
      rw [← List.append_assoc, ← List.append_assoc]
      exact List.perm_append_comm.append_right _
/-- The spokes xs hold the timers L. -/
structure Spk (xs : List (Value × List Tm)) (L : List Tm) : Prop where
  len : xs.length = 16
  at_ : ∀ s (h : s < xs.length), ∀ t ∈ xs[s].2, md t.id 16 = s
  perm : (xs.flatMap (·.2)).Perm L
  nodup : (L.map (·.id)).Nodup
theorem Spk.sub {xs : List (Value × List Tm)} {L : List Tm} (h : Spk xs L) (s : Nat) (hs : s < xs.length) : (xs[s].2.map (·.id)).Nodup ∧ ∀ t ∈ xs[s].2, t ∈ L := by
  obtain ⟨R, h1, _⟩ := flat_set (·.2) xs s hs xs[s]
  have hp := h1.symm.trans h.perm
  have hn := (hp.map (·.id)).nodup_iff.2 h.nodup
  rw [List.map_append] at hn
  exact ⟨(List.nodup_append.1 hn).1, fun t ht => hp.subset (List.mem_append.2 (.inl ht))⟩
/-- A timer lies in its own spoke. -/
theorem Spk.mem {xs : List (Value × List Tm)} {L : List Tm} (h : Spk xs L) {t : Tm} (ht : t ∈ L) : ∃ hs : md t.id 16 < xs.length, t ∈ xs[md t.id 16].2 := by
  have := h.perm.symm.subset ht
  obtain ⟨x, hx, htx⟩ := List.mem_flatMap.1 this
  obtain ⟨s, hs, rfl⟩ := List.mem_iff_getElem.1 hx
  have e := h.at_ s hs t htx
  subst e
  exact ⟨hs, htx⟩
theorem Spk.swap {xs : List (Value × List Tm)} {L L' : List Tm} (h : Spk xs L) (p : L.Perm L') : Spk xs L' := ⟨h.len, h.at_, h.perm.trans p, (p.map _).nodup_iff.1 h.nodup⟩
theorem Spk.del {xs : List (Value × List Tm)} {L : List Tm} (h : Spk xs L) {id : Int} {i : Nat} (hs : md id 16 < xs.length) (hi : i < (xs[md id 16].2).length) (he : (xs[md id 16].2)[i].id = id) (v : Value) :
    Spk (xs.set (md id 16) (v, (xs[md id 16].2).eraseIdx i)) (keepT L id) := by
  obtain ⟨hn, hsub⟩ := h.sub _ hs
  have e := erase_filter _ i id hn ⟨hi, he⟩
  refine ⟨by simpa using h.len, fun s hs' t ht => ?_, ?_, keep_nodup h.nodup id⟩
  · rw [List.getElem_set] at ht
    split at ht
    · rename_i es; subst es
      exact h.at_ _ hs t (List.mem_of_mem_eraseIdx ht)
    · exact h.at_ s (by simpa using hs') t ht
  · obtain ⟨R, h1, h2⟩ := flat_set (·.2) xs (md id 16) hs (v, (xs[md id 16].2).eraseIdx i)
    refine h2.trans ?_
    simp only
    rw [← e]
    have h3 := keep_perm (h1.symm.trans h.perm) id
    unfold keepT at h3 ⊢
    rw [List.filter_append] at h3
    have hR : R.filter (fun t => decide (t.id ≠ id)) = R := by
      rw [List.filter_eq_self]
      intro t ht
      have hn2 := ((h1.symm.trans h.perm).map (·.id)).nodup_iff.2 h.nodup
      rw [List.map_append, List.nodup_append] at hn2
      have := hn2.2.2 id (List.mem_map.2 ⟨_, List.getElem_mem hi, he⟩) t.id (List.mem_map.2 ⟨t, ht, rfl⟩)
      simpa using fun e => this e.symm
    rw [hR] at h3
    exact h3
theorem Spk.gone {xs : List (Value × List Tm)} {L : List Tm} (h : Spk xs L) {id : Int} (hs : md id 16 < xs.length) (hn : ∀ t ∈ xs[md id 16].2, t.id ≠ id) : ∀ t ∈ L, t.id ≠ id := fun t ht e => by
  obtain ⟨_, hm⟩ := h.mem ht
  subst e
  exact hn t hm rfl
theorem Spk.put {xs : List (Value × List Tm)} {L : List Tm} (h : Spk xs L) {t : Tm} (hs : md t.id 16 < xs.length) (hn : ∀ x ∈ L, x.id ≠ t.id) (v : Value) :
    Spk (xs.set (md t.id 16) (v, xs[md t.id 16].2 ++ [t])) (t :: L) := by
  refine ⟨by simpa using h.len, fun s hs' x hx => ?_, ?_, ?_⟩
  · rw [List.getElem_set] at hx
    split at hx
    · rename_i es; subst es
      rcases List.mem_append.1 hx with hx | hx
      · exact h.at_ _ hs x hx
      · simp at hx; subst hx; rfl
    · exact h.at_ s (by simpa using hs') x hx
  · obtain ⟨R, h1, h2⟩ := flat_set (·.2) xs (md t.id 16) hs (v, xs[md t.id 16].2 ++ [t])
    refine h2.trans ?_
    simp only [List.append_assoc, List.singleton_append]
    refine List.perm_middle.trans ?_
    exact (h1.symm.trans h.perm).cons _
  · rw [List.map_cons, List.nodup_cons]
    refine ⟨fun hm => ?_, h.nodup⟩
    obtain ⟨x, hx, e⟩ := List.mem_map.1 hm
    exact hn x hx e
theorem find_id {l : List Tm} {id : Int} {i : Nat} (h : l.findIdx? (fun t => decide (t.id = id)) = some i) : ∃ hi : i < l.length, l[i].id = id := by
  obtain ⟨hi, h1, _⟩ := List.findIdx?_eq_some_iff_getElem.1 h
  exact ⟨hi, by simpa using h1⟩
theorem find_no {l : List Tm} {id : Int} (h : l.findIdx? (fun t => decide (t.id = id)) = none) : ∀ t ∈ l, t.id ≠ id := fun t ht => by
  have := List.findIdx?_eq_none_iff.1 h t ht
  simpa using this
/-- When a number's timer goes. -/
def whenT (L : List Tm) (id : Int) : Option Int := (L.find? fun t => decide (t.id = id)).map (·.when)
theorem whenT_mem {L : List Tm} (hn : (L.map (·.id)).Nodup) {t : Tm} (ht : t ∈ L) : whenT L t.id = some t.when := by
  unfold whenT
  induction L with
  | nil => cases ht
  | cons x L ih =>
    rw [List.map_cons, List.nodup_cons] at hn
    rcases List.mem_cons.1 ht with rfl | ht
    · simp
    · have hx : ¬ x.id = t.id := fun e => hn.1 (by rw [e]; exact List.mem_map.2 ⟨t, ht, rfl⟩)
      rw [List.find?_cons_of_neg (by simpa using hx)]
      exact ih hn.2 ht
theorem whenT_none {L : List Tm} {id : Int} (h : ∀ t ∈ L, t.id ≠ id) : whenT L id = none := by
  unfold whenT
  rw [Option.map_eq_none_iff, List.find?_eq_none]
  intro t ht; simpa using h t ht
theorem any_id {L : List Tm} {id : Int} : (∃ t ∈ L, t.id = id) ∨ ∀ t ∈ L, t.id ≠ id := by
  by_cases h : ∃ t ∈ L, t.id = id
  · exact .inl h
  · exact .inr fun t ht e => h ⟨t, ht, e⟩
end Go.Proofs.Ytffogjfnmbgogaa
