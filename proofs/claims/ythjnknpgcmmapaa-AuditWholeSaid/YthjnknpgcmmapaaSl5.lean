/-
  My own library: many objects alike; more steps over slices.
-/
import Derived.Test.YthjnknpgcmmapaaApi
namespace Go.Proofs.Ythjnknpgcmmapaa
set_option linter.unusedVariables false
open Go.RowKit

theorem perm_eraseIdx {α : Type} : ∀ (xs : List α) (t : Nat) (x : α), xs[t]? = some x → xs.Perm (x :: xs.eraseIdx t)
  | [], t, x, h => by simp at h
  | y :: xs, 0, x, h => by simp at h; subst h; exact .refl _
  | y :: xs, t + 1, x, h => ((perm_eraseIdx xs t x (by simpa using h)).cons y).trans (.swap _ _ _)
/-- An object for each of a row. -/
def HAll {α : Type} (A : α → HProp) (xs : List α) : HProp := star (xs.map fun x => .ob (A x))
section
variable {W w : World} {l l' : List Chunk} {α : Type} {A : α → HProp} {xs : List α}
theorem HAll.iff : SL W (.ob (HAll A xs) :: l) w ↔ SL W ((xs.map fun x => Chunk.ob (A x)) ++ l) w :=
  ⟨fun h => h.conv (fun _ s => s), fun h => h.fold (fun _ s => s)⟩
theorem HAll.take {t : Nat} {x : α} (h : SL W (.ob (HAll A xs) :: l) w) (hx : xs[t]? = some x) : SL W (.ob (A x) :: .ob (HAll A (xs.eraseIdx t)) :: l) w := by
  have h1 := HAll.iff.1 h
  have p : (xs.map fun x => Chunk.ob (A x)).Perm (.ob (A x) :: (xs.eraseIdx t).map fun x => Chunk.ob (A x)) := by
    exact (perm_eraseIdx xs t x hx).map fun x => Chunk.ob (A x)
  have h2 := h1.perm (p.append_right l)
  have h3 := h2.perm (l' := ((xs.eraseIdx t).map fun x => Chunk.ob (A x)) ++ (.ob (A x) :: l)) (by simpa using List.perm_middle.symm)
  exact (HAll.iff.2 h3).perm (.swap _ _ _)
theorem HAll.put {t : Nat} {y : α} (h : SL W (.ob (A y) :: .ob (HAll A (xs.eraseIdx t)) :: l) w) (ht : t < xs.length) : SL W (.ob (HAll A (xs.set t y)) :: l) w := by
  refine HAll.iff.2 ?_
  have h1 := HAll.iff.1 (h.perm (.swap _ _ _))
  have p : (.ob (A y) :: (xs.eraseIdx t).map fun x => Chunk.ob (A x)).Perm ((xs.set t y).map fun x => Chunk.ob (A x)) := by
    have := (perm_eraseIdx (xs.set t y) t y (by simp [ht])).symm.map fun x => Chunk.ob (A x)
    rw [List.eraseIdx_set_eq] at this
    exact this
  refine h1.perm ?_
  refine (List.perm_middle).trans ?_
  exact p.append_right l
theorem HAll.nil (h : SL W l w) : SL W (.ob (HAll A []) :: l) w := HAll.iff.2 h
theorem HAll.snoc {x : α} (h : SL W (.ob (HAll A xs) :: .ob (A x) :: l) w) : SL W (.ob (HAll A (xs ++ [x])) :: l) w := by
  refine HAll.iff.2 ?_
  have h1 := HAll.iff.1 h
  simpa using h1

theorem OwnSl.one {v : Value} {t : TypeId} {sz n : Nat} {cells : List Value} (h : SL W (.ob (OwnSl v t sz n cells) :: l) w) : v.oneCell' = true := by
  rcases OwnSl.open h with ⟨⟨a, rfl⟩, _⟩ | ⟨b, cap, rest, rfl, _⟩ <;> rfl
theorem Has.front {c : Chunk} (h : SL W l w) {l2 : List Chunk} (r : Rem c l l2) : SL W (c :: l2) w := h.perm r.perm
theorem s_mapMk {κ α : Type} {key : κ → Value} {val : α → Value} {p : Nat → World → Prop} (hS : SL W l w) (h : ∀ b w', SL W (.ob (MapO key val b []) :: l) w' → p b w') : p w.heap.size (w.alloc (.map #[] 0)) := h _ _ hS.mapNew
theorem s_freeze {H : Heap} {v : Value} {t : TypeId} {sz n : Nat} {cells : List Value} {F : List Chunk} (hS : SL W l w) (hp : Pick [.mem H, .ob (OwnSl v t sz n cells)] l F) : ∃ H', H.le H' ∧ RdSl H' sz v n cells ∧ SL W (.mem H' :: F) w := OwnSl.freeze (hS.pick hp)
/-- Memory that is not written any more: at first none. -/
theorem SL.memNil (h : SL W l w) : SL W (.mem Heap.emp :: l) w :=
  ⟨h.os, h.tape, h.output, let ⟨k, s, m⟩ := h.out; ⟨k, ⟨Heap.emp, k, Sep.emp k, rfl, s⟩, m⟩⟩
theorem Has.rem {c : Chunk} (h : Has c l) : ∃ l2, Rem c l l2 := by
  induction h with
  | hd => exact ⟨_, .hd⟩
  | tl _ ih => obtain ⟨l2, r⟩ := ih; exact ⟨_, .tl r⟩
theorem OwnSl.at {v : Value} {t : TypeId} {sz n : Nat} {cells : List Value} (h : SL W l w) (m : Has (.ob (OwnSl v t sz n cells)) l) :
    ∃ a cap, v = .slice a n cap ∧ cells.length = n * sz ∧ ∀ j, j < n → ∃ b, a = some ⟨b, 0, none⟩ ∧ ∀ i u, cells[i]? = some u → w.cell? ⟨b, i, none⟩ = some u := by
  obtain ⟨l2, r⟩ := m.rem
  rcases OwnSl.open (h.perm r.perm) with ⟨⟨a, rfl⟩, rfl, rfl, _⟩ | ⟨b, cap, rest, rfl, hc, hl, hr, h2⟩
  · exact ⟨a, 0, rfl, by simp, fun j hj => by omega⟩
  · exact ⟨_, cap, rfl, hl, fun j hj => ⟨b, rfl, fun i u hu => h2.cell .hd (by rw [List.getElem?_append_left (List.getElem?_eq_some_iff.1 hu).1]; exact hu)⟩⟩
theorem s_lenO {v : Value} {t : TypeId} {sz n : Nat} {cells : List Value} {K : Value → Prop} (h : SL W l w) (m : Has (.ob (OwnSl v t sz n cells)) l) (k : K (.int .i64 n)) : HLenS v K := by
  obtain ⟨a, cap, rfl, _⟩ := OwnSl.at h m
  exact s_lenS k
theorem s_get1O {v u : Value} {t : TypeId} {n j : Nat} {k : IntKind} {cells : List Value} {K : Value → Prop} (h : SL W l w) (m : Has (.ob (OwnSl v t 1 n cells)) l) (hj : j < n) (hu : cells[j]? = some u) (hK : K u) :
    HIdx 1 v (.int k (j : Int)) fun p => HLd p w K := by
  obtain ⟨a, cap, rfl, _, h2⟩ := OwnSl.at h m
  obtain ⟨b, rfl, h3⟩ := h2 j hj
  refine s_idx hj ⟨_, u, rfl, h3 _ u ?_, hK⟩
  rw [Nat.zero_add, Nat.mul_one]; exact hu
theorem s_getNO {α : Type} {enc : α → List Value} {v : Value} {t : TypeId} {n sz j : Nat} {k : IntKind} {xs : List α} {x : α} {K : Value → Prop} (h : SL W l w) (m : Has (.ob (OwnSl v t sz n (xs.map enc).flatten)) l) (hn : ∀ x, (enc x).length = sz) (hx : xs[j]? = some x) (hj : j < n) (hK : K (agg (enc x))) :
    HIdx sz v (.int k (j : Int)) fun p => HLdN sz p w K := by
  obtain ⟨a, cap, rfl, _, h2⟩ := OwnSl.at h m
  obtain ⟨b, rfl, h3⟩ := h2 j hj
  refine s_idx hj ⟨_, enc x, rfl, hn x, fun i u hu => ?_, hK⟩
  rw [Addr.add_lit, Nat.zero_add]
  exact h3 _ u (flat_at hn xs j i x u hx hu)
theorem s_getFO {α : Type} {enc : α → List Value} {v u : Value} {t : TypeId} {n sz j i : Nat} {k : IntKind} {xs : List α} {x : α} {K : Value → Prop} (h : SL W l w) (m : Has (.ob (OwnSl v t sz n (xs.map enc).flatten)) l) (hn : ∀ x, (enc x).length = sz) (hx : xs[j]? = some x) (hj : j < n) (hu : (enc x)[i]? = some u) (hK : K u) :
    HIdx sz v (.int k (j : Int)) fun p => HFld i p fun q => HLd q w K := by
  obtain ⟨a, cap, rfl, _, h2⟩ := OwnSl.at h m
  obtain ⟨b, rfl, h3⟩ := h2 j hj
  refine s_idx hj (s_fld ⟨_, u, rfl, ?_, hK⟩)
  rw [Nat.zero_add]
  exact h3 _ u (flat_at hn xs j i x u hx hu)
theorem src_own {v : Value} {t : TypeId} {sz n : Nat} {cells : List Value} (h : SL W l w) (m : Has (.ob (OwnSl v t sz n cells)) l) : srcCells w sz v n cells := by
  obtain ⟨a, cap, rfl, h1, h2⟩ := OwnSl.at h m
  rcases Nat.eq_zero_or_pos n with rfl | hn
  · have : cells = [] := List.eq_nil_of_length_eq_zero (by simpa using h1)
    subst this
    cases a with
    | none => exact ⟨rfl, rfl⟩
    | some p => exact ⟨rfl, by simp, fun j v e => by simp at e⟩
  · obtain ⟨b, rfl, h3⟩ := h2 0 hn
    exact ⟨rfl, h1, fun j v e => by rw [Addr.add_lit, Nat.zero_add]; exact h3 j v e⟩
/-- A row without its last elements. -/
theorem RdSl.take {H : Heap} {a : Option Addr} {sz n cap k : Nat} {cells : List Value} (h : RdSl H sz (.slice a n cap) n cells) (hk : k ≤ n) (a' : Option Addr) (ha : a' = a) : RdSl H sz (.slice a' k cap) k (cells.take (k * sz)) := by
  subst ha
  obtain ⟨h1, a', cap', h2, h3, h4⟩ := h
  cases h2
  refine ⟨by rw [List.length_take, h1]; exact Nat.min_eq_left (Nat.mul_le_mul_right _ hk), _, _, rfl, by omega, ?_⟩
  rcases h4 with rfl | ⟨b, o, rfl, h6⟩
  · exact .inl (by omega)
  · refine .inr ⟨b, o, rfl, fun j u hu => ?_⟩
    rw [List.getElem?_take] at hu
    split at hu
    · exact h6 _ u hu
    · cases hu
theorem s_slHi {H : Heap} {v : Value} {sz n k : Nat} {kk : IntKind} {cells : List Value} {K : Value → Prop} (h : RdSl H sz v n cells) (hk : k ≤ n) (hK : ∀ v', RdSl H sz v' k (cells.take (k * sz)) → K v') : HSl sz v none (some (.int kk (k : Int))) none K := by
  have h' := h
  obtain ⟨_, a, cap, rfl, h3, _⟩ := h
  refine ⟨a, n, cap, 0, k, cap, rfl, rfl, ⟨kk, rfl⟩, rfl, Nat.zero_le _, by omega, Nat.le_refl _, hK _ ?_⟩
  rw [Nat.sub_zero, Nat.sub_zero]
  refine RdSl.take h' hk _ ?_
  split
  · rfl
  · cases a <;> simp [Addr.add]
end
end Go.Proofs.Ythjnknpgcmmapaa
