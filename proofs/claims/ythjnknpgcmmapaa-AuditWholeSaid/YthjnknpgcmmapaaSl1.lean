/-
  My own library: the memory as a row of pieces that lie apart (a small separation logic over the model's world).
-/
import Derived.Test.YthjnknpgcmmapaaEng10
namespace Go.Proofs.Ythjnknpgcmmapaa
set_option linter.unusedVariables false
open Go.RowKit

/-- A piece of memory: what lies at which block. -/
abbrev Heap := Nat → Option Obj
abbrev HProp := Heap → Prop
def Heap.emp : Heap := fun _ => none
def Heap.one (b : Nat) (o : Obj) : Heap := fun k => if k = b then some o else none
def Sep (h h1 h2 : Heap) : Prop := ∀ b, (h1 b = none ∧ h b = h2 b) ∨ (h2 b = none ∧ h b = h1 b)
def Heap.le (h k : Heap) : Prop := ∀ b o, h b = some o → k b = some o

theorem Sep.symm {h h1 h2 : Heap} (s : Sep h h1 h2) : Sep h h2 h1 := fun b => (s b).symm
theorem Sep.left {h h1 h2 : Heap} (s : Sep h h1 h2) : h1.le h := fun b o e => by
  rcases s b with ⟨a, c⟩ | ⟨a, c⟩
  · rw [a] at e; cases e
  · rw [c, e]
theorem Sep.right {h h1 h2 : Heap} (s : Sep h h1 h2) : h2.le h := s.symm.left
theorem Sep.emp (h : Heap) : Sep h Heap.emp h := fun b => .inl ⟨rfl, rfl⟩
theorem Sep.of_emp {h h1 : Heap} (s : Sep h Heap.emp h1) : h = h1 := funext fun b => by
  rcases s b with ⟨_, c⟩ | ⟨a, c⟩
  · exact c
  · rw [c, a]; rfl
theorem Sep.swap {h h1 h2 h3 h4 : Heap} (s : Sep h h1 h2) (t : Sep h2 h3 h4) : ∃ k, Sep h h3 k ∧ Sep k h1 h4 := by
  refine ⟨fun b => (h1 b).or (h4 b), fun b => ?_, fun b => ?_⟩
  · rcases s b with ⟨a, c⟩ | ⟨a, c⟩ <;> rcases t b with ⟨d, e⟩ | ⟨d, e⟩ <;> simp_all
  · rcases s b with ⟨a, c⟩ | ⟨a, c⟩ <;> rcases t b with ⟨d, e⟩ | ⟨d, e⟩ <;> simp_all
theorem Sep.assoc {h h1 h2 h3 h4 : Heap} (s : Sep h h1 h2) (t : Sep h1 h3 h4) : ∃ k, Sep h h3 k ∧ Sep k h4 h2 := by
  obtain ⟨k, a, b⟩ := s.symm.swap t
  exact ⟨k, a, b.symm⟩
theorem Sep.join {h h1 h2 h3 k : Heap} (s : Sep h h3 k) (t : Sep k h1 h2) : ∃ k', Sep h k' h2 ∧ Sep k' h3 h1 := by
  obtain ⟨k', a, b⟩ := s.swap t.symm
  exact ⟨k', a.symm, b⟩

inductive Chunk where
  /-- A block of cells, whole. -/
  | pt (b : Nat) (cs : List Value) (t : TypeId)
  /-- A map's entries. -/
  | mp (b : Nat) (es : List MapEntry) (clock : Nat)
  /-- Memory that is not written any more. -/
  | mem (H : Heap)
  /-- An object. -/
  | ob (A : HProp)
/-- No cell of the block is marked. -/
def unfz (n : Nat) (f : Nat × Nat) : Prop := f.1 = f.2 ∨ n ≤ f.1
def Chunk.holds : Chunk → HProp
  | .pt b cs t => fun h => ∃ f, unfz cs.length f ∧ h = Heap.one b (.cells cs.toArray t f)
  | .mp b es c => fun h => h = Heap.one b (.map es.toArray c)
  | .mem H => fun h => h = H
  | .ob A => A
def star : List Chunk → HProp
  | [], h => h = Heap.emp
  | c :: l, h => ∃ h1 h2, Sep h h1 h2 ∧ c.holds h1 ∧ star l h2

/-- The memory has the pieces l, apart; what is around it is as it is in W. -/
structure SL (W : World) (l : List Chunk) (w : World) : Prop where
  os : w.os = W.os
  tape : w.tape = W.tape
  output : w.output = W.output
  out : ∃ h : Heap, star l h ∧ ∀ b o, h b = some o → w.heap[b]? = some o

theorem star_swap {A B : Chunk} {l : List Chunk} {h : Heap} (s : star (A :: B :: l) h) : star (B :: A :: l) h := by
  obtain ⟨h1, h2, s1, a, h3, h4, s2, b, r⟩ := s
  obtain ⟨k, x, y⟩ := s1.swap s2
  exact ⟨h3, k, x, b, h1, h4, y, a, r⟩
theorem star_perm {l l' : List Chunk} (p : l.Perm l') : ∀ {h : Heap}, star l h → star l' h := by
  induction p with
  | nil => exact fun s => s
  | cons x _ ih => rintro h ⟨h1, h2, s, a, r⟩; exact ⟨h1, h2, s, a, ih r⟩
  | swap x y l => exact fun s => star_swap s
  | trans _ _ i j => exact fun s => j (i s)
theorem SL.perm {W : World} {l l' : List Chunk} {w : World} (h : SL W l w) (p : l.Perm l') : SL W l' w :=
  ⟨h.os, h.tape, h.output, let ⟨k, s, m⟩ := h.out; ⟨k, star_perm p s, m⟩⟩

theorem star_append {l l' : List Chunk} : ∀ {h : Heap}, star (l ++ l') h ↔ ∃ h1 h2, Sep h h1 h2 ∧ star l h1 ∧ star l' h2 := by
  induction l with
  | nil =>
    intro h
    constructor
    · intro s; exact ⟨Heap.emp, h, Sep.emp h, rfl, s⟩
    · rintro ⟨h1, h2, s, rfl, t⟩; rw [s.of_emp]; exact t
  | cons c l ih =>
    intro h
    constructor
    · rintro ⟨h1, h2, s, a, r⟩
      obtain ⟨h3, h4, t, b, d⟩ := ih.1 r
      obtain ⟨k, x, y⟩ := s.join t
      exact ⟨k, h4, x, ⟨h1, h3, y, a, b⟩, d⟩
    · rintro ⟨h1, h2, s, ⟨h3, h4, t, a, b⟩, d⟩
      obtain ⟨k, x, y⟩ := s.assoc t
      exact ⟨h3, k, x, a, ih.2 ⟨h4, h2, y, b, d⟩⟩

section
variable {W w : World} {l : List Chunk}

theorem SL.drop {c : Chunk} (h : SL W (c :: l) w) : SL W l w :=
  ⟨h.os, h.tape, h.output, let ⟨k, ⟨h1, h2, s, a, r⟩, m⟩ := h.out; ⟨h2, r, fun b o e => m b o (s.right b o e)⟩⟩

/-- The head piece put in another form. -/
theorem SL.conv {c : Chunk} {l1 : List Chunk} (h : SL W (c :: l) w) (f : ∀ k, c.holds k → star l1 k) : SL W (l1 ++ l) w :=
  ⟨h.os, h.tape, h.output, let ⟨k, ⟨h1, h2, s, a, r⟩, m⟩ := h.out; ⟨k, star_append.2 ⟨h1, h2, s, f _ a, r⟩, m⟩⟩
theorem SL.fold {c : Chunk} {l1 : List Chunk} (h : SL W (l1 ++ l) w) (f : ∀ k, star l1 k → c.holds k) : SL W (c :: l) w :=
  ⟨h.os, h.tape, h.output, let ⟨k, s, m⟩ := h.out; let ⟨h1, h2, s, a, r⟩ := star_append.1 s; ⟨k, ⟨h1, h2, s, f _ a, r⟩, m⟩⟩

def HEx {α : Type} (A : α → HProp) : HProp := fun h => ∃ x, A x h
def HFact (p : Prop) (l : List Chunk) : HProp := fun h => p ∧ star l h
theorem SL.ex {α : Type} {A : α → HProp} : SL W (.ob (HEx A) :: l) w ↔ ∃ x, SL W (.ob (A x) :: l) w := by
  constructor
  · rintro ⟨a, b, c, k, ⟨h1, h2, s, ⟨x, hx⟩, r⟩, m⟩
    exact ⟨x, a, b, c, k, ⟨h1, h2, s, hx, r⟩, m⟩
  · rintro ⟨x, a, b, c, k, ⟨h1, h2, s, hx, r⟩, m⟩
    exact ⟨a, b, c, k, ⟨h1, h2, s, ⟨x, hx⟩, r⟩, m⟩
theorem SL.fact {p : Prop} {l1 : List Chunk} : SL W (.ob (HFact p l1) :: l) w ↔ p ∧ SL W (l1 ++ l) w := by
  constructor
  · intro h
    obtain ⟨k, ⟨h1, h2, s, ⟨hp, hx⟩, r⟩, m⟩ := h.out
    exact ⟨hp, h.conv (fun _ s => s.2)⟩
  · rintro ⟨hp, h⟩
    exact h.fold (fun _ s => ⟨hp, s⟩)

/-! ### Finding a piece -/
inductive Has (c : Chunk) : List Chunk → Prop where
  | hd {l : List Chunk} : Has c (c :: l)
  | tl {d : Chunk} {l : List Chunk} (h : Has c l) : Has c (d :: l)
theorem Has.heap {c : Chunk} {l : List Chunk} (h : Has c l) : ∀ {k : Heap}, star l k → ∃ h1, c.holds h1 ∧ h1.le k := by
  induction h with
  | hd => rintro k ⟨h1, h2, s, a, r⟩; exact ⟨h1, a, s.left⟩
  | tl _ ih =>
    rintro k ⟨h1, h2, s, a, r⟩
    obtain ⟨h3, b, e⟩ := ih r
    exact ⟨h3, b, fun x o y => s.right x o (e x o y)⟩

/-- One piece replaced by another. -/
inductive Upd (c d : Chunk) : List Chunk → List Chunk → Prop where
  | hd {l : List Chunk} : Upd c d (c :: l) (d :: l)
  | tl {e : Chunk} {l l' : List Chunk} (h : Upd c d l l') : Upd c d (e :: l) (e :: l')

/-- Pieces taken out of a row, in this order; the rest. -/
inductive Rem (c : Chunk) : List Chunk → List Chunk → Prop where
  | hd {l : List Chunk} : Rem c (c :: l) l
  | tl {d : Chunk} {l l' : List Chunk} (h : Rem c l l') : Rem c (d :: l) (d :: l')
inductive Pick : List Chunk → List Chunk → List Chunk → Prop where
  | nil {l : List Chunk} : Pick [] l l
  | cons {c : Chunk} {p l l' F : List Chunk} (h : Rem c l l') (k : Pick p l' F) : Pick (c :: p) l F
theorem Rem.perm {c : Chunk} {l l' : List Chunk} (h : Rem c l l') : l.Perm (c :: l') := by
  induction h with
  | hd => exact .refl _
  | tl _ ih => exact (ih.cons _).trans (.swap _ _ _)
theorem Pick.perm {p l F : List Chunk} (h : Pick p l F) : l.Perm (p ++ F) := by
  induction h with
  | nil => exact .refl _
  | cons r _ ih => exact r.perm.trans (ih.cons _)
theorem SL.pick {p F : List Chunk} (h : SL W l w) (k : Pick p l F) : SL W (p ++ F) w := h.perm k.perm

/-! ### Cells -/
theorem one_some {b : Nat} {o : Obj} {k : Nat} {x : Obj} (h : Heap.one b o k = some x) : k = b ∧ x = o := by
  unfold Heap.one at h
  split at h
  · rename_i e; cases h; exact ⟨e, rfl⟩
  · cases h
theorem SL.blk {b : Nat} {cs : List Value} {t : TypeId} (h : SL W l w) (m : Has (.pt b cs t) l) : ∃ f, unfz cs.length f ∧ w.heap[b]? = some (.cells cs.toArray t f) := by
  obtain ⟨k, s, x⟩ := h.out
  obtain ⟨h1, ⟨f, hf, rfl⟩, le⟩ := m.heap s
  exact ⟨f, hf, x b _ (le b _ (by simp [Heap.one]))⟩
theorem SL.cell {b o : Nat} {cs : List Value} {t : TypeId} {v : Value} (h : SL W l w) (m : Has (.pt b cs t) l) (hv : cs[o]? = some v) : w.cell? ⟨b, o, none⟩ = some v := by
  obtain ⟨f, _, e⟩ := h.blk m
  simp [World.cell?, e, hv]
theorem SL.frozen {b o : Nat} {cs : List Value} {t : TypeId} {v : Value} (h : SL W l w) (m : Has (.pt b cs t) l) (hv : cs[o]? = some v) : w.frozen? ⟨b, o, none⟩ = false := by
  obtain ⟨f, hf, e⟩ := h.blk m
  have hlt := (List.getElem?_eq_some_iff.1 hv).1
  obtain ⟨x, y⟩ := f
  simp only [World.frozen?, e]
  rcases hf with hf | hf
  · simp only [Bool.and_eq_false_iff, decide_eq_false_iff_not]; simp only at hf; omega
  · simp only [Bool.and_eq_false_iff, decide_eq_false_iff_not]; simp only at hf; omega
def Heap.cell (H : Heap) (b o : Nat) : Option Value := match H b with
  | some (.cells c _ _) => c[o]?
  | _ => none
theorem SL.mcell {H : Heap} {b o : Nat} {v : Value} (h : SL W l w) (m : Has (.mem H) l) (hv : H.cell b o = some v) : w.cell? ⟨b, o, none⟩ = some v := by
  obtain ⟨k, s, x⟩ := h.out
  obtain ⟨h1, rfl, le⟩ := m.heap s
  unfold Heap.cell at hv
  split at hv
  · rename_i c t f e
    have := x b _ (le b _ e)
    simp [World.cell?, this, hv]
  · cases hv

theorem Upd.perm {c d : Chunk} {l l' : List Chunk} (u : Upd c d l l') : ∃ r, l.Perm (c :: r) ∧ l'.Perm (d :: r) := by
  induction u with
  | hd => exact ⟨_, .refl _, .refl _⟩
  | tl _ ih =>
    obtain ⟨r, p, q⟩ := ih
    exact ⟨_ :: r, (p.cons _).trans (.swap _ _ _), (q.cons _).trans (.swap _ _ _)⟩

/-- One block is written anew; nothing else. -/
theorem SL.upd {l' : List Chunk} {c d : Chunk} {w' : World} {b : Nat} {o' : Obj} (h : SL W l w) (u : Upd c d l l') (hc : ∀ k, c.holds k → ∃ o, k = Heap.one b o) (hd : d.holds (Heap.one b o'))
    (hw : w'.heap[b]? = some o') (hk : ∀ x, x ≠ b → w'.heap[x]? = w.heap[x]?) (e1 : w'.os = w.os) (e2 : w'.tape = w.tape) (e3 : w'.output = w.output) : SL W l' w' := by
  obtain ⟨r, p, q⟩ := u.perm
  obtain ⟨a1, a2, a3, k, ⟨h1, h2, s, a, t⟩, m⟩ := h.perm p
  obtain ⟨o, rfl⟩ := hc _ a
  have hb : h2 b = none := by
    rcases s b with ⟨x, _⟩ | ⟨x, _⟩
    · simp [Heap.one] at x
    · exact x
  suffices hs : SL W (d :: r) w' from hs.perm q.symm
  refine ⟨e1.trans a1, e2.trans a2, e3.trans a3, fun x => if x = b then some o' else h2 x, ⟨Heap.one b o', h2, fun x => ?_, hd, t⟩, fun x y e => ?_⟩
  · by_cases hx : x = b
    · subst hx; exact .inr ⟨hb, by simp [Heap.one]⟩
    · exact .inl ⟨by simp [Heap.one, hx], by simp [hx]⟩
  · by_cases hx : x = b
    · subst hx; simp at e; rw [hw, e]
    · simp [hx] at e
      rw [hk x hx]
      exact m x y (s.right x y e)

theorem SL.store {l' : List Chunk} {b o : Nat} {cs : List Value} {t : TypeId} {v u : Value} (h : SL W l w) (m : Upd (.pt b cs t) (.pt b (cs.set o v) t) l l') (hu : cs[o]? = some u) : SL W l' (w.setCell ⟨b, o, none⟩ v) := by
  have hm : Has (.pt b cs t) l := by
    clear h
    generalize hd : Chunk.pt b (cs.set o v) t = d at m
    induction m with
    | hd => exact .hd
    | tl _ ih => exact .tl ih
  obtain ⟨f, hf, e⟩ := h.blk hm
  refine h.upd (b := b) (o' := .cells (cs.set o v).toArray t f) m ?_ ⟨f, by simpa using hf, rfl⟩ ?_ ?_ rfl rfl rfl
  · rintro k ⟨f, _, rfl⟩; exact ⟨_, rfl⟩
  · show (w.heap.modify b _)[b]? = _
    rw [Array.getElem?_modify]
    simp [e]
  · intro x hx
    exact Below.heap_setCell w ⟨b, o, none⟩ v x hx

theorem SL.alloc {o : Obj} {c : Chunk} (h : SL W l w) (hc : c.holds (Heap.one w.heap.size o)) : SL W (c :: l) (w.alloc o) := by
  obtain ⟨a1, a2, a3, k, s, m⟩ := h
  have hb : k w.heap.size = none := by
    cases hx : k w.heap.size with
    | none => rfl
    | some y => have := m _ _ hx; simp at this
  refine ⟨a1, a2, a3, fun x => if x = w.heap.size then some o else k x, ⟨Heap.one w.heap.size o, k, fun x => ?_, hc, s⟩, fun x y e => ?_⟩
  · by_cases hx : x = w.heap.size
    · subst hx; exact .inr ⟨hb, by simp [Heap.one]⟩
    · exact .inl ⟨by simp [Heap.one, hx], by simp [hx]⟩
  · by_cases hx : x = w.heap.size
    · subst hx; simp at e; subst e; exact heap_alloc_new w o
    · simp [hx] at e
      have := m x y e
      have hlt : x < w.heap.size := (Array.getElem?_eq_some_iff.1 this).1
      rw [Below.heap_alloc w o x hlt]; exact this
theorem SL.new {cs : List Value} {t : TypeId} (h : SL W l w) : SL W (.pt w.heap.size cs t :: l) (w.alloc (.cells cs.toArray t)) :=
  h.alloc ⟨(0, 0), .inl rfl, rfl⟩
theorem SL.newMap (h : SL W l w) : SL W (.mp w.heap.size [] 0 :: l) (w.alloc (.map #[] 0)) := h.alloc rfl
theorem SL.drew (h : SL W l w) : SL W l w.drew := ⟨h.os, h.tape, h.output, h.out⟩
theorem SL.drewN (h : SL W l w) (n : Nat) : SL W l (w.drewN n) := ⟨h.os, h.tape, h.output, h.out⟩

/-! ### Memory that is not written any more -/
def Heap.of (w : World) : Heap := fun b => w.heap[b]?
theorem SL.init (w : World) : SL w [.mem (Heap.of w)] w := by
  refine ⟨rfl, rfl, rfl, Heap.of w, ⟨Heap.of w, Heap.emp, fun b => .inr ⟨rfl, rfl⟩, rfl, rfl⟩, fun b o e => e⟩
theorem Heap.le_refl (H : Heap) : H.le H := fun _ _ e => e
theorem Heap.le_trans {H K L : Heap} (h : H.le K) (k : K.le L) : H.le L := fun b o e => k b o (h b o e)
theorem Heap.cell_le {H K : Heap} (h : H.le K) {b o : Nat} {v : Value} (e : H.cell b o = some v) : K.cell b o = some v := by
  unfold Heap.cell at *
  split at e
  · rename_i c t f he; rw [h _ _ he]; exact e
  · cases e
/-- A block is not written any more from here on. -/
theorem SL.freeze {H : Heap} {b : Nat} {cs : List Value} {t : TypeId} (h : SL W (.mem H :: .pt b cs t :: l) w) : ∃ H', H.le H' ∧ (∀ o v, cs[o]? = some v → H'.cell b o = some v) ∧ SL W (.mem H' :: l) w := by
  obtain ⟨a1, a2, a3, k, ⟨h1, h2, s, rfl, h3, h4, s', ⟨f, hf, rfl⟩, r⟩, m⟩ := h
  obtain ⟨k', x, y⟩ := s.join s'
  refine ⟨k', fun b o e => ?_, fun o v e => ?_, a1, a2, a3, k, ⟨k', h4, x, rfl, r⟩, m⟩
  · exact y.left b o e
  · have : k' b = some (.cells cs.toArray t f) := y.right b _ (by simp [Heap.one])
    simp [Heap.cell, this, e]
theorem SL.below {H : Heap} (h : SL W l w) (m : Has (.mem H) l) (hH : (Heap.of W).le H) : Below W.heap.size W w := by
  obtain ⟨k, s, x⟩ := h.out
  obtain ⟨h1, rfl, le⟩ := m.heap s
  have hk : ∀ b, b < W.heap.size → w.heap[b]? = W.heap[b]? := fun b hb => by
    have e : W.heap[b]? = some (W.heap[b]) := Array.getElem?_eq_getElem hb
    rw [e]; exact x b _ (le b _ (hH b _ e))
  refine ⟨h.os, h.tape, h.output, ?_, hk⟩
  rcases Nat.eq_zero_or_pos W.heap.size with h0 | h0
  · omega
  · have e := hk (W.heap.size - 1) (by omega)
    have e2 : W.heap[W.heap.size - 1]? = some (W.heap[W.heap.size - 1]) := Array.getElem?_eq_getElem (by omega)
    rw [e2] at e
    have := (Array.getElem?_eq_some_iff.1 e).1
    omega
end
end Go.Proofs.Ythjnknpgcmmapaa
