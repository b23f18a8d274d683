/-
  My own library: slices. 'OwnSl' is a row that somebody owns and may append to; 'RdSl' is a row in memory that is not written any more.
-/
import Derived.Test.YthjnknpgcmmapaaSl2
namespace Go.Proofs.Ythjnknpgcmmapaa
set_option linter.unusedVariables false
open Go.RowKit

/-- v is a slice of n elements of sz cells each, whose cells are 'cells'; its block is owned. -/
def OwnSl (v : Value) (t : TypeId) (sz n : Nat) (cells : List Value) : HProp := HEx fun x : Option (Nat × Nat × List Value) => match x with
  | none => HFact ((∃ a, v = .slice a 0 0) ∧ n = 0 ∧ cells = []) []
  | some (b, cap, rest) => HFact (v = .slice (some ⟨b, 0, none⟩) n cap ∧ n ≤ cap ∧ cells.length = n * sz ∧ rest.length = (cap - n) * sz) [.pt b (cells ++ rest) t]

section
variable {W w : World} {l : List Chunk}

theorem OwnSl.open {v : Value} {t : TypeId} {sz n : Nat} {cells : List Value} (h : SL W (.ob (OwnSl v t sz n cells) :: l) w) :
    ((∃ a, v = .slice a 0 0) ∧ n = 0 ∧ cells = [] ∧ SL W l w) ∨ ∃ b cap rest, v = .slice (some ⟨b, 0, none⟩) n cap ∧ n ≤ cap ∧ cells.length = n * sz ∧ rest.length = (cap - n) * sz ∧ SL W (.pt b (cells ++ rest) t :: l) w := by
  unfold OwnSl at h
  obtain ⟨x, h⟩ := SL.ex.1 h
  match x, h with
  | none, h =>
    obtain ⟨⟨h1, h2, h3⟩, h⟩ := SL.fact.1 h
    exact .inl ⟨h1, h2, h3, h⟩
  | some (b, cap, rest), h =>
    obtain ⟨⟨h1, h2, h3, h4⟩, h⟩ := SL.fact.1 h
    exact .inr ⟨b, cap, rest, h1, h2, h3, h4, h⟩
theorem OwnSl.nil {t : TypeId} {sz : Nat} (h : SL W l w) : SL W (.ob (OwnSl (.slice none 0 0) t sz 0 []) :: l) w := by
  unfold OwnSl
  exact SL.ex.2 ⟨none, SL.fact.2 ⟨⟨⟨_, rfl⟩, rfl, rfl⟩, h⟩⟩
/-- A row without room. -/
theorem OwnSl.nil0 {a : Option Addr} {t : TypeId} {sz : Nat} (h : SL W l w) : SL W (.ob (OwnSl (.slice a 0 0) t sz 0 []) :: l) w := by
  unfold OwnSl
  exact SL.ex.2 ⟨none, SL.fact.2 ⟨⟨⟨_, rfl⟩, rfl, rfl⟩, h⟩⟩
theorem OwnSl.mk {b n cap : Nat} {t : TypeId} {sz : Nat} {cells rest : List Value} (h1 : n ≤ cap) (h2 : cells.length = n * sz) (h3 : rest.length = (cap - n) * sz) (h : SL W (.pt b (cells ++ rest) t :: l) w) :
    SL W (.ob (OwnSl (.slice (some ⟨b, 0, none⟩) n cap) t sz n cells) :: l) w := by
  unfold OwnSl
  exact SL.ex.2 ⟨some (b, cap, rest), SL.fact.2 ⟨⟨rfl, h1, h2, h3⟩, h⟩⟩
/-- A block that is full. -/
theorem OwnSl.full {b n : Nat} {t : TypeId} {sz : Nat} {cells : List Value} (h2 : cells.length = n * sz) (h : SL W (.pt b cells t :: l) w) : SL W (.ob (OwnSl (.slice (some ⟨b, 0, none⟩) n n) t sz n cells) :: l) w :=
  OwnSl.mk (rest := []) (Nat.le_refl _) h2 (by simp) (by simpa using h)

/-- What may be put behind a row. -/
theorem src_pt {b o m cap sz : Nat} {cs cs' : List Value} {t : TypeId} (hS : SL W l w) (hm : Has (.pt b cs' t) l) (hl : cs.length = m * sz) (hc : ∀ j v, cs[j]? = some v → cs'[o + j]? = some v) : srcCells w sz (.slice (some ⟨b, o, none⟩) m cap) m cs :=
  ⟨rfl, hl, fun j v e => by rw [Addr.add_lit]; exact hS.cell hm (hc j v e)⟩
theorem src_pt0 {b m cap sz : Nat} {cs : List Value} {t : TypeId} (hS : SL W l w) (hm : Has (.pt b cs t) l) (hl : cs.length = m * sz) : srcCells w sz (.slice (some ⟨b, 0, none⟩) m cap) m cs :=
  src_pt hS hm hl fun j v e => by rw [Nat.zero_add]; exact e
theorem src_str {s : ByteArray} : srcCells w 1 (.string s) s.size (s.data.toList.map fun b => .int .u8 b.toNat) := ⟨rfl, rfl⟩

theorem over_own {cells rest cs : List Value} : cs.length ≤ rest.length → over (cells ++ rest) cells.length cs = cells ++ cs ++ rest.drop cs.length := fun h => by
  rw [over_all _ _ _ (by simp; omega)]
  simp

/-- append onto a row that is owned. -/
theorem s_app {x y : Value} {t : TypeId} {sz by_ n m : Nat} {z cells cs : List Value} {F : List Chunk} {K : Value → World → Prop} (hS : SL W l w) (hr : Rem (.ob (OwnSl x t sz n cells)) l F) (hsrc : srcCells w sz y m cs)
    (hl : cs.length = m * sz) (hz : z.length = sz) (h1 : ∀ v ∈ cs, v.oneCell' = true) (hb : (n + m) * by_ ≤ 140737488355328) (hn : n + m ≤ 140737488355328)
    (h : ∀ v' w', SL W (.ob (OwnSl v' t sz (n + m) (cells ++ cs)) :: F) w' → K v' w') : HApp sz by_ z t x y w K := by
  rcases OwnSl.open (hS.perm hr.perm) with ⟨⟨a, rfl⟩, rfl, rfl, hS'⟩ | ⟨b, cap, rest, rfl, hc, hlen, hrest, hS'⟩
  · refine ⟨a, 0, 0, m, cs, rfl, hsrc, hb, hn, fun h0 => ?_, fun h0 => ⟨[], (by cases a with | none => exact ⟨rfl, rfl⟩ | some p => exact ⟨rfl, by simp, fun j v e => by simp at e⟩), fun c hc1 hc2 => ?_⟩⟩
    · have hm : m = 0 := by omega
      subst hm
      have : cs = [] := List.eq_nil_of_length_eq_zero (by simpa using hl)
      subst this
      cases a with
      | none => exact h _ _ (OwnSl.nil0 hS')
      | some p => exact h _ _ (OwnSl.nil0 hS')
    · refine h _ _ ?_
      have := OwnSl.mk (sz := sz) (n := 0 + m) (cells := cs) (rest := zrow z (c - (0 + m))) (cap := c) hc1 (by simpa using hl) (by rw [zrow_length, hz]) (SL.new (cs := cs ++ zrow z (c - (0 + m))) (t := t) (hS'.drew))
      simpa using this
  · refine ⟨some ⟨b, 0, none⟩, n, cap, m, cs, rfl, hsrc, hb, hn, fun h0 => ?_, fun h0 => ?_⟩
    · have hfit : cs.length ≤ rest.length := by
        rw [hl, hrest]; exact Nat.mul_le_mul_right _ (by omega)
      show stN (Addr.add ⟨b, 0, none⟩ (n * sz)) 0 cs w _
      rw [Addr.add_lit]
      refine stN_sl (t := t) cs (0 + n * sz) 0 (cells ++ rest) w (.pt b (cells ++ rest) t :: F) _ hS' .hd (by simp [hlen]; omega) h1 (fun w' hS2 => h _ _ ?_)
      have e : over (cells ++ rest) (0 + n * sz + 0) cs = cells ++ cs ++ rest.drop cs.length := by
        rw [show 0 + n * sz + 0 = cells.length by omega]; exact over_own hfit
      rw [e] at hS2
      exact OwnSl.mk (n := n + m) (cells := cells ++ cs) (rest := rest.drop cs.length) h0 (by simp [hlen, hl, Nat.add_mul]) (by
        rw [List.length_drop, hrest, hl, ← Nat.mul_sub_right_distrib]; congr 1; omega) hS2
    · refine ⟨cells, ⟨rfl, hlen, fun j v e => ?_⟩, fun c hc1 hc2 => h _ _ ?_⟩
      · rw [Addr.add_lit]
        refine hS'.cell .hd ?_
        rw [Nat.zero_add]
        rw [List.getElem?_append_left (List.getElem?_eq_some_iff.1 e).1]; exact e
      · exact OwnSl.mk (n := n + m) (cells := cells ++ cs) (rest := zrow z (c - (n + m))) hc1 (by simp [hlen, hl, Nat.add_mul]) (by rw [zrow_length, hz]) (SL.new (hS'.drop.drew))

/-! ### Rows that are not written any more -/
def RdSl (H : Heap) (sz : Nat) (v : Value) (n : Nat) (cells : List Value) : Prop :=
  cells.length = n * sz ∧ ∃ a cap, v = .slice a n cap ∧ n ≤ cap ∧ (n = 0 ∨ ∃ b o, a = some ⟨b, o, none⟩ ∧ ∀ j u, cells[j]? = some u → H.cell b (o + j) = some u)
theorem RdSl.mono {H H' : Heap} (hh : H.le H') {sz n : Nat} {v : Value} {cells : List Value} (h : RdSl H sz v n cells) : RdSl H' sz v n cells := by
  obtain ⟨h1, a, cap, h2, h3, h4⟩ := h
  refine ⟨h1, a, cap, h2, h3, h4.imp id ?_⟩
  rintro ⟨b, o, h5, h6⟩
  exact ⟨b, o, h5, fun j u hu => Heap.cell_le hh (h6 j u hu)⟩
theorem RdSl.nil (H : Heap) (sz : Nat) : RdSl H sz (.slice none 0 0) 0 [] := ⟨by simp, none, 0, rfl, Nat.le_refl _, .inl rfl⟩
/-- An owned row is let go. -/
theorem OwnSl.freeze {H : Heap} {v : Value} {t : TypeId} {sz n : Nat} {cells : List Value} (h : SL W (.mem H :: .ob (OwnSl v t sz n cells) :: l) w) : ∃ H', H.le H' ∧ RdSl H' sz v n cells ∧ SL W (.mem H' :: l) w := by
  rcases OwnSl.open (h.perm (.swap _ _ _)) with ⟨⟨a, rfl⟩, rfl, rfl, hS⟩ | ⟨b, cap, rest, rfl, hc, hlen, hrest, hS⟩
  · exact ⟨H, Heap.le_refl H, ⟨by simp, a, 0, rfl, Nat.le_refl _, .inl rfl⟩, hS⟩
  · obtain ⟨H', h1, h2, h3⟩ := SL.freeze (hS.perm (.swap _ _ _))
    refine ⟨H', h1, ⟨hlen, _, cap, rfl, hc, .inr ⟨b, 0, rfl, fun j u hu => ?_⟩⟩, h3⟩
    rw [Nat.zero_add]
    refine h2 j u ?_
    rw [List.getElem?_append_left (List.getElem?_eq_some_iff.1 hu).1]; exact hu
theorem RdSl.one {H : Heap} {sz n : Nat} {v : Value} {cells : List Value} (h : RdSl H sz v n cells) : v.oneCell' = true := by
  obtain ⟨_, a, cap, rfl, _, _⟩ := h; rfl
theorem src_rd {H : Heap} {y : Value} {sz m : Nat} {cs : List Value} (hS : SL W l w) (hm : Has (.mem H) l) (h : RdSl H sz y m cs) : srcCells w sz y m cs := by
  obtain ⟨h1, a, cap, rfl, h3, h4⟩ := h
  cases a with
  | none =>
    rcases h4 with rfl | ⟨b, o, h5, _⟩
    · exact ⟨rfl, List.eq_nil_of_length_eq_zero (by simpa using h1)⟩
    · cases h5
  | some p =>
    refine ⟨rfl, h1, fun j v e => ?_⟩
    rcases h4 with rfl | ⟨b, o, h5, h6⟩
    · have : cs = [] := List.eq_nil_of_length_eq_zero (by simpa using h1)
      subst this; simp at e
    · cases h5
      rw [Addr.add_lit]
      exact hS.mcell hm (h6 j v e)
theorem s_lenR {H : Heap} {v : Value} {sz n : Nat} {cells : List Value} {K : Value → Prop} (h : RdSl H sz v n cells) (k : K (.int .i64 n)) : HLenS v K := by
  obtain ⟨_, a, cap, rfl, _, _⟩ := h
  exact s_lenS k
/-- One element's place. -/
theorem s_idxR {H : Heap} {v : Value} {sz n j : Nat} {k : IntKind} {cells : List Value} {K : Value → Prop} (h : RdSl H sz v n cells) (hj : j < n)
    (hK : ∀ b o, (∀ i u, i < sz → cells[j * sz + i]? = some u → H.cell b (o + i) = some u) → K (.pointer (some ⟨b, o, none⟩))) : HIdx sz v (.int k (j : Int)) K := by
  obtain ⟨_, a, cap, rfl, _, h4⟩ := h
  rcases h4 with rfl | ⟨b, o, rfl, h6⟩
  · omega
  · refine s_idx hj (hK b (o + j * sz) fun i u hi hu => ?_)
    have := h6 _ u hu
    rwa [← Nat.add_assoc] at this
/-- One element of one cell is read. -/
theorem s_get1 {H : Heap} {v u : Value} {n j : Nat} {k : IntKind} {cells : List Value} {K : Value → Prop} (hS : SL W l w) (hm : Has (.mem H) l) (h : RdSl H 1 v n cells) (hj : j < n) (hu : cells[j]? = some u) (hK : K u) :
    HIdx 1 v (.int k (j : Int)) fun p => HLd p w K :=
  s_idxR h hj fun b o hb => s_ldm hS hm (hb 0 u (by omega) (by simpa using hu)) hK
/-- A row without its first elements. -/
theorem RdSl.drop {H : Heap} {a : Option Addr} {sz n cap k : Nat} {cells : List Value} (h : RdSl H sz (.slice a n cap) n cells) (hk : k ≤ n) : RdSl H sz (.slice (if cap = k then a else a.map (·.add (k * sz))) (n - k) (cap - k)) (n - k) (cells.drop (k * sz)) := by
  obtain ⟨h1, a', cap', h2, h3, h4⟩ := h
  cases h2
  refine ⟨by rw [List.length_drop, h1, Nat.mul_sub_right_distrib], _, _, rfl, by omega, ?_⟩
  rcases h4 with rfl | ⟨b, o, rfl, h6⟩
  · exact .inl (by omega)
  · by_cases hc : cap = k
    · exact .inl (by omega)
    · refine .inr ⟨b, o + k * sz, by simp [hc, Addr.add_lit], fun j u hu => ?_⟩
      rw [List.getElem?_drop] at hu
      have := h6 _ u hu
      rwa [← Nat.add_assoc] at this
theorem s_slR {H : Heap} {v : Value} {sz n k : Nat} {kk : IntKind} {cells : List Value} {K : Value → Prop} (h : RdSl H sz v n cells) (hk : k ≤ n) (hK : ∀ v', RdSl H sz v' (n - k) (cells.drop (k * sz)) → K v') : HSl sz v (some (.int kk (k : Int))) none none K := by
  have h' := h
  obtain ⟨_, a, cap, rfl, h3, _⟩ := h
  exact ⟨a, n, cap, k, n, cap, rfl, rfl, rfl, ⟨kk, rfl⟩, hk, h3, Nat.le_refl _, hK _ (RdSl.drop h' hk)⟩
end
end Go.Proofs.Ythjnknpgcmmapaa
