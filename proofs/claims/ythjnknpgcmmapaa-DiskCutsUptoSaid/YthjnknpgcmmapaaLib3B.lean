/-
  My own small library: a law's arguments opened by descriptors, with their bulk (for the second form of a statement).
-/
import Derived.Test.YthjnknpgcmmapaaLib3
import Derived.Test.YthjnknpgcmmapaaRows
import Derived.Deep.CondSized
namespace Go.Proofs.Ythjnknpgcmmapaa
set_option linter.unusedVariables false
open Go.RowKit Go.ChangeShapes Go.WideShapes Go.ChangeAt

def OpensB {α : Type} (P : Program) (t : TypeId) (T : GoT α) (ok : α → Prop) (sz : α → Nat) : Prop :=
  P.cellsOf t = T.n ∧ ∀ {H : Type} (enc : TypeId × Value → H) (w : World) (sp : Nat → Bool) (hd : Bool) (fuel : Nat) (cs : List Value) (x : DataW H × List MemPlace),
    DataW.trod enc P w 0 sp hd fuel t cs = some x → ∃ a, T.rd w Nob a cs ∧ ok a ∧ sz a ≤ Rows.uptoBulk x.1
theorem opensB_int {P : Program} {t : TypeId} {k : IntKind} (ht : P.underlying t = some (.int k)) (hc : P.cellsOf t = 1) : OpensB P t (tInt k) (inK k) (fun _ => 1) :=
  ⟨hc, fun enc w sp hd fuel cs x h => by
    obtain ⟨n, rfl, rfl, hw⟩ := DataW.trod_int ht h
    exact ⟨n, rfl, hw, by simp [Rows.uptoBulk]⟩⟩
theorem opensB_bool {P : Program} {t : TypeId} (ht : P.underlying t = some .bool) (hc : P.cellsOf t = 1) : OpensB P t tBool (fun _ => True) (fun _ => 1) :=
  ⟨hc, fun enc w sp hd fuel cs x h => by
    obtain ⟨n, rfl, rfl⟩ := DataW.trod_bool ht h
    exact ⟨n, rfl, trivial, by simp [Rows.uptoBulk]⟩⟩
theorem opensB_str {P : Program} {t : TypeId} (ht : P.underlying t = some .string) (hc : P.cellsOf t = 1) : OpensB P t tStr (fun _ => True) (fun s => s.size + 1) :=
  ⟨hc, fun enc w sp hd fuel cs x h => by
    obtain ⟨n, rfl, rfl, hw⟩ := DataW.trod_string ht h
    refine ⟨n, rfl, trivial, ?_⟩
    simp only [Rows.uptoBulk]
    have e : n.data.toList.length = n.size := by rw [Array.length_toList]; rfl
    omega⟩
theorem bulk_sum {α H : Type} {sz : α → Nat} : ∀ (ys : List α) (ds : List (DataW H)), ys.length = ds.length → (∀ i (h : i < ys.length) (h' : i < ds.length), sz ys[i] ≤ Rows.uptoBulk ds[i]) → (ys.map sz).sum ≤ Rows.uptoBulkAll ds
  | [], ds, _, _ => by simp
  | y :: ys, [], h, _ => by cases h
  | y :: ys, d :: ds, h, hx => by
    have h0 := hx 0 (by simp) (by simp)
    have ih := bulk_sum ys ds (by simpa using h) (fun i g g' => hx (i + 1) (by simpa using g) (by simpa using g'))
    simp only [List.map_cons, List.sum_cons, Rows.uptoBulkAll]
    simp only [List.getElem_cons_zero] at h0
    omega
theorem opensB_slice {α : Type} {P : Program} {t e : TypeId} {T : GoT α} {ok : α → Prop} {sz : α → Nat} (h : OpensB P e T ok sz) (ht : P.underlying t = some (.slice e)) (hc : P.cellsOf t = 1) (hpos : 0 < T.n) : OpensB P t (tSlice T) (fun xs => ∀ x ∈ xs, ok x) (fun xs => (xs.map sz).sum) := by
  refine ⟨hc, fun enc w sp hd fuel cs x hx => ?_⟩
  rcases Go.Deep.open_slice ht hx with ⟨rfl, rfl⟩ | ⟨a, len, cap, m, n, D, Pl, rfl, _, hl, hm, hmm, rfl, hel⟩
  · exact ⟨[], ⟨_, rfl, RdS.nil T w Nob⟩, List.forall_mem_nil _, Nat.zero_le _⟩
  · have hle : len ≤ m := by rw [hmm]; split <;> omega
    have hel' : ∀ i, i < len → ∃ y : α, ok y ∧ sz y ≤ Rows.uptoBulk (D i) ∧ ∃ cs', T.rd w Nob y cs' ∧ At w Nob a.block (a.off + i * T.n) cs' ∧ a = ⟨a.block, a.off, none⟩ := fun i hi => by
      obtain ⟨cs', h1, h2⟩ := hel i (by omega)
      obtain ⟨y, hy, hok, hsz⟩ := h.2 enc w sp hd n cs' _ h2
      obtain ⟨_, hlen, hcell⟩ := World.cells?_some h1
      have hsp : a.spot = none := by
        have h0 := hcell 0 (by rw [h.1]; exact hpos)
        rw [List.getElem?_eq_getElem (by rw [hlen, h.1]; exact hpos)] at h0
        cases hsp : a.spot with
        | none => rfl
        | some q =>
          exfalso
          by_cases hi0 : i * P.cellsOf e = 0
          · simp [Addr.add, hi0, World.cell?, hsp] at h0
            split at h0 <;> cases h0
          · have h00 := hel 0 (by omega)
            obtain ⟨cs0, h10, _⟩ := h00
            obtain ⟨_, hlen0, hcell0⟩ := World.cells?_some h10
            have h0' := hcell0 0 (by rw [h.1]; exact hpos)
            rw [List.getElem?_eq_getElem (by rw [hlen0, h.1]; exact hpos)] at h0'
            simp [Addr.add, World.cell?, hsp] at h0'
            split at h0' <;> cases h0'
      obtain ⟨ab, ao, asp⟩ := a
      simp only at hsp
      subst hsp
      refine ⟨y, hok, hsz, cs', hy, ⟨fun _ x => x, fun j u hu => ?_⟩, rfl⟩
      have hj := (List.getElem?_eq_some_iff.1 hu).1
      have := hcell j (by omega)
      rw [Addr.add_lit, Addr.add_lit, hu, h.1] at this
      exact this
    obtain ⟨ys, hyl, hy⟩ := choose_list len hel'
    subst hyl
    refine ⟨ys, ⟨_, rfl, some a, cap, rfl, hl, fun i hi => ?_⟩, fun x hx => ?_, ?_⟩
    · obtain ⟨_, _, cs', h1, h2, h3⟩ := hy i hi
      exact ⟨a.block, a.off, cs', congrArg some h3, h1, h2⟩
    · obtain ⟨i, hi, rfl⟩ := List.getElem_of_mem hx
      exact (hy i hi).1
    · have := bulk_sum (sz := sz) ys ((List.range ys.length).map D) (by simp) (fun i g g' => by simpa using (hy i g).2.1)
      simp only [Rows.uptoBulk]
      omega
def FieldsOpenB {α : Type} (P : Program) (fs : List Field) (o : Nat) (T : GoT α) (ok : α → Prop) (sz : α → Nat) : Prop :=
  ∀ {H : Type} (enc : TypeId × Value → H) (w : World) (sp : Nat → Bool) (hd : Bool) (n : Nat) (cs : List Value) (xs : List (DataW H × List MemPlace)), xs.length = fs.length →
    (∀ (i : Nat) (f : Field), fs[i]? = some f → DataW.trod enc P w 0 sp hd n f.type ((cs.drop f.offset).take (P.cellsOf f.type)) = xs[i]?) →
    cs.length = o + T.n → ∃ a, T.rd w Nob a (cs.drop o) ∧ ok a ∧ sz a ≤ Rows.uptoBulkAll (xs.map (·.1))
theorem fieldsB_nil (P : Program) (o : Nat) : FieldsOpenB P [] o tUnit (fun _ => True) (fun _ => 0) := fun enc w sp hd n cs xs _ _ hl => ⟨(), by
  show cs.drop o = []
  rw [List.drop_eq_nil_iff]; have : tUnit.n = 0 := rfl; omega, trivial, Nat.zero_le _⟩
theorem fieldsB_cons {α β : Type} {P : Program} {f : Field} {fs : List Field} {o : Nat} {S : GoT α} {T : GoT β} {ok1 : α → Prop} {ok2 : β → Prop} {sz1 : α → Nat} {sz2 : β → Nat} (h1 : OpensB P f.type S ok1 sz1) (ho : f.offset = o) (h2 : FieldsOpenB P fs (o + S.n) T ok2 sz2) :
    FieldsOpenB P (f :: fs) o (tPair S T) (fun x => ok1 x.1 ∧ ok2 x.2) (fun x => sz1 x.1 + sz2 x.2) := fun enc w sp hd n cs xs hl hx hc => by
  match xs, hl with
  | y :: ys, hl =>
    have hcn : (tPair S T).n = S.n + T.n := rfl
    have e0 := hx 0 f rfl
    rw [ho, h1.1] at e0
    obtain ⟨a, ha, hoka, hsa⟩ := h1.2 enc w sp hd n _ y e0
    obtain ⟨b, hb, hokb, hsb⟩ := h2 enc w sp hd n cs ys (by simpa using hl) (fun i g hg => by simpa using hx (i + 1) g (by simpa using hg)) (by omega)
    refine ⟨(a, b), ⟨_, _, ?_, ha, hb⟩, ⟨hoka, hokb⟩, ?_⟩
    · rw [← List.drop_drop]
      exact (List.take_append_drop _ _).symm
    · simp only [List.map_cons, Rows.uptoBulkAll]
      omega
theorem opensB_struct {α : Type} {P : Program} {t : TypeId} {fs : Array Field} {T : GoT α} {ok : α → Prop} {sz : α → Nat} (ht : P.underlying t = some (.struct fs)) (hc : P.cellsOf t = T.n) (h : FieldsOpenB P fs.toList 0 T ok sz) : OpensB P t T ok sz :=
  ⟨hc, fun enc w sp hd fuel cs x hx => by
    obtain ⟨xs, n, _, rfl, hl, hlen, hf⟩ := DataW.trod_struct ht hx
    obtain ⟨a, ha, hok, hs⟩ := h enc w sp hd n cs xs (by simpa using hlen) (fun i f hi => hf i f (by simpa using hi)) (by omega)
    refine ⟨a, by simpa using ha, hok, ?_⟩
    simp only [Rows.uptoBulk]
    omega⟩
theorem opensB_via {α β : Type} {P : Program} {t : TypeId} {T : GoT α} {ok : α → Prop} {sz : α → Nat} (f : β → α) (g : α → β) (hg : ∀ a, f (g a) = a) (h : OpensB P t T ok sz) : OpensB P t (T.via f) (fun b => ok (f b)) (fun b => sz (f b)) :=
  ⟨h.1, fun enc w sp hd fuel cs x hx => by
    obtain ⟨a, ha, hok, hs⟩ := h.2 enc w sp hd fuel cs x hx
    exact ⟨g a, by show T.rd w Nob (f (g a)) cs; rw [hg]; exact ha, by show ok (f (g a)); rw [hg]; exact hok, by show sz (f (g a)) ≤ _; rw [hg]; exact hs⟩⟩
theorem opensB_ok {α : Type} {P : Program} {t : TypeId} {T : GoT α} {ok ok' : α → Prop} {sz sz' : α → Nat} (h : OpensB P t T ok sz) (hi : ∀ a, ok a → ok' a) (hs : ∀ a, sz' a ≤ sz a) : OpensB P t T ok' sz' :=
  ⟨h.1, fun enc w sp hd fuel cs x hx => let ⟨a, ha, hok, hb⟩ := h.2 enc w sp hd fuel cs x hx; ⟨a, ha, hi a hok, Nat.le_trans (hs a) hb⟩⟩
theorem argB_one {α : Type} {P : Program} {t : TypeId} {T : GoT α} {ok : α → Prop} {sz : α → Nat} {H : Type} {enc : TypeId × Value → H} {W : World} {r : Reach} {b0 : Nat} {v : Value} {d : DataW H} {ps : List MemPlace} {sp : Nat → Bool} {hd : Bool}
    (h : OpensB P t T ok sz) (hf : isFlat (P.underlying t) = true) (hval : Value.okWide P W r b0 t v) (h0 : DataW.Trod enc P W 0 sp hd t v d ps) : ∃ a, T.rd W Nob a [v] ∧ ok a ∧ sz a ≤ Rows.uptoBulk d := by
  obtain ⟨fuel, hx⟩ := h0
  rw [flat_one hf hval] at hx
  exact h.2 enc W sp hd fuel [v] _ hx
theorem argB_agg {α : Type} {P : Program} {t : TypeId} {fs : Array Field} {T : GoT α} {ok : α → Prop} {sz : α → Nat} {H : Type} {enc : TypeId × Value → H} {W : World} {r : Reach} {b0 : Nat} {v : Value} {d : DataW H} {ps : List MemPlace} {sp : Nat → Bool} {hd : Bool}
    (h : OpensB P t T ok sz) (ht : P.underlying t = some (.struct fs)) (hval : Value.okWide P W r b0 t v) (h0 : DataW.Trod enc P W 0 sp hd t v d ps) : ∃ a cs, v = .agg cs ∧ T.rd W Nob a cs.toList ∧ ok a ∧ sz a ≤ Rows.uptoBulk d := by
  obtain ⟨fuel, hx⟩ := h0
  unfold Value.okWide at hval
  rw [ht] at hval
  obtain ⟨cs, rfl, _⟩ := hval
  obtain ⟨a, h1, h2, h3⟩ := h.2 enc W sp hd fuel _ _ hx
  exact ⟨a, cs, rfl, h1, h2, h3⟩
theorem uptoBound {H : Type} {l : List (DataW H)} (hk : Rows.uptoSmall H l = true) : Rows.uptoBulkAll l ≤ 1048576 := of_decide_eq_true hk
end Go.Proofs.Ythjnknpgcmmapaa
