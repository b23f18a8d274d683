/-
  My own small library: append, said of lists: an own row that reads as xs, a source that reads as ys.
-/
import Derived.Test.YtjgacikohlnjdaaLib2
namespace Go.Proofs.Ytjgacikohlnjdaa
set_option linter.unusedVariables false
open Go.RowKit

/-- What append asks of a slice's type: element type e, so many cells and bytes an element. -/
structure STy (P : Program) (t e : TypeId) (size bytes : Nat) : Prop where
  und : P.underlying t = some (.slice e)
  inf : ∃ i z, P.info? e = some i ∧ i.zero = some z ∧ i.size = size ∧ i.bytes = bytes ∧ z.cells.size = size

theorem STy.mk' {P : Program} {t e : TypeId} {size bytes : Nat} {z : Value} (h : P.underlying t = some (.slice e)) (hi : (P.info? e).map (fun i => (i.zero, i.size, i.bytes)) = some (some z, size, bytes)) (hz : z.cells.size = size) : STy P t e size bytes := by
  obtain ⟨i, h1, h2, h3, h4⟩ := info_parts hi
  exact ⟨h, i, z, h1, h2, h3, h4, hz⟩

/-- What append onto an own list leaves. -/
structure ApdS {α : Type} (T : GoT α) (e : TypeId) (w w' : World) (base : Nat) (M : MS) (v v' : Value) (xs : List α) (H : Nat) : Prop where
  own : OwnS T e w' base M xs v'
  grow : w.grownBy w' v.ownBlock
  at_ : v'.ownBlock = v.ownBlock ∨ v'.ownBlock = some H

theorem OwnS.lt {α : Type} {T : GoT α} {e : TypeId} {w : World} {base : Nat} {M : MS} {xs : List α} {v : Value} (h : OwnS T e w base M xs v) : ∀ k, v.ownBlock = some k → base ≤ k ∧ k < w.heap.size := by
  obtain ⟨_, _, _, ho⟩ := h.out
  exact ho.lt
theorem OwnS.pos {α : Type} {T : GoT α} {e : TypeId} {w : World} {base : Nat} {M : MS} {xs : List α} {ao : Option Addr} {n cap : Nat} (h : OwnS T e w base M xs (.slice ao n cap)) (hn : 0 < n) : ∃ g, ao = some ⟨g, 0, none⟩ ∧ base ≤ g ∧ g < w.heap.size := by
  obtain ⟨_, _, _, ho⟩ := h.out
  rcases ho.2 with ⟨h, _⟩ | ⟨g, cap', cur, hv, hg, hh, _⟩
  · cases h; omega
  · cases hv
    exact ⟨g, rfl, hg, (Array.getElem?_eq_some_iff.1 hh).1⟩
theorem OwnS.grow {α : Type} {T : GoT α} {e : TypeId} {w w' : World} {base : Nat} {M : MS} {xs : List α} {v : Value} (h : OwnS T e w base M xs v) (hf : Fr Nob w w') : OwnS T e w' base M xs v := by
  obtain ⟨css, hl, hr, hown⟩ := h.out
  refine ⟨css, hl, fun i hi hi' => T.keep (hr i hi hi') (hf.mono (fun _ _ x => x.elim)) (fun _ _ x => x), hown.1, ?_⟩
  rcases hown.2 with hn | ⟨g, cap, cur, rfl, hg, hh, rest⟩
  · exact .inl hn
  · refine .inr ⟨g, cap, cur, rfl, hg, ?_, rest⟩
    rw [hf.block g (Array.getElem?_eq_some_iff.1 hh).1 (fun x => x)]
    exact hh
theorem RdS.grow {α : Type} {T : GoT α} {w w' : World} {M : MS} {xs : List α} {v : Value} (h : RdS T w M xs v) (hf : Fr Nob w w') : RdS T w' M xs v := h.keep (hf.mono (fun _ _ x => x.elim)) (fun _ _ x => x)

theorem Fr.setM {M : MS} {a w : World} (h : Fr M a w) {b : Nat} (o : Nat) (hM : M b) (u : Value) : Fr M a (w.setCell ⟨b, o, none⟩ u) := h.setCell (fun _ => hM) u
theorem Fr.setNew {M : MS} {a w : World} (h : Fr M a w) {b : Nat} (o : Nat) (hb : a.heap.size ≤ b) (u : Value) : Fr M a (w.setCell ⟨b, o, none⟩ u) := h.setCell (fun h => absurd hb (by simpa using h)) u

/-- A cell that is held while new memory is made. -/
theorem Fr.keepS {a w : World} {p : Addr} {u : Value} (hc : a.cell? p = some u) (h : Fr Nob a w) : w.cell? p = some u ∧ Fr Nob a w := ⟨h.cell hc (fun x => x), h⟩
theorem Blk.drew {w : World} {b : Nat} {t : TypeId} {cs : List Value} (h : Blk w b t cs) : Blk w.drew b t cs := h

/-- One block. -/
def Only (b : Nat) : MS := fun k => k = b
theorem Fr.setOnly {b : Nat} {a w : World} (h : Fr (Only b) a w) (o : Nat) (u : Value) : Fr (Only b) a (w.setCell ⟨b, o, none⟩ u) := h.setM o rfl u
theorem Only.ne {b k : Nat} (h : k ≠ b) : ¬ Only b k := h

/-- What was there when w stood lies in none of the blocks made since. -/
theorem RdS.for_own {α : Type} {T : GoT α} {w w' : World} {M : MS} {xs : List α} {v u : Value} (h : RdS T w M xs v) (hf : Fr M w w') (hu : ∀ k, u.ownBlock = some k → w.heap.size ≤ k) : RdS T w' (MS.with M u) xs v :=
  h.keep hf (fun k hk hm => hm.elim (fun x => x) (fun e => absurd (hu k e) (by omega)))
theorem own_some (b o n c : Nat) (H : Nat) (h : H ≤ b) : ∀ k, (Value.slice (some ⟨b, o, none⟩) n c).ownBlock = some k → H ≤ k := fun k e => by cases e; exact h

/-- A slice literal without elements. -/
theorem OwnS.empty {α : Type} (T : GoT α) (e : TypeId) (w : World) (base : Nat) (M : MS) (b : Nat) (hb : base ≤ b) (h : Blk w b e []) : OwnS T e w base M [] (.slice (some ⟨b, 0, none⟩) 0 0) :=
  ⟨[], rfl, fun i h => by simp at h, ownsRow_empty w base e T.n b hb h⟩
/-- A slice literal of one element. -/
theorem RdS.one {α : Type} {T : GoT α} {w : World} {M : MS} {b c : Nat} {e : TypeId} {x : α} {cs : List Value} (hc : 1 ≤ c) (hb : Blk w b e cs) (hx : T.rd w M x cs) (hM : ¬ M b) : RdS T w M [x] (.slice (some ⟨b, 0, none⟩) 1 c) :=
  ⟨some ⟨b, 0, none⟩, c, rfl, hc, fun i hi => by
    obtain rfl : i = 0 := by simp at hi; omega
    exact ⟨b, 0, cs, rfl, hx, fun _ => hM, fun j u hu => by
      rw [show 0 + 0 * T.n + j = j by omega]
      exact hb.cell hu⟩⟩

section
variable {P : Program} {w : World} {ops : Array Oper} {rest : List Oper} {o : Oper} {a : Act} {Q : Exit → Act → World → Prop} {K : Act → World → Prop}

theorem wp_append_rd {α : Type} (T : GoT α) (s x : Operand) (t tx e : TypeId) (bytes : Nat) (ho : o.op = .call { callee := .builtin .append, args := #[s, x], argTypes := #[t, tx] })
    (hty : STy P t e T.n bytes) (htx : P.underlying tx = some (.slice e)) (base : Nat) (M : MS) (xs ys : List α) (v xv : Value) (hv : a.eval s = v) (hx : a.eval x = xv)
    (hown : OwnS T e w base M xs v) (hsrc : RdS T w (MS.with M v) ys xv) (h63 : xs.length + ys.length ≤ 9223372036854775807) (hbytes : (xs.length + ys.length) * bytes ≤ 140737488355328) (hbase : base ≤ w.heap.size) (zs : List α) (hz : xs ++ ys = zs) (n : Nat) (hn : xs.length + ys.length = n) (H : Nat) (hH : w.heap.size = H)
    (h : ∀ ao cap w', ApdS T e w w' base M v (.slice ao n cap) zs H → K (a.put o.dst (.slice ao n cap)) w') : o.wp P a w K Q := by
  subst hz
  subst hn
  obtain ⟨i, z, hi, hz, hz1, hz2, hz3⟩ := hty.inf
  obtain ⟨css, h1, h2, h3⟩ := hown.out
  obtain ⟨dss, k1, k2, k3⟩ := hsrc.src htx
  refine wp_append_any s x t tx ho base e i z T.n bytes hty.und hi hz hz1 hz2 hz3 v xs.length css.flatten hv h3 xv hx ys.length dss.flatten k3 (by unfold maxLen; omega) hbytes hbase H hH ?_
  intro ao cap w' hap
  have hfr : Fr (MS.with M v) w w' := (Fr.refl _ w).grown hap.grow (fun k hk _ => Or.inr hk)
  have hkeep : ∀ {x : α} {cs : List Value}, T.rd w (MS.with M v) x cs → T.rd w' (MS.with M (.slice ao (xs.length + ys.length) cap)) x cs := fun {x cs} hr =>
    T.keep hr hfr (fun k hk hm => hm.imp (fun x => x) (fun hm => by
      rcases hap.at_ with e | e
      · rw [← e]; exact hm
      · rw [e] at hm; cases hm; omega))
  refine h ao cap w' ⟨⟨css ++ dss, by simp [h1, k1], fun i hi hi' => ?_, ?_⟩, hap.grow, hap.at_⟩
  · by_cases hlt : i < xs.length
    · rw [List.getElem_append_left hlt, List.getElem_append_left (by omega)]
      exact hkeep (h2 i hlt (by omega))
    · rw [List.getElem_append_right (by omega), List.getElem_append_right (by omega)]
      have e1 : i - css.length = i - xs.length := by rw [h1]
      simp only [e1]
      exact hkeep (k2 _ (by simp at hi; omega) (by simp at hi'; omega))
  · have := hap.own
    rw [List.flatten_append, List.length_append]
    exact this

theorem wpList_append_rd {α : Type} (T : GoT α) (hgd : o.guard = none) (s x : Operand) (t tx e : TypeId) (bytes : Nat) (ho : o.op = .call { callee := .builtin .append, args := #[s, x], argTypes := #[t, tx] })
    (hty : STy P t e T.n bytes) (htx : P.underlying tx = some (.slice e)) (base : Nat) (M : MS) (xs ys : List α) (v xv : Value) (hv : a.eval s = v) (hx : a.eval x = xv)
    (hown : OwnS T e w base M xs v) (hsrc : RdS T w (MS.with M v) ys xv) (h63 : xs.length + ys.length ≤ 9223372036854775807) (hbytes : (xs.length + ys.length) * bytes ≤ 140737488355328) (hbase : base ≤ w.heap.size) (zs : List α) (hz : xs ++ ys = zs) (n : Nat) (hn : xs.length + ys.length = n) (H : Nat) (hH : w.heap.size = H)
    (h : ∀ ao cap w', ApdS T e w w' base M v (.slice ao n cap) zs H → wpList P ops Q rest (a.put o.dst (.slice ao n cap)) w') : wpList P ops Q (o :: rest) a w :=
  wpList_plain hgd fun _ hK => wp_append_rd T s x t tx e bytes ho hty htx base M xs ys v xv hv hx hown hsrc h63 hbytes hbase zs hz n hn H hH fun ao cap w' h2 => hK _ _ (h ao cap w' h2)

theorem step_append_rd {α : Type} {E : Prop} (T : GoT α) (hgd : o.guard = none) (s x : Operand) (t tx e : TypeId) (bytes : Nat) (ho : o.op = .call { callee := .builtin .append, args := #[s, x], argTypes := #[t, tx] })
    (hty : STy P t e T.n bytes) (htx : P.underlying tx = some (.slice e)) (base : Nat) (M : MS) (xs ys : List α) (v xv : Value) (hv : a.eval s = v) (hx : a.eval x = xv)
    (hown : OwnS T e w base M xs v) (hsrc : RdS T w (MS.with M v) ys xv) (h63 : xs.length + ys.length ≤ 9223372036854775807) (hbytes : (xs.length + ys.length) * bytes ≤ 140737488355328) (hbase : base ≤ w.heap.size) (zs : List α) (hz : xs ++ ys = zs) (n : Nat) (hn : xs.length + ys.length = n) (H : Nat) (hH : w.heap.size = H)
    (h : ∀ ao cap w', ApdS T e w w' base M v (.slice ao n cap) zs H → K (a.put o.dst (.slice ao n cap)) w') :
    if Region.wanted o (yielded ops a.tmps) = true then Oper.wp P o a w K Q else E := by
  have hw : Region.wanted o (yielded ops a.tmps) = true := by simp [Region.wanted, hgd]
  rw [if_pos hw]
  exact wp_append_rd T s x t tx e bytes ho hty htx base M xs ys v xv hv hx hown hsrc h63 hbytes hbase zs hz n hn H hH h
end

/-- A type without memory behind it. -/
def Flat {α : Type} (T : GoT α) : Prop := ∀ {w w' : World} {M M' : MS} {x : α} {cs : List Value}, T.rd w M x cs → T.rd w' M' x cs
theorem flat_str : Flat tStr := fun h => h
theorem flat_int (k : IntKind) : Flat (tInt k) := fun h => h
theorem flat_bool : Flat tBool := fun h => h

section
variable {P : Program} {w : World} {ops : Array Oper} {rest : List Oper} {o : Oper} {a : Act} {Q : Exit → Act → World → Prop} {K : Act → World → Prop}

theorem wp_append_flat {α : Type} {T : GoT α} (hT : Flat T) (s x : Operand) (t tx e : TypeId) (bytes : Nat) (ho : o.op = .call { callee := .builtin .append, args := #[s, x], argTypes := #[t, tx] })
    (hty : STy P t e T.n bytes) (htx : P.underlying tx = some (.slice e)) (base : Nat) (M N : MS) (xs ys : List α) (v xv : Value) (hv : a.eval s = v) (hx : a.eval x = xv)
    (hown : OwnS T e w base M xs v) (hsrc : RdS T w N ys xv) (h63 : xs.length + ys.length ≤ 9223372036854775807) (hbytes : (xs.length + ys.length) * bytes ≤ 140737488355328) (hbase : base ≤ w.heap.size) (zs : List α) (hz : xs ++ ys = zs) (n : Nat) (hn : xs.length + ys.length = n) (H : Nat) (hH : w.heap.size = H)
    (h : ∀ ao cap w', ApdS T e w w' base M v (.slice ao n cap) zs H → K (a.put o.dst (.slice ao n cap)) w') : o.wp P a w K Q := by
  subst hz
  subst hn
  obtain ⟨i, z, hi, hz, hz1, hz2, hz3⟩ := hty.inf
  obtain ⟨css, h1, h2, h3⟩ := hown.out
  obtain ⟨dss, k1, k2, k3⟩ := hsrc.src htx
  refine wp_append_any s x t tx ho base e i z T.n bytes hty.und hi hz hz1 hz2 hz3 v xs.length css.flatten hv h3 xv hx ys.length dss.flatten k3 (by unfold maxLen; omega) hbytes hbase H hH ?_
  intro ao cap w' hap
  refine h ao cap w' ⟨⟨css ++ dss, by simp [h1, k1], fun i hi hi' => ?_, ?_⟩, hap.grow, hap.at_⟩
  · by_cases hlt : i < xs.length
    · rw [List.getElem_append_left hlt, List.getElem_append_left (by omega)]
      exact hT (h2 i hlt (by omega))
    · rw [List.getElem_append_right (by omega), List.getElem_append_right (by omega)]
      have e1 : i - css.length = i - xs.length := by rw [h1]
      simp only [e1]
      exact hT (k2 _ (by simp at hi; omega) (by simp at hi'; omega))
  · have := hap.own
    rw [List.flatten_append, List.length_append]
    exact this

theorem wpList_append_flat {α : Type} {T : GoT α} (hT : Flat T) (hgd : o.guard = none) (s x : Operand) (t tx e : TypeId) (bytes : Nat) (ho : o.op = .call { callee := .builtin .append, args := #[s, x], argTypes := #[t, tx] })
    (hty : STy P t e T.n bytes) (htx : P.underlying tx = some (.slice e)) (base : Nat) (M N : MS) (xs ys : List α) (v xv : Value) (hv : a.eval s = v) (hx : a.eval x = xv)
    (hown : OwnS T e w base M xs v) (hsrc : RdS T w N ys xv) (h63 : xs.length + ys.length ≤ 9223372036854775807) (hbytes : (xs.length + ys.length) * bytes ≤ 140737488355328) (hbase : base ≤ w.heap.size) (zs : List α) (hz : xs ++ ys = zs) (n : Nat) (hn : xs.length + ys.length = n) (H : Nat) (hH : w.heap.size = H)
    (h : ∀ ao cap w', ApdS T e w w' base M v (.slice ao n cap) zs H → wpList P ops Q rest (a.put o.dst (.slice ao n cap)) w') : wpList P ops Q (o :: rest) a w :=
  wpList_plain hgd fun _ hK => wp_append_flat hT s x t tx e bytes ho hty htx base M N xs ys v xv hv hx hown hsrc h63 hbytes hbase zs hz n hn H hH fun ao cap w' h2 => hK _ _ (h ao cap w' h2)

theorem step_append_flat {α : Type} {E : Prop} {T : GoT α} (hT : Flat T) (hgd : o.guard = none) (s x : Operand) (t tx e : TypeId) (bytes : Nat) (ho : o.op = .call { callee := .builtin .append, args := #[s, x], argTypes := #[t, tx] })
    (hty : STy P t e T.n bytes) (htx : P.underlying tx = some (.slice e)) (base : Nat) (M N : MS) (xs ys : List α) (v xv : Value) (hv : a.eval s = v) (hx : a.eval x = xv)
    (hown : OwnS T e w base M xs v) (hsrc : RdS T w N ys xv) (h63 : xs.length + ys.length ≤ 9223372036854775807) (hbytes : (xs.length + ys.length) * bytes ≤ 140737488355328) (hbase : base ≤ w.heap.size) (zs : List α) (hz : xs ++ ys = zs) (n : Nat) (hn : xs.length + ys.length = n) (H : Nat) (hH : w.heap.size = H)
    (h : ∀ ao cap w', ApdS T e w w' base M v (.slice ao n cap) zs H → K (a.put o.dst (.slice ao n cap)) w') :
    if Region.wanted o (yielded ops a.tmps) = true then Oper.wp P o a w K Q else E := by
  have hw : Region.wanted o (yielded ops a.tmps) = true := by simp [Region.wanted, hgd]
  rw [if_pos hw]
  exact wp_append_flat hT s x t tx e bytes ho hty htx base M N xs ys v xv hv hx hown hsrc h63 hbytes hbase zs hz n hn H hH h
end

/-- append(\[\]T{}, ys...): onto a literal without elements nothing is ever written. -/
theorem wp_append_lit {α : Type} {P : Program} {w : World} {o : Oper} {a : Act} {Q : Exit → Act → World → Prop} {K : Act → World → Prop} (T : GoT α) (s x : Operand) (t tx e : TypeId) (bytes : Nat) (ho : o.op = .call { callee := .builtin .append, args := #[s, x], argTypes := #[t, tx] })
    (hty : STy P t e T.n bytes) (htx : P.underlying tx = some (.slice e)) (base : Nat) (M : MS) (ys : List α) (g : Nat) (xv : Value) (hv : a.eval s = .slice (some ⟨g, 0, none⟩) 0 0) (hx : a.eval x = xv)
    (hg : base ≤ g) (hb : Blk w g e []) (hM : ∀ k, M k → k < base) (hsrc : RdS T w M ys xv) (h63 : ys.length ≤ 9223372036854775807) (hbytes : ys.length * bytes ≤ 140737488355328) (hbase : base ≤ w.heap.size)
    (h : ∀ ao cap w', OwnS T e w' base M ys (.slice ao ys.length cap) → Fr Nob w w' → K (a.put o.dst (.slice ao ys.length cap)) w') : o.wp P a w K Q := by
  obtain ⟨i, z, hi, hz, hz1, hz2, hz3⟩ := hty.inf
  obtain ⟨dss, k1, k2, k3⟩ := hsrc.src htx
  by_cases h0 : ys = []
  · subst h0
    have hd : dss = [] := List.eq_nil_of_length_eq_zero (by simpa using k1)
    subst hd
    have hr : (Builtin.append_ #[t, tx] o.type #[.slice (some ⟨g, 0, none⟩) 0 0, xv]).run P w = .ok (.slice (some ⟨g, 0, none⟩) 0 0) w := by
      have := run_append_room_src (P := P) w t tx o.type e i hty.und hi g 0 0 0 xv 0 [] (by rw [hz1]; exact k3) (by omega) (fun j hj => by simp at hj) (fun j hj => by simp at hj)
      simpa [World.setCells] using this
    unfold Oper.wp execOp
    simp only [ho, resolve, invoke, builtin, Sem.run_bind, Sem.run_pure, Result.andThen_ok, List.map_toArray, List.map_cons, List.map_nil, hv, hx, hr]
    exact h (some ⟨g, 0, none⟩) 0 w (OwnS.empty T e w base M g hg hb) (Fr.refl _ _)
  · have hpos : 0 < ys.length := List.length_pos_iff.2 h0
    have hr := run_append_grow_src (P := P) w t tx o.type e i z hty.und hi hz (some ⟨g, 0, none⟩) 0 0 [] (by simp [Builtin.firstCells, loadCells, loadCellsFrom]) xv ys.length dss.flatten (by rw [hz1]; exact k3) (by omega) (by omega) (growslice_fits (by omega) (by rw [Nat.zero_add, hz2]; exact hbytes))
    have hcap := grownCap_ge w (0 + ys.length) 0 e
    have hcm : grownCap w (0 + ys.length) 0 e ≤ maxLen := grownCap_le_maxLen w _ 0 e (by unfold maxLen; omega)
    simp only [Nat.zero_add, List.nil_append] at hr hcap hcm
    unfold Oper.wp execOp
    simp only [ho, resolve, invoke, builtin, Sem.run_bind, Sem.run_pure, Result.andThen_ok, List.map_toArray, List.map_cons, List.map_nil, hv, hx, hr]
    have hfr : Fr Nob w (w.drew.alloc (.cells (dss.flatten.toArray ++ Builtin.zeroCells z.cells (grownCap w ys.length 0 e - ys.length)) e)) := ((Fr.refl Nob w).drew).alloc _
    have hall : ∀ x ∈ dss, x.length = T.n := fun x hx => by
      obtain ⟨k, hk, rfl⟩ := List.getElem_of_mem hx
      exact T.len (k2 k (by omega) hk)
    have hfl : dss.flatten.length = ys.length * T.n := by rw [flatten_length _ hall, k1]
    refine h _ _ _ ⟨dss, k1, fun j hj hj' => T.keep (k2 j hj hj') (hfr.mono (fun _ _ x => x.elim)) (fun k hk hm => ?_), hfl, .inr ⟨w.heap.size, _, _, rfl, hbase, heap_alloc_new w.drew _, hcap, hcm, ?_, ?_⟩⟩ hfr
    · rcases hm with hm | hm
      · exact hm
      · have : w.heap.size = k := by simpa [Value.ownBlock] using hm
        omega
    · rw [Array.size_append, List.size_toArray, size_zeroCells, hz3, hfl, ← Nat.add_mul]
      congr 1
      omega
    · rw [Array.toList_append, ← hfl]
      exact List.take_left

theorem ApdS.fr {α : Type} {T : GoT α} {e : TypeId} {w w' : World} {base : Nat} {M N : MS} {v v' : Value} {xs : List α} {H : Nat} (h : ApdS T e w w' base M v v' xs H) {a : World} (hf : Fr N a w) (hN : ∀ k, v.ownBlock = some k → k < a.heap.size → N k) : Fr N a w' := hf.grown h.grow hN
theorem ApdS.size {α : Type} {T : GoT α} {e : TypeId} {w w' : World} {base : Nat} {M : MS} {v v' : Value} {xs : List α} {H : Nat} (h : ApdS T e w w' base M v v' xs H) : w.heap.size ≤ w'.heap.size := h.grow.size
theorem ApdS.cell {α : Type} {T : GoT α} {e : TypeId} {w w' : World} {base : Nat} {M : MS} {v v' : Value} {xs : List α} {H : Nat} (h : ApdS T e w w' base M v v' xs H) {p : Addr} {u : Value} (hc : w.cell? p = some u) (hp : v.ownBlock ≠ some p.block) : w'.cell? p = some u :=
  h.grow.cell hc (Ne.symm hp)
end Go.Proofs.Ytjgacikohlnjdaa
