/-
  My own small library: append onto a row of the call's own, whatever is appended (nil, empty, a string's bytes, a slice); and what a slice that reads as a list yields as a source.
-/
import Derived.Test.YthjnknpgcmmapaaLib1
namespace Go.Proofs.Ythjnknpgcmmapaa
set_option linter.unusedVariables false
open Go.RowKit

/-- What append onto an own row leaves. -/
structure Apd (w w' : World) (base : Nat) (e : TypeId) (size : Nat) (v v' : Value) (n : Nat) (xs : List Value) (H : Nat) : Prop where
  own : w'.ownsRow base e size v' n xs
  grow : w.grownBy w' v.ownBlock
  at_ : v'.ownBlock = v.ownBlock ∨ v'.ownBlock = some H

theorem run_append_any {P : Program} (w : World) (t tx ty : TypeId) (base : Nat) (e : TypeId) (i : TypeInfo) (z : Value) (size bytes : Nat) (ht : P.underlying t = some (.slice e)) (hi : P.info? e = some i) (hz : i.zero = some z)
    (hsize : i.size = size) (hby : i.bytes = bytes) (hzs : z.cells.size = size)
    (v : Value) (n : Nat) (xs : List Value) (hown : w.ownsRow base e size v n xs) (x : Value) (m : Nat) (news : List Value) (hs : Src P size tx x m news w)
    (h63 : n + m ≤ maxLen) (hbytes : (n + m) * bytes ≤ 140737488355328) (hbase : base ≤ w.heap.size) :
    ∃ ao cap w', (Builtin.append_ #[t, tx] ty #[v, x]).run P w = .ok (.slice ao (n + m) cap) w' ∧ Apd w w' base e size v (.slice ao (n + m) cap) (n + m) (xs ++ news) w.heap.size := by
  subst hsize
  subst hby
  have hsmall : n + m ≤ 9223372036854775807 := by simp only [maxLen] at h63; omega
  have hl := hs.newsLen
  have hlen : (xs ++ news).length = (n + m) * i.size := by rw [List.length_append, hown.1, hl, Nat.add_mul]
  have grown : ∀ (old : Nat), old < n + m → ∀ (row : Option Nat),
      (w.drew.alloc (.cells ((xs ++ news).toArray ++ Builtin.zeroCells z.cells (grownCap w (n + m) old e - (n + m))) e)).ownsRow base e i.size
        (.slice (some ⟨w.heap.size, 0, none⟩) (n + m) (grownCap w (n + m) old e)) (n + m) (xs ++ news) ∧
      w.grownBy (w.drew.alloc (.cells ((xs ++ news).toArray ++ Builtin.zeroCells z.cells (grownCap w (n + m) old e - (n + m))) e)) row := by
    intro old ho row
    have hge := grownCap_ge w (n + m) old e
    have hcm : grownCap w (n + m) old e ≤ maxLen := grownCap_le_maxLen w (n + m) old e h63
    refine ⟨⟨hlen, .inr ⟨w.heap.size, _, _, rfl, hbase, heap_alloc_new w.drew _, hge, hcm, ?_, ?_⟩⟩, ⟨rfl, rfl, rfl, by simp, fun k hk _ => Below.heap_alloc w.drew _ k hk⟩⟩
    · rw [Array.size_append, List.size_toArray, size_zeroCells, hzs, hlen, ← Nat.add_mul]
      congr 1
      omega
    · rw [Array.toList_append, ← hlen]
      exact List.take_left
  by_cases hroom : ∃ g cap, v = .slice (some ⟨g, 0, none⟩) n cap ∧ n + m ≤ cap
  · obtain ⟨g, cap, rfl, hroom⟩ := hroom
    rcases hown.2 with ⟨h, _⟩ | ⟨g', cap', cur, hv, hbg, hg, hnc, hcm, hcs, htake⟩
    · cases h
    cases hv
    have hfit : n * i.size + news.length ≤ cur.size := by rw [hl, hcs, ← Nat.add_mul]; exact Nat.mul_le_mul_right _ hroom
    have hcell : ∀ j, j < cur.size → (w.cell? ⟨g, j, none⟩).isSome = true := fun j hj => by rw [cell_of_row w g j cur e (0, 0) hg]; simp [hj]
    have hr := run_append_room_src (P := P) w t tx ty e i ht hi g 0 n cap x m news hs hroom (fun j hj => hcell _ (by omega)) (fun j hj => by simp [World.frozen?, hg])
    have hst := run_storeCells_at P g (n * i.size) e news 0 cur w hg (by simpa using hfit) hs.one
    have hst2 := run_storeCells_cells (P := P) g (n * i.size) news 0 w (fun j hj => hcell _ (by omega)) (fun j hj => by simp [World.frozen?, hg]) hs.one
    simp only [Nat.add_zero, Nat.zero_add] at hr hst hst2
    rw [hst2] at hst
    have hw : w.setCells g (n * i.size) news = w.setRow g (cur.toList.take (n * i.size) ++ news ++ cur.toList.drop (n * i.size + news.length)).toArray := by
      injection hst
    rw [hw] at hr
    refine ⟨_, _, _, hr, ⟨⟨hlen, .inr ⟨g, cap, _, rfl, hbg, setRow_heap w g cur _ e _ hg, hroom, hcm, ?_, ?_⟩⟩, ⟨rfl, rfl, rfl, by simp, fun k _ hk => setRow_other w g k _ (fun e => hk (by simp [Value.ownBlock, e]))⟩, Or.inl rfl⟩⟩
    · simp only [List.size_toArray, List.length_append, List.length_take, List.length_drop, Array.length_toList]
      omega
    · rw [htake, ← hlen]
      exact List.take_left
  · rcases hown.2 with ⟨rfl, rfl⟩ | ⟨g, cap, cur, rfl, hbg, hg, hnc, hcm, hcs, htake⟩
    · have hx : xs = [] := List.eq_nil_of_length_eq_zero (by simpa using hown.1)
      subst hx
      by_cases hm : m = 0
      · subst hm
        have hn : news = [] := List.eq_nil_of_length_eq_zero (by simpa using hl)
        subst hn
        refine ⟨none, 0, w, ?_, ⟨World.ownsRow_nil w base e i.size, ⟨rfl, rfl, rfl, Nat.le_refl _, fun _ _ _ => rfl⟩, Or.inl rfl⟩⟩
        have hc := hs.cells
        rcases hs.kind with ⟨e', hk⟩ | hk <;> simp [Builtin.append_, run_underlying ht, run_underlying hk, sizeOf, typeInfo, hi, hs.len, hc]
      · have hr := run_append_grow_src (P := P) w t tx ty e i z ht hi hz none 0 0 [] (by simp [Builtin.firstCells]) x m news hs (by omega) (by omega) (growslice_fits (by omega) hbytes)
        have hgr := grown 0 (by omega) (Value.ownBlock (.slice none 0 0))
        exact ⟨_, _, _, hr, ⟨hgr.1, hgr.2, Or.inr rfl⟩⟩
    · have hroom' : ¬ n + m ≤ cap := fun h => hroom ⟨g, cap, rfl, h⟩
      have holds : ∀ j u, xs[j]? = some u → w.cell? ((⟨g, 0, none⟩ : Addr).add j) = some u := hown.cells (g := g) rfl
      have hr := run_append_grow_src (P := P) w t tx ty e i z ht hi hz (some ⟨g, 0, none⟩) n cap xs (run_firstCells_some w.drew i.size n ⟨g, 0, none⟩ n cap xs hown.1 holds) x m news hs (by omega) (by omega) (growslice_fits (by omega) hbytes)
      have hgr := grown cap (by omega) (Value.ownBlock (.slice (some ⟨g, 0, none⟩) n cap))
      exact ⟨_, _, _, hr, ⟨hgr.1, hgr.2, Or.inr rfl⟩⟩

section
variable {P : Program} {w : World} {ops : Array Oper} {rest : List Oper} {o : Oper} {a : Act} {Q : Exit → Act → World → Prop} {K : Act → World → Prop}

theorem wp_append_any (s x : Operand) (t tx : TypeId) (ho : o.op = .call { callee := .builtin .append, args := #[s, x], argTypes := #[t, tx] })
    (base : Nat) (e : TypeId) (i : TypeInfo) (z : Value) (size bytes : Nat) (ht : P.underlying t = some (.slice e)) (hi : P.info? e = some i) (hz : i.zero = some z)
    (hsize : i.size = size) (hby : i.bytes = bytes) (hzs : z.cells.size = size)
    (v : Value) (n : Nat) (xs : List Value) (hv : a.eval s = v) (hown : w.ownsRow base e size v n xs) (xv : Value) (hx : a.eval x = xv) (m : Nat) (news : List Value) (hs : Src P size tx xv m news w)
    (h63 : n + m ≤ maxLen) (hbytes : (n + m) * bytes ≤ 140737488355328) (hbase : base ≤ w.heap.size) (H : Nat) (hH : w.heap.size = H)
    (h : ∀ ao cap w', Apd w w' base e size v (.slice ao (n + m) cap) (n + m) (xs ++ news) H → K (a.put o.dst (.slice ao (n + m) cap)) w') : o.wp P a w K Q := by
  obtain ⟨ao, cap, w', hr, h2⟩ := run_append_any (P := P) w t tx o.type base e i z size bytes ht hi hz hsize hby hzs v n xs hown xv m news hs h63 hbytes hbase
  subst hH
  unfold Oper.wp execOp
  simp only [ho, resolve, invoke, builtin, Sem.run_bind, Sem.run_pure, Result.andThen_ok, List.map_toArray, List.map_cons, List.map_nil, hv, hx, hr]
  exact h ao cap w' h2

theorem wpList_append_any (hgd : o.guard = none) (s x : Operand) (t tx : TypeId) (ho : o.op = .call { callee := .builtin .append, args := #[s, x], argTypes := #[t, tx] })
    (base : Nat) (e : TypeId) (i : TypeInfo) (z : Value) (size bytes : Nat) (ht : P.underlying t = some (.slice e)) (hi : P.info? e = some i) (hz : i.zero = some z)
    (hsize : i.size = size) (hby : i.bytes = bytes) (hzs : z.cells.size = size)
    (v : Value) (n : Nat) (xs : List Value) (hv : a.eval s = v) (hown : w.ownsRow base e size v n xs) (xv : Value) (hx : a.eval x = xv) (m : Nat) (news : List Value) (hs : Src P size tx xv m news w)
    (h63 : n + m ≤ maxLen) (hbytes : (n + m) * bytes ≤ 140737488355328) (hbase : base ≤ w.heap.size) (H : Nat) (hH : w.heap.size = H)
    (h : ∀ ao cap w', Apd w w' base e size v (.slice ao (n + m) cap) (n + m) (xs ++ news) H → wpList P ops Q rest (a.put o.dst (.slice ao (n + m) cap)) w') : wpList P ops Q (o :: rest) a w :=
  wpList_plain hgd fun _ hK => wp_append_any s x t tx ho base e i z size bytes ht hi hz hsize hby hzs v n xs hv hown xv hx m news hs h63 hbytes hbase H hH fun ao cap w' h2 => hK _ _ (h ao cap w' h2)

theorem step_append_any {E : Prop} (hgd : o.guard = none) (s x : Operand) (t tx : TypeId) (ho : o.op = .call { callee := .builtin .append, args := #[s, x], argTypes := #[t, tx] })
    (base : Nat) (e : TypeId) (i : TypeInfo) (z : Value) (size bytes : Nat) (ht : P.underlying t = some (.slice e)) (hi : P.info? e = some i) (hz : i.zero = some z)
    (hsize : i.size = size) (hby : i.bytes = bytes) (hzs : z.cells.size = size)
    (v : Value) (n : Nat) (xs : List Value) (hv : a.eval s = v) (hown : w.ownsRow base e size v n xs) (xv : Value) (hx : a.eval x = xv) (m : Nat) (news : List Value) (hs : Src P size tx xv m news w)
    (h63 : n + m ≤ maxLen) (hbytes : (n + m) * bytes ≤ 140737488355328) (hbase : base ≤ w.heap.size) (H : Nat) (hH : w.heap.size = H)
    (h : ∀ ao cap w', Apd w w' base e size v (.slice ao (n + m) cap) (n + m) (xs ++ news) H → K (a.put o.dst (.slice ao (n + m) cap)) w') :
    if Region.wanted o (yielded ops a.tmps) = true then Oper.wp P o a w K Q else E := by
  have hw : Region.wanted o (yielded ops a.tmps) = true := by simp [Region.wanted, hgd]
  rw [if_pos hw]
  exact wp_append_any s x t tx ho base e i z size bytes ht hi hz hsize hby hzs v n xs hv hown xv hx m news hs h63 hbytes hbase H hH h
end

/-- The cells of a list that is read, as append's source. -/
theorem RdS.src {P : Program} {α : Type} {T : GoT α} {w : World} {M : MS} {xs : List α} {v : Value} {t e : TypeId} (h : RdS T w M xs v) (ht : P.underlying t = some (.slice e)) :
    ∃ css : List (List Value), css.length = xs.length ∧ (∀ i (h : i < xs.length) (h' : i < css.length), T.rd w M xs[i] css[i]) ∧ Src P T.n t v xs.length css.flatten w := by
  obtain ⟨a, cap, rfl, hc, hx⟩ := h.out
  by_cases h0 : xs = []
  · subst h0
    refine ⟨[], rfl, fun i h => by simp at h, ?_⟩
    cases a with
    | none => exact Src.ofNil w ht cap
    | some p => exact Src.ofSlice w ht p 0 cap [] (by simp) (fun j u hu => by simp at hu) (fun u hu => by cases hu)
  · have hp : 0 < xs.length := List.length_pos_iff.2 h0
    obtain ⟨b, off, cap', hv, _, hx2⟩ := h.pos hp
    cases hv
    let f : (i : Nat) → List Value := fun i => if h : i < xs.length then Classical.choose (hx2 i h) else []
    have hf : ∀ i (h : i < xs.length), T.rd w M xs[i] (f i) ∧ At w M b (off + i * T.n) (f i) := fun i h => by
      simp only [f, h, dite_true]; exact Classical.choose_spec (hx2 i h)
    refine ⟨(List.range xs.length).map f, by simp, fun i h h' => by simpa using (hf i h).1, ?_⟩
    have hall : ∀ x ∈ (List.range xs.length).map f, x.length = T.n := fun x hx => by
      obtain ⟨i, hi, rfl⟩ := List.mem_map.1 hx
      exact T.len (hf i (by simpa using hi)).1
    refine Src.ofSlice w ht ⟨b, off, none⟩ _ _ _ (by rw [flatten_length _ hall]; simp) (fun j u hu => ?_) (fun u hu => ?_)
    · have hj := (List.getElem?_eq_some_iff.1 hu).1
      rw [flatten_length _ hall] at hj
      simp only [List.length_map, List.length_range] at hj
      have hn : 0 < T.n := Nat.pos_of_ne_zero (fun e => by rw [e] at hj; omega)
      have hi : j / T.n < xs.length := (Nat.div_lt_iff_lt_mul hn).2 hj
      have hr : j % T.n < T.n := Nat.mod_lt _ hn
      have hd := Nat.div_add_mod j T.n
      obtain ⟨h1, h2⟩ := hf _ hi
      have hl := T.len h1
      have hg : (f (j / T.n))[j % T.n]? = some ((f (j / T.n))[j % T.n]'(by omega)) := List.getElem?_eq_getElem (by omega)
      have h3 := flatten_get _ hall (j / T.n) (j % T.n) (by simpa using hi) ((f (j / T.n))[j % T.n]'(by omega)) (by simp only [List.getElem_map, List.getElem_range]; exact hg)
      rw [show j / T.n * T.n + j % T.n = j by rw [Nat.mul_comm]; exact hd, hu] at h3
      have h4 := h2.2 _ _ hg
      rw [Addr.add_lit, h3, ← h4, show off + j / T.n * T.n + j % T.n = off + j by rw [Nat.mul_comm]; omega]
    · obtain ⟨x, hx', hu'⟩ := List.mem_flatten.1 hu
      obtain ⟨i, hi, rfl⟩ := List.mem_map.1 hx'
      exact T.one (hf i (by simpa using hi)).1 u hu'

/-- A slice literal of no elements. -/
theorem ownsRow_empty (w : World) (base : Nat) (e : TypeId) (size b : Nat) (hb : base ≤ b) (h : w.heap[b]? = some (.cells #[] e (0, 0))) : w.ownsRow base e size (.slice (some ⟨b, 0, none⟩) 0 0) 0 [] :=
  ⟨by simp, .inr ⟨b, 0, #[], rfl, hb, h, Nat.le_refl _, by simp, by simp, by simp⟩⟩

theorem Fr.apd {M : MS} {a w w' : World} {base : Nat} {e : TypeId} {size : Nat} {v v' : Value} {n : Nat} {xs : List Value} {H : Nat} (h : Fr M a w) (hg : Apd w w' base e size v v' n xs H) (hr : ∀ k, v.ownBlock = some k → k < a.heap.size → M k) : Fr M a w' :=
  h.grown hg.grow hr
end Go.Proofs.Ythjnknpgcmmapaa
