/-
  My own engine, part 5: building values, append, calls; what any operation asks is sound.
-/
import Derived.Test.YthjnknpgcmmapaaEng4
namespace Go.Proofs.Ythjnknpgcmmapaa
set_option linter.unusedVariables false
open Go.RowKit

section
variable {P : Program} {w : World} {K : Value → World → Prop}

theorem set_all (off : Nat) : ∀ (vs : List Value) (k : Nat) (cells : List Value), off + k + vs.length ≤ cells.length →
    (vs.zipIdx k).foldl (fun cs (p : Value × Nat) => cs.set (off + p.2) p.1) cells = cells.take (off + k) ++ vs ++ cells.drop (off + k + vs.length)
  | [], k, cells, h => by simp
  | v :: r, k, cells, h => by
    simp only [List.length_cons] at h
    obtain ⟨A, x, B, rfl, hA⟩ : ∃ A x B, cells = A ++ x :: B ∧ A.length = off + k := by
      refine ⟨cells.take (off + k), cells[off + k]'(by omega), cells.drop (off + k + 1), ?_, by simp; omega⟩
      rw [← List.drop_eq_getElem_cons, List.take_append_drop]
    have hA' : off + k = A.length := hA.symm
    rw [List.zipIdx_cons, List.foldl_cons, set_all off r (k + 1) _ (by simp at h ⊢; omega)]
    have e1 : (A ++ x :: B).set (off + k) v = A ++ v :: B := by rw [hA']; simp
    have e2 : (A ++ v :: B).take (off + (k + 1)) = A ++ [v] := by rw [show off + (k + 1) = A.length + 1 by omega, List.take_length_add_append]; simp
    have e3 : (A ++ v :: B).drop (off + (k + 1) + r.length) = B.drop r.length := by rw [show off + (k + 1) + r.length = A.length + (r.length + 1) by omega, List.drop_length_add_append]; simp
    have e4 : (A ++ x :: B).take (off + k) = A := by rw [hA']; simp
    have e5 : (A ++ x :: B).drop (off + k + (r.length + 1)) = B.drop r.length := by rw [hA', List.drop_length_add_append]; simp
    simp only [List.length_cons] at *
    rw [e1, e2, e3, e4, e5]
    simp

theorem fold_cells (vs cells : Array Value) (off : Nat) (h : off + vs.size ≤ cells.size) :
    vs.zipIdx.foldl (fun cs (p : Value × Nat) => cs.setIfInBounds (off + p.2) p.1) cells = (cells.toList.take off ++ vs.toList ++ cells.toList.drop (off + vs.size)).toArray := by
  have h1 : ∀ (l : List (Value × Nat)) (c : Array Value), (l.foldl (fun cs (p : Value × Nat) => cs.setIfInBounds (off + p.2) p.1) c).toList = l.foldl (fun cs (p : Value × Nat) => cs.set (off + p.2) p.1) c.toList := by
    intro l
    induction l with
    | nil => intro c; rfl
    | cons x r ih => intro c; rw [List.foldl_cons, List.foldl_cons, ih]; simp
  have h2 := set_all off vs.toList 0 cells.toList (by simpa using h)
  apply Array.toList_inj.1
  rw [← Array.foldl_toList, h1, Array.toList_zipIdx, h2]
  simp

theorem fill_eq (place : Nat → Option (Nat × Nat)) : ∀ (ps : List (Nat × Value)) (l : List (Nat × Nat × Value)) (z cells : List Value),
    (ps.map fun p => (place p.1, p.2)) = (l.map fun q => (some (q.1, q.2.1), q.2.2)) → fillL z l = some cells → Instr.fill place z.toArray ps = some cells.toArray
  | [], [], z, cells, _, h => by simp [fillL] at h; subst h; rfl
  | [], _ :: _, z, cells, hm, h => by simp at hm
  | _ :: _, [], z, cells, hm, h => by simp at hm
  | (i, v) :: ps, (off, size, u) :: l, z, cells, hm, h => by
    simp only [List.map_cons, List.cons.injEq, Prod.mk.injEq] at hm
    obtain ⟨⟨hp, rfl⟩, hm⟩ := hm
    simp only [fillL] at h
    split at h
    · rename_i hc
      obtain ⟨h1, h2⟩ := hc
      rw [Instr.fill, hp]
      have h3 : ¬ (v.cells.size ≠ size ∨ off + v.cells.size > z.length) := by omega
      have hfold := fold_cells v.cells z.toArray off (by simp; omega)
      simp only [Bool.or_eq_true, decide_eq_true_eq, List.size_toArray, h3, if_false]
      rw [hfold, ← fill_eq place ps l _ cells hm h, h1]
    · cases h

theorem fieldPl_run : ∀ (fs : List Field) (l : List (Nat × Nat)), fieldPl P fs = some l → (fs.mapM fun f => do pure (f.offset, ← sizeOf f.type) : Sem (List (Nat × Nat))).run P w = .ok l w
  | [], l, h => by simp [fieldPl] at h; subst h; simp
  | f :: r, l, h => by
    simp only [fieldPl] at h
    split at h
    · rename_i n hn
      split at h
      · rename_i l' hl
        cases h
        have ih := fieldPl_run r l' hl
        simp only [bind_pure_comp] at ih
        simp [List.mapM_cons, run_sizeOf hn, ih]
      · cases h
    · cases h

theorem partsAt_map (pl : List (Nat × Nat)) (ev : Operand → Value) : ∀ (ps : List (Nat × Operand)) (l : List (Nat × Nat × Value)), partsAt pl ev ps = some l →
    ((ps.map fun p => (p.1, ev p.2)).map fun p => (pl[p.1]?, p.2)) = (l.map fun q => (some (q.1, q.2.1), q.2.2))
  | [], l, h => by simp [partsAt] at h; subst h; rfl
  | (i, x) :: r, l, h => by
    simp only [partsAt] at h
    split at h
    · rename_i off n hi
      split at h
      · rename_i l' hl
        cases h
        simp [hi, partsAt_map pl ev r l' hl]
      · cases h
    · cases h

theorem build_does {t : TypeId} {fields : Array Field} {i : TypeInfo} {v : Value} {pl : List (Nat × Nat)} {ps : Array (Nat × Operand)} {ev : Operand → Value} {l : List (Nat × Nat × Value)}
    (ht : P.underlying t = some (.struct fields)) (hi : P.info? t = some i) (hv : i.zero = some v) (hpl : fieldPl P fields.toList = some pl) (hl : partsAt pl ev ps.toList = some l)
    (h : HBld v.cells.toList l fun v => K v w) : Does P (do pure (.value (← Instr.build t (ps.map fun (i, x) => (i, ev x))))) w K := by
  obtain ⟨cells, hc, hk⟩ := h
  refine .value ?_ hk
  have h1 : (fields.mapM fun f => do pure (f.offset, ← sizeOf f.type) : Sem (Array (Nat × Nat))).run P w = .ok pl.toArray w := by
    rw [Array.mapM_eq_mapM_toList, Sem.run_map, fieldPl_run _ _ hpl]; rfl
  have h2 := fill_eq (fun j => pl[j]?) (ps.toList.map fun p => (p.1, ev p.2)) l _ cells (by simpa using partsAt_map pl ev _ _ hl) hc
  rw [Array.toArray_toList] at h2
  simp only [Instr.build, Sem.run_bind, run_zeroValue hi hv, run_underlying ht, Result.andThen_ok, h1, Array.toList_map]
  have h3 : (fun x : Nat => (pl.toArray[x]? : Option (Nat × Nat))) = fun j => pl[j]? := by funext j; simp
  rw [h3, h2]
  rfl

theorem buildS_does {t e : TypeId} {i : TypeInfo} {v : Value} {len n : Nat} {ps : Array (Nat × Operand)} {ev : Operand → Value} {l : List (Nat × Nat × Value)}
    (ht : P.underlying t = some (.slice e)) (hi : P.info? e = some i) (hv : i.zero = some v) (hn : tSize P e = some n) (hz : n = v.cells.toList.length) (hle : len * n ≤ 16777216)
    (hl : partsAt ((List.range len).map fun i => (i * n, n)) ev ps.toList = some l) (h : HBldS (zrow v.cells.toList len) l e len w K) :
    Does P (do pure (.value (← Instr.buildSlice t len (ps.map fun (i, x) => (i, ev x))))) w K := by
  obtain ⟨cells, hc, hk⟩ := h
  refine .value ?_ hk
  have hlen : ∀ (ps : List (Nat × Operand)) (l : List (Nat × Nat × Value)), partsAt ((List.range len).map fun i => (i * n, n)) ev ps = some l →
      ((ps.map fun p => (p.1, ev p.2)).map fun p => (some (p.1 * n, n), p.2)) = (l.map fun q => (some (q.1, q.2.1), q.2.2)) := fun ps l h => by
    have := partsAt_map _ ev ps l h
    rw [← this]
    rw [List.map_map, List.map_map]
    have hin : ∀ p ∈ ps, p.1 < len := by
      intro p hp
      have hm : (((List.range len).map fun i => (i * n, n))[p.1]?, ev p.2) ∈ ((ps.map fun p => (p.1, ev p.2)).map fun p => (((List.range len).map fun i => (i * n, n))[p.1]?, p.2)) := by
        simp only [List.map_map, List.mem_map]; exact ⟨p, hp, rfl⟩
      rw [this] at hm
      obtain ⟨q, _, hq⟩ := List.mem_map.1 hm
      simp only [Prod.mk.injEq] at hq
      have := (List.getElem?_eq_some_iff.1 hq.1.symm).1
      simpa using this
    refine List.map_congr_left fun p hp => ?_
    simp [hin p hp]
  have h2 := fill_eq (fun i => some (i * n, n)) (ps.toList.map fun p => (p.1, ev p.2)) l _ cells (hlen _ _ hl) hc
  have hzz : n = v.cells.size := by simpa using hz
  subst hzz
  have hr := zrow_range v.cells len
  simp only [Instr.buildSlice, Sem.run_bind, run_underlying ht, Result.andThen_ok, run_sizeOf hn, show ¬ len * v.cells.size > 2 ^ 24 by omega, if_false]
  by_cases h0 : len * v.cells.size = 0
  · have hz0 : zrow v.cells.toList len = [] := List.eq_nil_of_length_eq_zero (by rw [zrow_length]; simpa using h0)
    rw [hz0] at h2
    have hr0 : (Array.range 0).map (fun i => (#[] : Array Value)[i % (#[] : Array Value).size]!) = #[] := Array.eq_empty_of_size_eq_zero (by simp)
    simp only [h0, if_true, pure_bind, hr0, Array.toList_map]
    rw [show ([] : List Value).toArray = #[] from rfl] at h2
    rw [h2]
    rfl
  · simp only [h0, if_false, pure_bind, Sem.run_bind, run_zeroValue hi hv, Result.andThen_ok, hr, Array.toList_map]
    rw [h2]
    rfl
end
end Go.Proofs.Ythjnknpgcmmapaa
