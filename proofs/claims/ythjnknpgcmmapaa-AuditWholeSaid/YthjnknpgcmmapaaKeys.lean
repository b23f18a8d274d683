/-
  My own library: slices.Sorted(maps.Keys(m)) at a map of int64 keys, over pieces of memory (from the kit's contracts).
-/
import Derived.Test.YthjnknpgcmmapaaSl4
import Derived.Shelf.SlIterI.Nil
import Derived.Shelf.SortM.Plain
import Derived.Shelf.SortM.SortNone
import Derived.WideShapes
namespace Go.Proofs.Ythjnknpgcmmapaa
set_option linter.unusedVariables false
open Go.RowKit Go.Maps Go.Sort Go.Shelf

/-- A map's keys, rising. -/
def skeys {α : Type} (m : List (Int × α)) : List Int := (m.map (·.1)).mergeSort (fun x y => decide (x ≤ y))

section
variable {W w : World} {l : List Chunk} {P : Program} {ρ σ : Ren} {b : Nat} {α : Type} {val : α → Value} {m : List (Int × α)}

/-- Pieces over a call that keeps what was there. -/
theorem SL.kept {w' : World} (h : SL W l w) (hb : Below w.heap.size w w') : SL W l w' := by
  obtain ⟨a1, a2, a3, k, s, x⟩ := h
  refine ⟨hb.os.trans a1, hb.tape.trans a2, hb.output.trans a3, k, s, fun b o e => ?_⟩
  have e1 := x b o e
  rw [hb.block b (Array.getElem?_eq_some_iff.1 e1).1]; exact e1
/-- .. and a new block of it. -/
theorem SL.kept1 {w' : World} {g : Nat} {cs : List Value} {t : TypeId} (h : SL W l w) (hb : Below w.heap.size w w') (hg : w.heap.size ≤ g) (he : w'.heap[g]? = some (.cells cs.toArray t (0, 0))) : SL W (.pt g cs t :: l) w' := by
  obtain ⟨a1, a2, a3, k, s, x⟩ := h
  have hk : k g = none := by
    cases hx : k g with
    | none => rfl
    | some y => have := (Array.getElem?_eq_some_iff.1 (x g y hx)).1; omega
  refine ⟨hb.os.trans a1, hb.tape.trans a2, hb.output.trans a3, fun y => if y = g then some (.cells cs.toArray t (0, 0)) else k y, ⟨Heap.one g (.cells cs.toArray t (0, 0)), k, fun y => ?_, ⟨(0, 0), .inl rfl, rfl⟩, s⟩, fun y o e => ?_⟩
  · by_cases hy : y = g
    · subst hy; exact .inr ⟨hk, by simp [Heap.one]⟩
    · exact .inl ⟨by simp [Heap.one, hy], by simp [hy]⟩
  · by_cases hy : y = g
    · subst hy; simp at e; rw [he, e]
    · simp [hy] at e
      have e1 := x y o e
      rw [hb.block y (Array.getElem?_eq_some_iff.1 e1).1]; exact e1
/-- A row that a call has made. -/
theorem SL.keptRow {w' : World} {v : Value} {n : Nat} {t : TypeId} {xs : List Value} (h : SL W l w) (hb : Below w.heap.size w w') (hr : w'.ownsRow w.heap.size t 1 v n xs) : SL W (.ob (OwnSl v t 1 n xs) :: l) w' := by
  obtain ⟨hx, h2⟩ := hr
  rcases h2 with ⟨rfl, rfl⟩ | ⟨g, cap, cur, rfl, hg, he, h3, h4, h5, h6⟩
  · obtain rfl : xs = [] := List.eq_nil_of_length_eq_zero (by simpa using hx)
    exact OwnSl.nil (h.kept hb)
  · refine OwnSl.mk (rest := cur.toList.drop (n * 1)) h3 hx ?_ (h.kept1 hb hg ?_)
    · rw [List.length_drop, Array.length_toList, h5, Nat.mul_sub_right_distrib]
    · rw [← h6, List.take_append_drop]; exact he

theorem ownsMap_of {H : Type} {kt : TypeId} (hkt : P.underlying kt = some (.int .i64)) (hS : SL W l w) (hm : Has (.ob (MapO (Value.int .i64) val b m)) l) (hlen : m.length ≤ maxLen) (hwf : ∀ p ∈ m, (Lit.int .i64 p.1).wf = true) :
    ∃ D : DataW H, w.ownsMap P kt (fun _ => some (.nil, [])) b m.length D ∧ (intKeys D).Perm (m.map (·.1)) ∧ Maps.size D = m.length := by
  obtain ⟨es, c, e1, e2, hb⟩ := hS.mapAt hm
  have hl : es.length = m.length := by simpa using congrArg List.length e1
  have hkey : ∀ x ∈ es, ∃ p ∈ m, x.key = .int .i64 p.1 := fun x hx => by
    have : kv x ∈ es.map kv := List.mem_map.2 ⟨x, hx, rfl⟩
    rw [e1] at this
    obtain ⟨p, hp, hq⟩ := List.mem_map.1 this
    exact ⟨p, hp, (Prod.mk.inj hq).1.symm⟩
  have hrd : ∀ x ∈ es, ∀ a, x.key = .int .i64 a → WideElems.rd P kt (fun _ => some ((.nil : DataW H), [])) x = some (.int .i64 a, .nil) := fun x hx a ha => by
    obtain ⟨p, hp, hq⟩ := hkey x hx
    rw [ha] at hq; cases hq
    have hw := hwf p hp
    simp [WideElems.rd, keyOf, hkt, mapKey, ha, hw]
  refine ⟨_, ⟨es.toArray, c, hb, ⟨by simpa [hl] using hlen, e2, fun x hx => ?_⟩, by simp [hl], rfl⟩, ?_, ?_⟩
  · obtain ⟨p, hp, hq⟩ := hkey x (by simpa using hx)
    exact ⟨_, hrd x (by simpa using hx) _ hq⟩
  · show (List.map (fun p : Lit × DataW H => Go.intOf p.1) _).Perm _
    refine ((WideShapes.sorted_perm _).map _).trans ?_
    rw [List.map_map]
    have : es.map ((fun p : Lit × DataW H => Go.intOf p.1) ∘ WideElems.rg P kt (fun _ => some ((.nil : DataW H), []))) = m.map (·.1) := by
      have h1 : es.map ((fun p : Lit × DataW H => Go.intOf p.1) ∘ WideElems.rg P kt (fun _ => some ((.nil : DataW H), []))) = (es.map kv).map fun q => match q.1 with | .int _ a => a | _ => 0 := by
        rw [List.map_map]
        refine List.map_congr_left fun x hx => ?_
        obtain ⟨p, hp, hq⟩ := hkey x hx
        simp [WideElems.rg_of (hrd x hx _ hq), kv, hq, Go.intOf]
      rw [h1, e1, List.map_map]
      rfl
    simpa using this ▸ List.Perm.refl _
  · rw [Maps.size_eq, (WideShapes.sorted_perm _).length_eq]; simp [hl]

/-- slices.Sorted(maps.Keys(m)). -/
theorem keysSorted (L7 : SlLaysZI.n7 P ρ) (L6 : SlLaysZI.n6 P σ) (hsort : ∀ m, AnyZI.SortsIn P σ Fence.wide m) (e9 : ∀ args w, (callFunc (σ.f 9) args).run P w = .ok (.enter (σ.f 9) args) w) (e10 : ∀ args w, (callFunc (ρ.f 10) args).run P w = .ok (.enter (ρ.f 10) args) w)
    (hkt : P.underlying (ρ.t 26) = some (.int .i64)) (hS : SL W l w) (hm : Has (.ob (MapO (Value.int .i64) val b m)) l) (hlen : m.length * 8 ≤ 140737488355328) (hwf : ∀ p ∈ m, (Lit.int .i64 p.1).wf = true) {K : Value → World → Prop}
    (h : ∀ v w', SL W (.ob (OwnSl v (σ.t 26) 1 m.length ((skeys m).map (Value.int .i64))) :: l) w' → K v w') :
    HCall P (ρ.f 7) [.map (some b)] w fun v1 w1 => HCall P (σ.f 6) [v1] w1 K := by
  obtain ⟨D, hown, hperm, hsz⟩ := ownsMap_of (H := Unit) hkt hS hm (by unfold maxLen; omega) hwf
  refine (callsIn_wide (n := 5)).1 ((AnyZI.keys_in L7 Fence.wide 5 trivial rfl (some b) w).mono ?_)
  rintro e w1 ⟨rfl, rfl⟩
  refine ⟨_, rfl, ?_⟩
  have hbl := hown.lt
  have hseq : SeqGives Fence.wide 2 P (ρ.f 10) #[.pointer (some ⟨w.heap.size, 0, none⟩)] encZ (fun ss => ss.Perm (intKeys D)) (Maps.size D) (w.alloc (.cells #[.map (some b)] (ρ.t 23))) :=
    AnyZI.keys_gives (ρ := ρ) { L7 with } Fence.wide _ trivial rfl (by omega) w.heap.size b m.length D _ (by simp) (by simp) (by
      obtain ⟨es, clock, hb, Ft, hs, hD⟩ := hown
      exact ⟨es, clock, (Below.heap_alloc _ _ b hbl).trans hb, Ft, hs, hD⟩)
  have cS := AnyZI.sorted_in L6 Fence.wide 5 trivial trivial trivial trivial rfl (by omega) (hsort _) e9 (ρ.f 10) #[.pointer (some ⟨w.heap.size, 0, none⟩)] trivial e10 _ _ (by rw [hsz]; unfold maxLen; omega) (by rw [hsz]; exact hlen) _ hseq
  refine (callsIn_wide (n := 5)).1 (cS.mono ?_)
  rintro e w' ⟨v, ss, rfl, hss, hrow, hnil, hb⟩
  refine ⟨v, rfl, h v w' ?_⟩
  have hp := hss.trans hperm
  have hlen' : ss.length = m.length := by simpa using hp.length_eq
  have hsk : ss.mergeSort (fun x y => decide (x ≤ y)) = skeys m := mergeSort_of_perm_i hp
  rw [hlen', hsk] at hrow
  have hb' : Below w.heap.size w w' := ((Below.refl _ w).alloc (Nat.le_refl _) _).trans (hb.mono (by simp))
  exact hS.keptRow hb' (ownsRow_base_a hrow (by simp))
end
end Go.Proofs.Ythjnknpgcmmapaa
