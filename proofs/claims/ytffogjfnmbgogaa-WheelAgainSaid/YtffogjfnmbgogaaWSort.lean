/-
  slices.SortFunc at the wheel's timers (from the kit's contract), over pieces of memory.
-/
import Derived.Test.YtffogjfnmbgogaaWheelS2
import Derived.Test.YtffogjfnmbgogaaLayW
namespace Go.Proofs.Ytffogjfnmbgogaa
set_option linter.unusedVariables false
set_option maxRecDepth 100000
open Go.RowKit Go.Sort Go.Shelf

/-! ### A world that has only grown -/
def Grown (W w : World) : Prop := ∃ q os, w = grow (W.drewN q) os
theorem Grown.refl (W : World) : Grown W W := ⟨0, #[], by simp [World.drewN]⟩
theorem Grown.alloc {W w : World} (h : Grown W w) (o : Obj) : Grown W (w.alloc o) := by
  obtain ⟨q, os, rfl⟩ := h
  exact ⟨q, os ++ #[o], by rw [alloc_eq_grow, grow_grow]⟩
theorem Grown.drew {W w : World} (h : Grown W w) : Grown W w.drew := by
  obtain ⟨q, os, rfl⟩ := h
  exact ⟨q + 1, os, rfl⟩
section
variable {W0 W w : World} {l l' : List Chunk} {P : Program}
theorem g_new {cs : List Value} {t : TypeId} {K : Value → World → Prop} (hS : SL W l w) (hG : Grown W0 w) (h : ∀ b w', SL W (.pt b cs t :: l) w' → Grown W0 w' → K (.pointer (some ⟨b, 0, none⟩)) w') : HNew cs t w K := h _ _ hS.new (hG.alloc _)
theorem g_draw {K : World → Prop} (hS : SL W l w) (hG : Grown W0 w) (h : ∀ w', SL W l w' → Grown W0 w' → K w') : HDraw w K := h _ hS.drew hG.drew
theorem g_bldS {z cells : List Value} {ps : List (Nat × Nat × Value)} {e : TypeId} {n : Nat} {K : Value → World → Prop} (hS : SL W l w) (hG : Grown W0 w) (hc : fillL z ps = some cells)
    (h : ∀ b w', SL W (.pt b cells e :: l) w' → Grown W0 w' → K (.slice (some ⟨b, 0, none⟩) n n) w') : HBldS z ps e n w K := ⟨cells, hc, h _ _ hS.new (hG.alloc _)⟩
theorem SL.grow {os : Array Obj} (hS : SL W l w) : SL W l (Go.Sort.grow w os) :=
  ⟨hS.os, hS.tape, hS.output, let ⟨k, s, m⟩ := hS.out; ⟨k, s, fun b o e => by
    have := m b o e
    have hlt := (Array.getElem?_eq_some_iff.1 this).1
    show (w.heap ++ os)[b]? = some o
    rw [Array.getElem?_append_left hlt]; exact this⟩⟩
theorem SL.none (w : World) : SL w [] w := ⟨rfl, rfl, rfl, Heap.emp, rfl, fun b o e => by cases e⟩
theorem putCells_row (F : Array Value) (cells rest : List Value) (h : cells.length = F.size) : putCells id 0 F (cells ++ rest).toArray = (F.toList ++ rest).toArray := by
  apply Array.ext_getElem?
  intro k
  simp only [putCells, Array.getElem?_mapIdx, List.getElem?_toArray]
  by_cases hk : k < F.size
  · rw [List.getElem?_append_left (by omega), List.getElem?_append_left (by simpa using hk)]
    have e1 : cells[k]? = some (cells[k]'(by omega)) := List.getElem?_eq_getElem (by omega)
    have hk2 : 0 ≤ k ∧ k < 0 + F.size := by omega
    rw [e1]
    simp [hk, getElem!_pos]
  · rw [List.getElem?_append_right (by omega), List.getElem?_append_right (by simpa using hk)]
    have hk2 : ¬ (0 ≤ k ∧ k < 0 + F.size) := by omega
    simp only [hk2, if_false, Array.length_toList, h]
    cases rest[k - F.size]? <;> rfl
theorem SL.putRow {b n : Nat} {t : TypeId} {cells rest : List Value} {F : Array Value} (hS : SL W (.pt b (cells ++ rest) t :: l) w) (h : cells.length = F.size) : SL W (.pt b (F.toList ++ rest) t :: l) (Go.Sort.putRow id (Go.Sort.ahead w n) b 0 F) := by
  obtain ⟨f, hf, e⟩ := hS.blk .hd
  refine hS.upd (b := b) (o' := .cells (F.toList ++ rest).toArray t f) .hd (fun k hk => by obtain ⟨f, _, rfl⟩ := hk; exact ⟨_, rfl⟩) ⟨f, by simpa [← h] using hf, rfl⟩ ?_ ?_ rfl rfl rfl
  · show (w.heap.modify b _)[b]? = _
    rw [Array.getElem?_modify]
    simp [e, onCells, putCells_row F cells rest h]
  · intro x hx
    show (w.heap.modify b _)[x]? = _
    rw [Array.getElem?_modify, if_neg (fun e => hx e.symm)]
theorem flatK_list {α : Type} [Inhabited α] {enc : α → List Value} {k : Nat} (hk : ∀ x, (enc x).length = k) (xs : List α) : (flatK enc k xs.toArray).toList = (xs.map enc).flatten := by
  have hl := flat_len hk xs
  refine List.ext_getElem? fun t => ?_
  by_cases ht : t < xs.length * k
  · have k0 : 0 < k := by
      rcases Nat.eq_zero_or_pos k with h | h
      · subst h; omega
      · exact h
    have h1 : t / k < xs.length := (Nat.div_lt_iff_lt_mul k0).2 ht
    have h2 : t % k < (enc xs[t / k]).length := by rw [hk]; exact Nat.mod_lt _ k0
    have h3 := flat_at hk xs (t / k) (t % k) xs[t / k] ((enc xs[t / k])[t % k]) (by simp [h1]) (by simp [h2])
    rw [show t / k * k + t % k = t by rw [Nat.mul_comm]; exact Nat.div_add_mod t k] at h3
    rw [h3]
    have h4 : (flatK enc k xs.toArray)[t]! = (enc xs.toArray[t / k]!)[t % k]! := get_flatK enc k xs.toArray t (by simpa using ht)
    have h5 : xs.toArray[t / k]! = xs[t / k] := by simp [h1, getElem!_pos]
    rw [h5] at h4
    rw [Array.getElem?_toList, Array.getElem?_eq_getElem (by simpa using ht)]
    rw [getElem!_pos _ _ (by simpa using ht)] at h4
    rw [h4]
    congr 1
    exact List.getElem!_eq_getElem?_getD.trans (by simp [h2])
  · rw [List.getElem?_eq_none (by simp; omega), List.getElem?_eq_none (by omega)]
end

/-! ### The order -/
def cmpI (a b : Int) : Int := if a < b then -1 else if b < a then 1 else 0
def cfT (x y : Tm) : Int := if cmpI x.when y.when ≠ 0 then cmpI x.when y.when else cmpI x.id y.id
theorem lt_cfT (x y : Tm) : cfT x y < 0 ↔ tmLt x y := by
  unfold cfT cmpI tmLt
  repeat' split
  all_goals omega
theorem ltOf_cfT (x y : Tm) : ltOf cfT x y = true ↔ tmLt x y := by unfold ltOf; rw [decide_eq_true_iff]; exact lt_cfT x y
theorem ltOf_cfT' (x y : Tm) : ltOf cfT x y = false ↔ ¬ tmLt x y := by unfold ltOf; rw [decide_eq_false_iff_not, lt_cfT]
theorem swoT : SWO (ltOf cfT) where
  irrefl x := by rw [ltOf_cfT']; unfold tmLt; omega
  trans x y z h1 h2 := by rw [ltOf_cfT] at *; unfold tmLt at *; omega
  ntrans x y z h1 h2 := by rw [ltOf_cfT'] at *; unfold tmLt at *; omega
theorem totalT (x y : Tm) (h1 : ltOf cfT x y = false) (h2 : ltOf cfT y x = false) : x = y := by
  rw [ltOf_cfT'] at *
  obtain ⟨a, b⟩ := x
  obtain ⟨c, d⟩ := y
  unfold tmLt at *
  simp only at *
  simp only [Tm.mk.injEq]
  omega
def sortT (xs : List Tm) : List Tm := xs.mergeSort fun x y => !(ltOf cfT) y x
theorem sortT_perm (xs : List Tm) : (sortT xs).Perm xs := List.mergeSort_perm _ _
theorem sortT_sorted (xs : List Tm) : (sortT xs).Pairwise fun x y => ¬ tmLt y x := by
  have h := List.pairwise_mergeSort (le := fun x y => !(ltOf cfT) y x) (fun a b c h1 h2 => by
    simp only [Bool.not_eq_true'] at *; exact swoT.ntrans c b a h2 h1) (fun a b => by
    by_cases h : tmLt b a
    · have : ¬ tmLt a b := by unfold tmLt at *; omega
      simp [(ltOf_cfT' a b).2 this]
    · simp [(ltOf_cfT' b a).2 h]) xs
  refine h.imp fun {x y} hxy => ?_
  rw [Bool.not_eq_true'] at hxy
  exact (ltOf_cfT' y x).1 hxy

/-! ### The closure -/
theorem isNaN_pure {K : Value → World → Prop} {w : World} {a : Int} (h : K (.bool false) w) : HCall Try.prog 96 [.int .i64 a] w K := by
  apply vc96; unfold Vc96
  refine s_ne ?_
  simpa using h
theorem isNaN64_pure {K : Value → World → Prop} {w : World} {a : Int} (h : K (.bool false) w) : HCall Try.prog 95 [.int .i64 a] w K := by
  apply vc95; unfold Vc95
  refine s_ne ?_
  simpa using h
theorem cmp_pure {K : Value → World → Prop} {w : World} {a b : Int} (h : K (.int .i64 (cmpI a b)) w) : HCall Try.prog 81 [.int .i64 a, .int .i64 b] w K := by
  apply vc81; unfold Vc81
  unfold cmpI at h
  refine isNaN_pure (isNaN_pure (s_iff (s_iff (s_lt (s_ifp (fun h1 => ?_) (fun h1 => s_gt (s_ifp (fun h2 => ?_) (fun h2 => ?_))))))))
  · rwa [if_pos h1] at h
  · rwa [if_neg h1, if_pos h2] at h
  · rwa [if_neg h1, if_neg h2] at h
theorem cmp64_pure {K : Value → World → Prop} {w : World} {a b : Int} (h : K (.int .i64 (cmpI a b)) w) : HCall Try.prog 80 [.int .i64 a, .int .i64 b] w K := by
  apply vc80; unfold Vc80
  unfold cmpI at h
  refine isNaN64_pure (isNaN64_pure (s_iff (s_iff (s_lt (s_ifp (fun h1 => ?_) (fun h1 => s_gt (s_ifp (fun h2 => ?_) (fun h2 => ?_))))))))
  · rwa [if_pos h1] at h
  · rwa [if_neg h1, if_pos h2] at h
  · rwa [if_neg h1, if_neg h2] at h
theorem or_pure {K : Value → World → Prop} {W w : World} {l : List Chunk} {b : Nat} {c d : Int} {t : TypeId} (hS : SL W (.pt b [.int .i64 c, .int .i64 d] t :: l) w) (h : K (.int .i64 (if c ≠ 0 then c else d)) w) : HCall Try.prog 79 [.slice (some ⟨b, 0, none⟩) 2 2] w K := by
  apply vc79; unfold Vc79
  refine s_lenS ?_
  refine ⟨fun us w' => ∃ k : Nat, us = [.int .i64 k] ∧ k ≤ 2 ∧ w' = w ∧ (1 ≤ k → c = 0) ∧ (2 ≤ k → d = 0), fun us _ => match us with | [.int _ k] => (2 - k).toNat | _ => 0, ⟨0, rfl, by omega, rfl, by omega, by omega⟩, ?_⟩
  rintro v8 w' ⟨k, hv, hk, rfl, h1, h2⟩
  cases hv
  refine s_lt ?_
  refine s_ifp (fun hlt => ?_) (fun hlt => ?_)
  · have hk2 : k = 0 ∨ k = 1 := by omega
    rcases hk2 with rfl | rfl
    · refine s_idx (by decide) (s_ld hS .hd (v := .int .i64 c) rfl (s_ne (s_ifp (fun hc => ?_) (fun hc => ?_))))
      · rwa [if_pos hc] at h
      · refine s_add1 (by decide) ⟨⟨1, rfl, by omega, rfl, fun _ => by omega, fun h => by omega⟩, by dsimp only; omega⟩
    · have hc := h1 (by omega)
      refine s_idx (by decide) (s_ld hS .hd (v := .int .i64 d) rfl (s_ne (s_ifp (fun hd => ?_) (fun hd => ?_))))
      · rwa [if_neg (by omega)] at h
      · refine s_add1 (by decide) ⟨⟨2, rfl, by omega, rfl, fun _ => hc, fun _ => by omega⟩, by dsimp only; omega⟩
  · have hc := h1 (by omega)
    have hd := h2 (by omega)
    rw [if_neg (by omega), hd] at h
    exact h
theorem turnC (x y : Tm) (W : World) : HCall Try.prog 78 [agg (encTm x), agg (encTm y)] W fun v w => v = .int .i64 (cfT x y) ∧ Grown W w := by
  apply vc78; unfold Vc78
  have hS := SL.none W
  have hG := Grown.refl W
  refine ⟨_, rfl, g_new hS hG ?_⟩
  clear hS hG; intro b1 w hS hG
  refine ⟨_, rfl, g_new hS hG ?_⟩
  clear hS hG; intro b2 w hS hG
  refine g_draw hS hG ?_
  clear hS hG; intro w hS hG
  (repeat (first | (with_reducible refine s_nil ?_) | (with_reducible refine s_ext20 ?_) | (with_reducible refine s_ext21 ?_) | (with_reducible refine s_ext30 ?_) | (with_reducible refine s_ext31 ?_) | (with_reducible refine s_ext32 ?_) | (with_reducible refine s_ext40 ?_) | (with_reducible refine s_ext41 ?_) | (with_reducible refine s_ext42 ?_) | (with_reducible refine s_ext43 ?_) | (with_reducible refine s_fld ?_) | (with_reducible refine s_lenS ?_) | (with_reducible refine s_lenT ?_) | (with_reducible refine s_eq ?_) | (with_reducible refine s_ne ?_) | (with_reducible refine s_lt ?_) | (with_reducible refine s_le ?_) | (with_reducible refine s_gt ?_) | (with_reducible refine s_ge ?_) | (with_reducible refine s_eqs ?_) | (with_reducible refine s_nes ?_) | (with_reducible refine s_eqb ?_) | (with_reducible refine s_neb ?_) | (with_reducible refine s_eqp ?_) | (with_reducible refine s_nep ?_) | (with_reducible refine s_not ?_) | (with_reducible refine s_min ?_) | (with_reducible refine s_max ?_) | ((with_reducible apply s_ld hS); (focus (first | exact .hd | exact .tl .hd | exact .tl (.tl .hd) | exact .tl (.tl (.tl .hd)) | exact .tl (.tl (.tl (.tl .hd))) | exact .tl (.tl (.tl (.tl (.tl .hd)))) | exact .tl (.tl (.tl (.tl (.tl (.tl .hd))))) | exact .tl (.tl (.tl (.tl (.tl (.tl (.tl .hd)))))))); (focus rfl)) | ((with_reducible apply s_add1); (focus omega)) | ((with_reducible apply s_addn); (focus omega)) | ((with_reducible apply s_add); (focus omega)) | ((with_reducible apply s_remn); (focus omega)) | ((with_reducible apply s_sub); (focus omega)) | ((with_reducible apply s_st hS); (focus (repeat (first | exact Upd.hd | apply Upd.tl))); (focus rfl); (focus (first | rfl | assumption)); clear hS; intro w hS; simp only [List.set] at hS) | ((with_reducible refine s_draw hS ?_); clear hS; intro w hS) | ((with_reducible refine s_new hS ?_); clear hS; intro b w hS) | ((with_reducible apply s_stN0 hS); (focus (repeat (first | exact Upd.hd | apply Upd.tl))); (focus rfl); (focus rfl); (focus (simp [Value.oneCell']; done)); clear hS; intro w hS) | ((with_reducible apply s_ldN0 hS); (focus (first | exact .hd | exact .tl .hd | exact .tl (.tl .hd) | exact .tl (.tl (.tl .hd)) | exact .tl (.tl (.tl (.tl .hd))) | exact .tl (.tl (.tl (.tl (.tl .hd)))) | exact .tl (.tl (.tl (.tl (.tl (.tl .hd))))) | exact .tl (.tl (.tl (.tl (.tl (.tl (.tl .hd)))))))); (focus rfl)) | ((with_reducible apply s_bld); (focus (simp [fillL, Value.cells]; rfl))) | ((with_reducible apply s_bldS hS); (focus (simp [fillL, Value.cells, zrow]; rfl)); clear hS; intro b w hS) | (with_reducible refine s_ift ?_) | (with_reducible refine s_iff ?_) | (with_reducible refine s_same ?_)))
  refine cmp64_pure ?_
  (repeat (first | (with_reducible refine s_nil ?_) | (with_reducible refine s_ext20 ?_) | (with_reducible refine s_ext21 ?_) | (with_reducible refine s_ext30 ?_) | (with_reducible refine s_ext31 ?_) | (with_reducible refine s_ext32 ?_) | (with_reducible refine s_ext40 ?_) | (with_reducible refine s_ext41 ?_) | (with_reducible refine s_ext42 ?_) | (with_reducible refine s_ext43 ?_) | (with_reducible refine s_fld ?_) | (with_reducible refine s_lenS ?_) | (with_reducible refine s_lenT ?_) | (with_reducible refine s_eq ?_) | (with_reducible refine s_ne ?_) | (with_reducible refine s_lt ?_) | (with_reducible refine s_le ?_) | (with_reducible refine s_gt ?_) | (with_reducible refine s_ge ?_) | (with_reducible refine s_eqs ?_) | (with_reducible refine s_nes ?_) | (with_reducible refine s_eqb ?_) | (with_reducible refine s_neb ?_) | (with_reducible refine s_eqp ?_) | (with_reducible refine s_nep ?_) | (with_reducible refine s_not ?_) | (with_reducible refine s_min ?_) | (with_reducible refine s_max ?_) | ((with_reducible apply s_ld hS); (focus (first | exact .hd | exact .tl .hd | exact .tl (.tl .hd) | exact .tl (.tl (.tl .hd)) | exact .tl (.tl (.tl (.tl .hd))) | exact .tl (.tl (.tl (.tl (.tl .hd)))) | exact .tl (.tl (.tl (.tl (.tl (.tl .hd))))) | exact .tl (.tl (.tl (.tl (.tl (.tl (.tl .hd)))))))); (focus rfl)) | ((with_reducible apply s_add1); (focus omega)) | ((with_reducible apply s_addn); (focus omega)) | ((with_reducible apply s_add); (focus omega)) | ((with_reducible apply s_remn); (focus omega)) | ((with_reducible apply s_sub); (focus omega)) | ((with_reducible apply s_st hS); (focus (repeat (first | exact Upd.hd | apply Upd.tl))); (focus rfl); (focus (first | rfl | assumption)); clear hS; intro w hS; simp only [List.set] at hS) | ((with_reducible refine s_draw hS ?_); clear hS; intro w hS) | ((with_reducible refine s_new hS ?_); clear hS; intro b w hS) | ((with_reducible apply s_stN0 hS); (focus (repeat (first | exact Upd.hd | apply Upd.tl))); (focus rfl); (focus rfl); (focus (simp [Value.oneCell']; done)); clear hS; intro w hS) | ((with_reducible apply s_ldN0 hS); (focus (first | exact .hd | exact .tl .hd | exact .tl (.tl .hd) | exact .tl (.tl (.tl .hd)) | exact .tl (.tl (.tl (.tl .hd))) | exact .tl (.tl (.tl (.tl (.tl .hd)))) | exact .tl (.tl (.tl (.tl (.tl (.tl .hd))))) | exact .tl (.tl (.tl (.tl (.tl (.tl (.tl .hd)))))))); (focus rfl)) | ((with_reducible apply s_bld); (focus (simp [fillL, Value.cells]; rfl))) | ((with_reducible apply s_bldS hS); (focus (simp [fillL, Value.cells, zrow]; rfl)); clear hS; intro b w hS) | (with_reducible refine s_ift ?_) | (with_reducible refine s_iff ?_) | (with_reducible refine s_same ?_)))
  refine cmp_pure ?_
  refine g_bldS hS hG (cells := [.int .i64 (cmpI x.when y.when), .int .i64 (cmpI x.id y.id)]) (by simp [fillL, Value.cells, zrow]) ?_
  clear hS hG; intro b3 w hS hG
  exact or_pure hS ⟨rfl, hG⟩
theorem sort_spec (v : Value) (xs : List Tm) (hl : xs.length ≤ 1000000) : Spec Try.prog 77 [v, .func (.func 78) #[] #[]] [.ob (OwnSl v 137 2 xs.length (xs.map encTm).flatten)]
    (Gives (.tuple #[]) [.ob (OwnSl v 137 2 (sortT xs).length ((sortT xs).map encTm).flatten)]) := by
  intro W F w hS
  (try simp only [app] at hS)
  rcases OwnSl.open hS with ⟨⟨a, rfl⟩, hn0, hc0, hS⟩ | ⟨b, cap, rest, rfl, hcap, hlen, hrest, hS⟩
  · obtain rfl : xs = [] := List.eq_nil_of_length_eq_zero hn0
    refine Calls.mono (AnyF.slices_SortFunc_none sortF a 0 _ w) ?_
    rintro e w' ⟨rfl, rfl⟩
    have e : sortT [] = [] := by simp [sortT]
    rw [e]
    exact ⟨_, rfl, _, ⟨rfl, rfl⟩, hS⟩
  · have hfl := flatK_list encTm_len xs
    have hsz : (flatK encTm 2 xs.toArray).size = (xs.map encTm).flatten.length := by rw [← hfl]; simp
    have hH : HoldsK encTm 2 w b 0 xs.toArray := fun j hj => by
      have hj' : j < (xs.map encTm).flatten.length := by rw [← hsz]; exact hj
      have e1 : (flatK encTm 2 xs.toArray)[j]! = (xs.map encTm).flatten[j] := by
        rw [getElem!_pos (flatK encTm 2 xs.toArray) j hj]
        have : (flatK encTm 2 xs.toArray).toList[j]? = (xs.map encTm).flatten[j]? := by rw [hfl]
        rw [Array.getElem?_toList, Array.getElem?_eq_getElem hj, List.getElem?_eq_getElem hj'] at this
        exact Option.some.inj this
      have hc : ((xs.map encTm).flatten ++ rest)[0 + j]? = some (xs.map encTm).flatten[j] := by rw [Nat.zero_add, List.getElem?_append_left hj', List.getElem?_eq_getElem hj']
      rw [e1]
      exact ⟨hS.cell .hd hc, hS.frozen .hd hc⟩
    have hb : b < w.heap.size := by
      obtain ⟨f, _, e⟩ := hS.blk .hd
      exact (Array.getElem?_eq_some_iff.1 e).1
    have hK := AnyQ.slices_SortFunc_total sortF 2 (fun w => by kernel_rfl) (fun w => by kernel_rfl) encTm encTm_len encTm_one cfT swoT 78 #[] b 0 cap xs.toArray w
      (enters_of Try.func78 (by kernel_rfl) rfl) (fun m os dk _ x y => by
        refine Calls.mono (turnC x y (sortWorldK encTm 2 w b 0 m dk os)) ?_
        rintro e w' ⟨v, rfl, rfl, q, os', hw⟩
        exact ⟨rfl, q, os', hw⟩) hH hb (by simp; omega) totalT
    refine Calls.mono hK ?_
    rintro e w' ⟨rfl, n, os, rfl⟩
    refine ⟨_, rfl, _, ⟨rfl, rfl⟩, ?_⟩
    have hperm := sortT_perm xs
    have hfl2 := flatK_list encTm_len (sortT xs)
    have hsz2 : (xs.map encTm).flatten.length = (flatK encTm 2 (sortT xs).toArray).size := by
      rw [flat_len encTm_len, size_flatK, List.size_toArray, hperm.length_eq]
    have h2 := SL.grow (os := os) (SL.putRow (n := n) hS hsz2)
    rw [hfl2] at h2
    rw [hperm.length_eq]
    exact OwnSl.mk hcap (by rw [flat_len encTm_len, hperm.length_eq]) hrest h2
end Go.Proofs.Ytffogjfnmbgogaa
