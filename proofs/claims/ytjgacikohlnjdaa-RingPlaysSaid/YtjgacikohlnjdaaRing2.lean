/-
  Contracts of package ring: New, All; and of the small functions that its statements call: Mod, Plain, Spoil.
-/
import Derived.Test.YtjgacikohlnjdaaRing
namespace Go.Proofs.Ytjgacikohlnjdaa
set_option linter.unusedVariables false
open Go.RowKit

set_option maxHeartbeats 400000 in
theorem new_bad (n : Int) (w : World) (h : n < 1 ∨ 64 < n) :
    Calls Try.prog 8 #[.int .i64 n] w fun e w' => e = .returned (.tuple #[.pointer none, .int .i64 1]) ∧ w = w' := by
  rcases h with h | h
  · go_enter Try.func8, Try.ntmps8
    go_wp2
    go_ret2
    exact ⟨rfl, rfl⟩
  · have h' : ¬ n < 1 := by omega
    go_enter Try.func8, Try.ntmps8
    go_wp2
    go_ret2
    exact ⟨rfl, rfl⟩

theorem madeCells_replicate (z : Value) (n : Nat) : madeCells #[z] n = (List.replicate n z).toArray := by
  apply Array.ext
  · simp [madeCells]
  · intro i h1 h2
    simp [madeCells, Nat.mod_one]

set_option maxHeartbeats 400000 in
theorem new_ok (n : Nat) (w : World) (h1 : 1 ≤ n) (h2 : n ≤ 64) :
    Calls Try.prog 8 #[.int .i64 n] w fun e w' => e = .returned (.tuple #[.pointer (some ⟨w.heap.size + 1, 0, none⟩), .int .i64 0]) ∧
      w' = (w.alloc (.cells (madeCells #[.string ⟨#[]⟩] n) 9)).alloc (.cells #[.slice (some ⟨w.heap.size, 0, none⟩) n n, .int .i64 0, .int .i64 0] 58) := by
  obtain ⟨i0, hi, hz0, hz1, hz2⟩ := info_parts Try.infoStr
  have hm := fun W => run_make (P := Try.prog) W 31 9 i0 (.string ⟨#[]⟩) Try.underlying31 hi hz0 .i64 .i64 n n (by omega) (Int.le_refl _) (by rw [hz2]; omega) (by omega)
  rw [hz1] at hm
  simp only [Int.toNat_natCast, Nat.mul_one] at hm
  have g1 : (1 : Int) ≤ n := by omega
  have g2 : (n : Int) ≤ 64 := by omega
  go_enter Try.func8, Try.ntmps8
  go_wp2
  go_ret2
  exact ⟨rfl, rfl⟩

theorem ring_new (n : Nat) (w : World) (h1 : 1 ≤ n) (h2 : n ≤ 64) :
    Calls Try.prog 8 #[.int .i64 n] w fun e w' => e = .returned (.tuple #[.pointer (some ⟨w.heap.size + 1, 0, none⟩), .int .i64 0]) ∧
      Ring w' (w.heap.size + 1) w.heap.size n [] ∧ Fr Nob w w' := by
  refine (new_ok n w h1 h2).mono ?_
  rintro e w' ⟨rfl, rfl⟩
  refine ⟨rfl, ⟨0, ?_, ⟨List.replicate n ⟨#[]⟩, ?_, by simp, fun i hi => by simp at hi⟩, by omega, by omega, h2, by omega, by simp⟩, ((Fr.refl _ w).alloc _).alloc _⟩
  · have := Blk.new (w.alloc (.cells (madeCells #[.string ⟨#[]⟩] n) 9)) 58 [.slice (some ⟨w.heap.size, 0, none⟩) n n, .int .i64 0, .int .i64 0]
    simpa using this
  · have := (Blk.new w 9 (List.replicate n (.string ⟨#[]⟩))).alloc (.cells #[.slice (some ⟨w.heap.size, 0, none⟩) n n, .int .i64 0, .int .i64 0] 58)
    rw [madeCells_replicate]
    simpa using this

/-! ### All -/
set_option maxHeartbeats 800000 in
theorem all_any (b c cap first : Nat) (L A : List ByteArray) (w : World) (hbc : b ≠ c) (hc0 : 0 < cap) (hcap : cap ≤ 64) (hf : first < cap) (hL : L.length ≤ cap) (hA : A.length = cap)
    (hx : ∀ i, i < L.length → A[(first + i) % cap]? = L[i]?) (hb : b < w.heap.size) (hcs : c < w.heap.size)
    (h0 : w.cell? ⟨b, 0, none⟩ = some (.slice (some ⟨c, 0, none⟩) cap cap)) (h1 : w.cell? ⟨b, 1, none⟩ = some (.int .i64 first)) (h2 : w.cell? ⟨b, 2, none⟩ = some (.int .i64 L.length))
    (hcell : ∀ k s, A[k]? = some s → w.cell? ⟨c, k, none⟩ = some (.string s)) :
    Calls Try.prog 17 #[.pointer (some ⟨b, 0, none⟩)] w fun e w' => ∃ v, e = .returned v ∧ w'.ownsRow w.heap.size 9 1 v L.length (L.map .string) ∧ Fr Nob w w' := by
  obtain ⟨i0, hi, hz0, hz1, hz2⟩ := info_parts Try.infoStr
  have gL : (L.length : Int) ≤ 64 := by omega
  go_enter Try.func17, Try.ntmps17
  go_wp2
  go_loopw [3, 9] (fun v i wr => ∃ k : Nat, k ≤ L.length ∧ i = .int .i64 k ∧ wr.ownsRow w.heap.size 9 1 v k ((L.take k).map .string) ∧ Fr Nob w wr) (fun _ i _ => L.length - (intOf i).toNat)
  case atStart => exact ⟨0, by omega, rfl, World.ownsRow_nil .., Fr.refl _ _⟩
  case round =>
    obtain ⟨k, hk, rfl, hown, hfr⟩ := hrel
    by_cases hlt : k < L.length
    · obtain ⟨p, hp⟩ : ∃ p, p = (first + k) % cap := ⟨_, rfl⟩
      have hpc : p < cap := by rw [hp]; exact Nat.mod_lt _ hc0
      have hs := hx k hlt
      rw [← hp, List.getElem?_eq_getElem hlt] at hs
      have k0 := hfr.cell h0 (fun x => x)
      have k1 := hfr.cell h1 (fun x => x)
      have k2 := hfr.cell (hcell p _ hs) (fun x => x)
      have HP : Hid (p = (first + k) % cap) := hp
      have HS : Hid (L.take (k + 1) = L.take k ++ [L[k]]) := by rw [List.take_succ_eq_append_getElem hlt]; rfl
      generalize L[k] = s at *
      clear hs hp hx hcell h0 h1 h2
      have hwb : b < wr.heap.size := Nat.lt_of_lt_of_le hb hfr.size
      have hwc : c < wr.heap.size := Nat.lt_of_lt_of_le hcs hfr.size
      have g1 : (0 : Int) ≤ p := by omega
      have g2 : (p : Int) < cap := by omega
      have g3 : (k : Int) < L.length := by omega
      have nb : u3.ownBlock ≠ some b := fun e => by have := (hown.lt b e).1; omega
      have nc : u3.ownBlock ≠ some c := fun e => by have := (hown.lt c e).1; omega
      have HO : Hid (wr.ownsRow w.heap.size 9 1 u3 k ((L.take k).map .string)) := hown
      clear hown
      go_wp2
      go_region_held3 (fun w' => w'.cell? ⟨b, 0, none⟩ = some (.slice (some ⟨c, 0, none⟩) cap cap) ∧ w'.cell? ⟨b, 1, none⟩ = some (.int .i64 first) ∧ w'.cell? ⟨c, p, none⟩ = some (.string s))
        (first
          | go_keep
          | (go_split_ands
             refine ⟨?_, ?_, ?_⟩
             · (rw [hgrow.cell_far ⟨b, 0, none⟩ (by simp; omega) (Ne.symm nb)]; go_keep)
             · (rw [hgrow.cell_far ⟨b, 1, none⟩ (by simp; omega) (Ne.symm nb)]; go_keep)
             · (rw [hgrow.cell_far ⟨c, p, none⟩ (by simp; omega) (Ne.symm nc)]; go_keep)))
        (first
          | (go_at_call 30; refine (at_any b c cap first k p _ hc0 hcap hf (by omega) HP ?_ ?_).mono ?_; go_keep; go_keep; rintro e w' ⟨rfl, m, rfl⟩)
          | (refine step_append_lies _ (by rfl) _ _ _ (by rfl) w.heap.size 9 i0 _ 1 16 Try.underlying31 hi hz0 hz1 hz2 rfl (by omega) u3 k ((L.take k).map .string) (by rfl) (World.ownsRow.alloc (w := wr) HO.out _)
              ⟨wr.heap.size, 0, none⟩ 1 1 [.string s] (by rfl) (by rfl) (World.news_of_block (cs := #[.string s]) (t := 9) (fr := (0, 0)) (heap_alloc_new _ _)) (by simp [Value.oneCell'])
              (by omega) (by unfold maxLen; omega) (by omega) (by have := hfr.size; simp; omega) (wr.heap.size + 1) (by simp) ?_; intro gg cap' w1 hown1 hgrow hat hlt'))
      go_wp2
      go_roundw
      case rel =>
        refine ⟨k + 1, by omega, by go_num, ?_, ?_⟩
        · rw [HS.out]; simpa using hown1
        · exact ((hfr.drewN _).alloc _).grown hgrow (fun j hj hlt => by have := (HO.out.lt j hj).1; omega)
      case measure => simp [intOf]; omega
    · have : k = L.length := by omega
      subst this
      clear hx hcell
      have HO : Hid (wr.ownsRow w.heap.size 9 1 u3 L.length ((L.take L.length).map .string)) := hown
      clear hown
      go_wp2
      go_ret
      exact ⟨_, rfl, by simpa using HO.out, hfr⟩

theorem flatten_strs : ∀ L : List ByteArray, (L.map fun s => [Value.string s]).flatten = L.map Value.string
  | [] => rfl
  | s :: L => by simp [flatten_strs L]

theorem OwnS.of_strs {w : World} {e : TypeId} {base : Nat} {M : MS} {L : List ByteArray} {v : Value} (h : w.ownsRow base e 1 v L.length (L.map .string)) : OwnS tStr e w base M L v := by
  refine ⟨L.map fun s => [.string s], by simp, fun i hi hi' => ?_, ?_⟩
  · simp [tStr, GoT.plain]
  · rw [flatten_strs]; exact h

theorem ring_all {w : World} {b c cap : Nat} {L : List ByteArray} (h : Ring w b c cap L) :
    Calls Try.prog 17 #[.pointer (some ⟨b, 0, none⟩)] w fun e w' => ∃ v, e = .returned v ∧ RdS tStr w' (fun k => k < w.heap.size) L v ∧ Fr Nob w w' := by
  have hlt := h.lt
  obtain ⟨f, h⟩ := h
  obtain ⟨A, ha, hA, hx⟩ := h.arr
  refine (all_any b c cap f L A w h.ne h.pos h.most h.fst h.len hA hx hlt.1 hlt.2.1 h.cells.1 h.cells.2.1 h.cells.2.2 (fun k s hs => ha.cell (by simp [hs]))).mono ?_
  rintro e w' ⟨v, rfl, ho, hf⟩
  exact ⟨v, rfl, (OwnS.of_strs ho).to_rd (fun k hk => by have := (ho.lt k hk).1; omega), hf⟩

theorem ring_all_own {w : World} {b c cap : Nat} {L : List ByteArray} (h : Ring w b c cap L) :
    Calls Try.prog 17 #[.pointer (some ⟨b, 0, none⟩)] w fun e w' => ∃ v, e = .returned v ∧ OwnS tStr 9 w' w.heap.size Nob L v ∧ Fr Nob w w' := by
  have hlt := h.lt
  obtain ⟨f, h⟩ := h
  obtain ⟨A, ha, hA, hx⟩ := h.arr
  refine (all_any b c cap f L A w h.ne h.pos h.most h.fst h.len hA hx hlt.1 hlt.2.1 h.cells.1 h.cells.2.1 h.cells.2.2 (fun k s hs => ha.cell (by simp [hs]))).mono ?_
  rintro e w' ⟨v, rfl, ho, hf⟩
  exact ⟨v, rfl, OwnS.of_strs ho, hf⟩

/-! ### The helpers -/
/-- What Mod answers. -/
def md (v n : Int) : Nat := ((v % 18446744073709551616) % n).toNat
theorem wrap64_small (x : Int) (h0 : 0 ≤ x) (h1 : x ≤ 4611686018427387904) : wrap64 x = x := by
  unfold wrap64; omega
theorem md_lt (v n : Int) (h : 0 < n) : (md v n : Int) < n := by
  unfold md
  have := Int.emod_lt_of_pos (v % 18446744073709551616) h
  have := Int.emod_nonneg (v % 18446744073709551616) (Int.ne_of_gt h)
  omega
theorem md_cast (v n : Int) (h0 : 0 < n) : (md v n : Int) = (IntKind.u64.wrap v).tmod n := by
  have e1 : IntKind.u64.wrap v = v % 18446744073709551616 := by simp [IntKind.wrap_u64]
  have h2 : 0 ≤ v % 18446744073709551616 := Int.emod_nonneg _ (by omega)
  rw [e1, Int.tmod_eq_emod_of_nonneg h2]
  unfold md
  have := Int.emod_nonneg (v % 18446744073709551616) (Int.ne_of_gt h0)
  omega

set_option maxHeartbeats 400000 in
theorem mod_any (v n : Int) (w : World) (h0 : 0 < n) (h1 : n ≤ 1000000000) :
    Calls Try.prog 12 #[.int .i64 v, .int .i64 n] w fun e w' => e = .returned (.int .i64 (md v n)) ∧ w = w' := by
  go_enter Try.func12, Try.ntmps12
  go_wp2
  go_ret
  refine ⟨?_, rfl⟩
  show Ending.returned (.int .i64 (wrap64 ((IntKind.u64.wrap v).tmod n))) = _
  rw [← md_cast v n h0]
  have := md_lt v n h0
  rw [wrap64_small _ (by omega) (by omega)]
end Go.Proofs.Ytjgacikohlnjdaa
