/-
  Contracts of package ring: each call of the bounded queue does what the same step does to a plain list.
-/
import Derived.Test.YtjgacikohlnjdaaRows
import Derived.Test.YtjgacikohlnjdaaLib1
namespace Go.Proofs.Ytjgacikohlnjdaa
set_option linter.unusedVariables false
open Go.RowKit

theorem Try.infoStr : (Try.prog.info? 9).map (fun i => (i.zero, i.size, i.bytes)) = some (some (.string ⟨#[]⟩), 1, 16) := by kernel_rfl

/-- At block b lies a ring of cap places, its list in block c; it holds L, the first at place 'first'. -/
structure RingAt (w : World) (b c cap first : Nat) (L : List ByteArray) : Prop where
  blk : Blk w b 58 [.slice (some ⟨c, 0, none⟩) cap cap, .int .i64 first, .int .i64 L.length]
  arr : ∃ A : List ByteArray, Blk w c 9 (A.map .string) ∧ A.length = cap ∧ ∀ i, i < L.length → A[(first + i) % cap]? = L[i]?
  ne : b ≠ c
  pos : 0 < cap
  most : cap ≤ 64
  fst : first < cap
  len : L.length ≤ cap

def Ring (w : World) (b c cap : Nat) (L : List ByteArray) : Prop := ∃ first, RingAt w b c cap first L
/-- A ring's two blocks. -/
def RingM (b c : Nat) : MS := fun k => k = b ∨ k = c

theorem RingAt.keep {w w' : World} {M : MS} {b c cap first : Nat} {L : List ByteArray} (h : RingAt w b c cap first L) (hf : Fr M w w') (h1 : ¬ M b) (h2 : ¬ M c) : RingAt w' b c cap first L := by
  obtain ⟨A, ha, hb, hc⟩ := h.arr
  exact ⟨h.blk.keep hf h1, ⟨A, ha.keep hf h2, hb, hc⟩, h.ne, h.pos, h.most, h.fst, h.len⟩
theorem Ring.keep {w w' : World} {M : MS} {b c cap : Nat} {L : List ByteArray} (h : Ring w b c cap L) (hf : Fr M w w') (h1 : ¬ M b) (h2 : ¬ M c) : Ring w' b c cap L :=
  let ⟨f, h⟩ := h
  ⟨f, h.keep hf h1 h2⟩
theorem Ring.lt {w : World} {b c cap : Nat} {L : List ByteArray} (h : Ring w b c cap L) : b < w.heap.size ∧ c < w.heap.size ∧ b ≠ c := by
  obtain ⟨f, h⟩ := h
  obtain ⟨A, ha, _, _⟩ := h.arr
  exact ⟨h.blk.lt, ha.lt, h.ne⟩

set_option maxHeartbeats 400000 in
theorem at_any (b c cap first i k : Nat) (w : World) (hc0 : 0 < cap) (hcap : cap ≤ 64) (hf : first < cap) (hi : i ≤ 64) (hk : Hid (k = (first + i) % cap))
    (h0 : w.cell? ⟨b, 0, none⟩ = some (.slice (some ⟨c, 0, none⟩) cap cap)) (h1 : w.cell? ⟨b, 1, none⟩ = some (.int .i64 first)) :
    Calls Try.prog 30 #[.pointer (some ⟨b, 0, none⟩), .int .i64 i] w fun e w' => e = .returned (.int .i64 k) ∧ ∃ m, w' = w.drewN m := by
  have hz : (decide ((cap : Int) = 0)) = false := by simp; omega
  have g1 : (0 : Int) < cap := by omega
  have g2 : (cap : Int) ≤ 64 := by omega
  have g3 : (first : Int) < cap := by omega
  have g4 : (0 : Int) ≤ i := by omega
  have g5 : (i : Int) ≤ 64 := by omega
  go_enter Try.func30, Try.ntmps30
  go_wp2
  go_quiet (fail)
  go_wp2
  go_ret
  exact ⟨by rw [hk.out]; rfl, _, rfl⟩

set_option maxHeartbeats 400000 in
theorem len_any (b n : Nat) (w : World) (h2 : w.cell? ⟨b, 2, none⟩ = some (.int .i64 n)) :
    Calls Try.prog 11 #[.pointer (some ⟨b, 0, none⟩)] w fun e w' => e = .returned (.int .i64 n) ∧ w = w' := by
  go_enter Try.func11, Try.ntmps11
  go_wp2
  go_ret
  exact ⟨rfl, rfl⟩

set_option maxHeartbeats 400000 in
theorem cap_any (b : Nat) (a : Option Addr) (n m : Nat) (w : World) (h0 : w.cell? ⟨b, 0, none⟩ = some (.slice a n m)) :
    Calls Try.prog 10 #[.pointer (some ⟨b, 0, none⟩)] w fun e w' => e = .returned (.int .i64 n) ∧ w = w' := by
  go_enter Try.func10, Try.ntmps10
  go_wp2
  go_ret
  exact ⟨rfl, rfl⟩

set_option maxHeartbeats 400000 in
theorem push_no (b c cap first n : Nat) (s : ByteArray) (w : World) (hn : Hid (n = cap))
    (h0 : w.cell? ⟨b, 0, none⟩ = some (.slice (some ⟨c, 0, none⟩) cap cap)) (h2 : w.cell? ⟨b, 2, none⟩ = some (.int .i64 n)) :
    Calls Try.prog 13 #[.pointer (some ⟨b, 0, none⟩), .string s] w fun e w' => e = .returned (.bool false) ∧ ∃ m, w' = w.drewN m := by
  have hne : ((n : Int) == (cap : Int)) = true := by rw [hn.out]; simp
  go_enter Try.func13, Try.ntmps13
  go_wp2
  go_quiet (fail)
  go_wp2
  go_ret
  exact ⟨rfl, _, rfl⟩

set_option maxHeartbeats 400000 in
theorem push_yes (b c cap first n k : Nat) (s : ByteArray) (w : World) (u : Value) (hbc : b ≠ c) (hc0 : 0 < cap) (hcap : cap ≤ 64) (hf : first < cap) (hn : n < cap) (hk : Hid (k = (first + n) % cap)) (hkc : k < cap)
    (h0 : w.cell? ⟨b, 0, none⟩ = some (.slice (some ⟨c, 0, none⟩) cap cap)) (h1 : w.cell? ⟨b, 1, none⟩ = some (.int .i64 first)) (h2 : w.cell? ⟨b, 2, none⟩ = some (.int .i64 n))
    (f2 : w.frozen? ⟨b, 2, none⟩ = false) (hu : w.cell? ⟨c, k, none⟩ = some u) (fu : w.frozen? ⟨c, k, none⟩ = false) :
    Calls Try.prog 13 #[.pointer (some ⟨b, 0, none⟩), .string s] w fun e w' => e = .returned (.bool true) ∧
      ∃ m, w' = ((w.drewN m).setCell ⟨c, k, none⟩ (.string s)).setCell ⟨b, 2, none⟩ (.int .i64 ((n + 1 : Nat) : Int)) := by
  have hcb : c ≠ b := Ne.symm hbc
  have g1 : (n : Int) < cap := by omega
  have g2 : (cap : Int) ≤ 64 := by omega
  have g4 : (0 : Int) ≤ k := by omega
  have g5 : (k : Int) < cap := by omega
  have hne : ((n : Int) == (cap : Int)) = false := by simp; omega
  go_enter Try.func13, Try.ntmps13
  go_wp2
  go_quiet (fail)
  go_wp2
  go_region_held3 (fun w' => w'.cell? ⟨b, 0, none⟩ = some (.slice (some ⟨c, 0, none⟩) cap cap) ∧ w'.cell? ⟨b, 2, none⟩ = some (.int .i64 n)) (go_keep) ((go_at_call 30; refine (at_any b c cap first n k _ hc0 hcap hf (by omega) hk ?_ ?_).mono ?_; go_keep; go_keep; rintro e w' ⟨rfl, m, rfl⟩))
  go_wp2
  go_ret
  exact ⟨rfl, _, rfl⟩

set_option maxHeartbeats 400000 in
theorem peek_no (b : Nat) (w : World) (h2 : w.cell? ⟨b, 2, none⟩ = some (.int .i64 0)) :
    Calls Try.prog 15 #[.pointer (some ⟨b, 0, none⟩)] w fun e w' => e = .returned (.tuple #[.string ⟨#[]⟩, .bool false]) ∧ w = w' := by
  go_enter Try.func15, Try.ntmps15
  go_wp2
  go_ret2
  exact ⟨rfl, rfl⟩

set_option maxHeartbeats 400000 in
theorem peek_yes (b c cap first n : Nat) (s : ByteArray) (w : World) (hn : 0 < n) (hf : first < cap)
    (h0 : w.cell? ⟨b, 0, none⟩ = some (.slice (some ⟨c, 0, none⟩) cap cap)) (h1 : w.cell? ⟨b, 1, none⟩ = some (.int .i64 first)) (h2 : w.cell? ⟨b, 2, none⟩ = some (.int .i64 n))
    (hs : w.cell? ⟨c, first, none⟩ = some (.string s)) :
    Calls Try.prog 15 #[.pointer (some ⟨b, 0, none⟩)] w fun e w' => e = .returned (.tuple #[.string s, .bool true]) ∧ ∃ m, w' = w.drewN m := by
  have g1 : ((n : Int) == 0) = false := by simp; omega
  have g2 : (0 : Int) ≤ first := by omega
  have g3 : (first : Int) < cap := by omega
  go_enter Try.func15, Try.ntmps15
  go_wp2
  go_quiet (fail)
  go_wp2
  go_ret2
  exact ⟨rfl, _, rfl⟩

set_option maxHeartbeats 400000 in
theorem pop_no (b : Nat) (w : World) (h2 : w.cell? ⟨b, 2, none⟩ = some (.int .i64 0)) :
    Calls Try.prog 14 #[.pointer (some ⟨b, 0, none⟩)] w fun e w' => e = .returned (.tuple #[.string ⟨#[]⟩, .bool false]) ∧ w = w' := by
  go_enter Try.func14, Try.ntmps14
  go_wp2_with (go_at_call 15; refine (peek_no b _ h2).mono ?_; rintro e w' ⟨rfl, rfl⟩)
  go_ret2
  exact ⟨rfl, rfl⟩

set_option maxHeartbeats 400000 in
theorem pop_yes (b c cap first n k : Nat) (s : ByteArray) (w : World) (hbc : b ≠ c) (hc0 : 0 < cap) (hcap : cap ≤ 64) (hn : 0 < n) (hn64 : n ≤ 64) (hf : first < cap) (hk : Hid (k = (first + 1) % cap))
    (h0 : w.cell? ⟨b, 0, none⟩ = some (.slice (some ⟨c, 0, none⟩) cap cap)) (h1 : w.cell? ⟨b, 1, none⟩ = some (.int .i64 first)) (h2 : w.cell? ⟨b, 2, none⟩ = some (.int .i64 n))
    (f1 : w.frozen? ⟨b, 1, none⟩ = false) (f2 : w.frozen? ⟨b, 2, none⟩ = false)
    (hs : w.cell? ⟨c, first, none⟩ = some (.string s)) (fs : w.frozen? ⟨c, first, none⟩ = false) :
    Calls Try.prog 14 #[.pointer (some ⟨b, 0, none⟩)] w fun e w' => e = .returned (.tuple #[.string s, .bool true]) ∧
      ∃ m m', w' = ((((w.drewN m).setCell ⟨c, first, none⟩ (.string ⟨#[]⟩)).drewN m').setCell ⟨b, 1, none⟩ (.int .i64 k)).setCell ⟨b, 2, none⟩ (.int .i64 ((n - 1 : Nat) : Int)) := by
  have hcb : c ≠ b := Ne.symm hbc
  have g2 : (0 : Int) ≤ first := by omega
  have g3 : (first : Int) < cap := by omega
  have g4 : (0 : Int) < n := by omega
  have g5 : (n : Int) ≤ 64 := by omega
  go_enter Try.func14, Try.ntmps14
  go_wp2_with (go_at_call 15; refine (peek_yes b c cap first n s _ hn hf h0 h1 h2 hs).mono ?_; rintro e w' ⟨rfl, m, rfl⟩)
  go_region_held3 (fun w' => w'.cell? ⟨b, 0, none⟩ = some (.slice (some ⟨c, 0, none⟩) cap cap) ∧ w'.cell? ⟨b, 1, none⟩ = some (.int .i64 first)) (go_keep) (fail)
  go_wp2_with (go_at_call 30; refine (at_any b c cap first 1 k _ hc0 hcap hf (by omega) hk ?_ ?_).mono ?_; go_keep; go_keep; rintro e w' ⟨rfl, m, rfl⟩)
  go_ret2
  exact ⟨rfl, _, _, by rw [show ((n - 1 : Nat) : Int) = (n : Int) - 1 by omega]⟩

/-! ### The same, said of a ring as a whole -/
theorem RingAt.cells {w : World} {b c cap first : Nat} {L : List ByteArray} (h : RingAt w b c cap first L) :
    w.cell? ⟨b, 0, none⟩ = some (.slice (some ⟨c, 0, none⟩) cap cap) ∧ w.cell? ⟨b, 1, none⟩ = some (.int .i64 first) ∧ w.cell? ⟨b, 2, none⟩ = some (.int .i64 L.length) :=
  ⟨h.blk.cell rfl, h.blk.cell rfl, h.blk.cell rfl⟩

theorem Ring.drewN {w : World} {b c cap : Nat} {L : List ByteArray} (h : Ring w b c cap L) (n : Nat) : Ring (w.drewN n) b c cap L :=
  h.keep ((Fr.refl Nob w).drewN n) (fun x => x) (fun x => x)

theorem ring_len {w : World} {b c cap : Nat} {L : List ByteArray} (h : Ring w b c cap L) :
    Calls Try.prog 11 #[.pointer (some ⟨b, 0, none⟩)] w fun e w' => e = .returned (.int .i64 L.length) ∧ w = w' := by
  obtain ⟨f, h⟩ := h
  exact len_any b _ w h.cells.2.2

theorem ring_cap {w : World} {b c cap : Nat} {L : List ByteArray} (h : Ring w b c cap L) :
    Calls Try.prog 10 #[.pointer (some ⟨b, 0, none⟩)] w fun e w' => e = .returned (.int .i64 cap) ∧ w = w' := by
  obtain ⟨f, h⟩ := h
  exact cap_any b _ _ _ w h.cells.1

theorem mod_inj {cap first i j : Nat} (hi : i < cap) (hj : j < cap) (h : (first + i) % cap = (first + j) % cap) : i = j := by
  have h1 := Nat.div_add_mod (first + i) cap
  have h2 := Nat.div_add_mod (first + j) cap
  rw [h] at h1
  rcases Nat.lt_trichotomy ((first + i) / cap) ((first + j) / cap) with hd | hd | hd
  · have := Nat.mul_le_mul_left cap hd
    simp only [Nat.succ_eq_add_one, Nat.mul_add, Nat.mul_one] at this; omega
  · rw [hd] at h1; omega
  · have := Nat.mul_le_mul_left cap hd
    simp only [Nat.succ_eq_add_one, Nat.mul_add, Nat.mul_one] at this; omega

theorem ring_push_yes {w : World} {b c cap : Nat} {L : List ByteArray} (h : Ring w b c cap L) (s : ByteArray) (hl : L.length < cap) :
    Calls Try.prog 13 #[.pointer (some ⟨b, 0, none⟩), .string s] w fun e w' => e = .returned (.bool true) ∧ Ring w' b c cap (L ++ [s]) ∧ Fr (RingM b c) w w' := by
  obtain ⟨first, h⟩ := h
  obtain ⟨A, ha, hA, hx⟩ := h.arr
  obtain ⟨h0, h1, h2⟩ := h.cells
  have hk : (first + L.length) % cap < cap := Nat.mod_lt _ h.pos
  have hu : (A.map Value.string)[(first + L.length) % cap]? = some (Value.string (A[(first + L.length) % cap]'(by omega))) := by simp [hA, hk]
  refine (push_yes b c cap first L.length _ s w _ h.ne h.pos h.most h.fst hl rfl hk h0 h1 h2 (h.blk.frozen 2) (ha.cell hu) (ha.frozen _)).mono ?_
  rintro e w' ⟨rfl, m, rfl⟩
  refine ⟨rfl, ⟨first, ?_, ⟨A.set ((first + L.length) % cap) s, ?_, by simp [hA], fun i hi => ?_⟩, h.ne, h.pos, h.most, h.fst, by simp; omega⟩, ?_⟩
  · have := ((h.blk.drewN m).setCell_ne ((first + L.length) % cap) (.string s) h.ne).setCell 2 (.int .i64 ((L.length + 1 : Nat) : Int))
    simpa using this
  · have := (((ha.drewN m).setCell ((first + L.length) % cap) (.string s))).setCell_ne 2 (.int .i64 ((L.length + 1 : Nat) : Int)) (Ne.symm h.ne)
    simpa [List.map_set] using this
  · by_cases he : i = L.length
    · subst he
      simp [hA, hk]
    · have hi' : i < L.length := by simp at hi; omega
      rw [List.getElem?_set_ne (fun e => he (mod_inj (by omega) hl e.symm)), hx i hi', List.getElem?_append_left hi']
  · exact ((((Fr.refl _ w).drewN m).setCell (fun _ => .inr rfl) _).setCell (fun _ => .inl rfl) _)

theorem ring_push_no {w : World} {b c cap : Nat} {L : List ByteArray} (h : Ring w b c cap L) (s : ByteArray) (hl : L.length = cap) :
    Calls Try.prog 13 #[.pointer (some ⟨b, 0, none⟩), .string s] w fun e w' => e = .returned (.bool false) ∧ Ring w' b c cap L ∧ Fr (RingM b c) w w' := by
  have h' := h
  obtain ⟨first, h⟩ := h
  obtain ⟨h0, h1, h2⟩ := h.cells
  refine (push_no b c cap first L.length s w hl h0 h2).mono ?_
  rintro e w' ⟨rfl, m, rfl⟩
  exact ⟨rfl, h'.drewN m, (Fr.refl _ w).drewN m⟩

theorem ring_push {w : World} {b c cap : Nat} {L : List ByteArray} (h : Ring w b c cap L) (s : ByteArray) :
    Calls Try.prog 13 #[.pointer (some ⟨b, 0, none⟩), .string s] w fun e w' => e = .returned (.bool (decide (L.length < cap))) ∧ Ring w' b c cap (if L.length < cap then L ++ [s] else L) ∧ Fr (RingM b c) w w' := by
  by_cases hl : L.length < cap
  · simpa [hl] using ring_push_yes h s hl
  · simpa [hl] using ring_push_no h s (by obtain ⟨f, h⟩ := h; have := h.len; omega)

theorem ring_peek_no {w : World} {b c cap : Nat} (h : Ring w b c cap []) :
    Calls Try.prog 15 #[.pointer (some ⟨b, 0, none⟩)] w fun e w' => e = .returned (.tuple #[.string ⟨#[]⟩, .bool false]) ∧ w = w' := by
  obtain ⟨f, h⟩ := h
  exact peek_no b w (by simpa using h.cells.2.2)

theorem RingAt.head {w : World} {b c cap first : Nat} {s : ByteArray} {L : List ByteArray} (h : RingAt w b c cap first (s :: L)) : ∃ A : List ByteArray, Blk w c 9 (A.map .string) ∧ A.length = cap ∧
    (∀ i, i < (s :: L).length → A[(first + i) % cap]? = (s :: L)[i]?) ∧ (A.map Value.string)[first]? = some (.string s) := by
  obtain ⟨A, ha, hA, hx⟩ := h.arr
  have h0 := hx 0 (by simp)
  simp only [Nat.add_zero, Nat.mod_eq_of_lt h.fst, List.getElem?_cons_zero] at h0
  exact ⟨A, ha, hA, hx, by simp [h0]⟩

theorem ring_peek_yes {w : World} {b c cap : Nat} {s : ByteArray} {L : List ByteArray} (h : Ring w b c cap (s :: L)) :
    Calls Try.prog 15 #[.pointer (some ⟨b, 0, none⟩)] w fun e w' => e = .returned (.tuple #[.string s, .bool true]) ∧ ∃ m, w' = w.drewN m := by
  obtain ⟨f, h⟩ := h
  obtain ⟨A, ha, hA, hx, hs⟩ := h.head
  exact peek_yes b c cap f _ s w (by simp) h.fst h.cells.1 h.cells.2.1 h.cells.2.2 (ha.cell hs)

theorem ring_pop_no {w : World} {b c cap : Nat} (h : Ring w b c cap []) :
    Calls Try.prog 14 #[.pointer (some ⟨b, 0, none⟩)] w fun e w' => e = .returned (.tuple #[.string ⟨#[]⟩, .bool false]) ∧ w = w' := by
  obtain ⟨f, h⟩ := h
  exact pop_no b w (by simpa using h.cells.2.2)

theorem ring_pop_yes {w : World} {b c cap : Nat} {s : ByteArray} {L : List ByteArray} (h : Ring w b c cap (s :: L)) :
    Calls Try.prog 14 #[.pointer (some ⟨b, 0, none⟩)] w fun e w' => e = .returned (.tuple #[.string s, .bool true]) ∧ Ring w' b c cap L ∧ Fr (RingM b c) w w' := by
  obtain ⟨first, h⟩ := h
  obtain ⟨A, ha, hA, hx, hs⟩ := h.head
  obtain ⟨h0, h1, h2⟩ := h.cells
  have hlen := h.len
  have hf := h.fst
  have hm := h.most
  simp only [List.length_cons] at hlen h2
  refine (pop_yes b c cap first (L.length + 1) _ s w h.ne h.pos h.most (by omega) (by omega) h.fst rfl h0 h1 h2 (h.blk.frozen 1) (h.blk.frozen 2) (ha.cell hs) (ha.frozen _)).mono ?_
  rintro e w' ⟨rfl, m, m', rfl⟩
  refine ⟨rfl, ⟨(first + 1) % cap, ?_, ⟨A.set first ⟨#[]⟩, ?_, by simp [hA], fun i hi => ?_⟩, h.ne, h.pos, h.most, Nat.mod_lt _ h.pos, by omega⟩, ?_⟩
  · have := (((h.blk.drewN m).setCell_ne first (.string ⟨#[]⟩) h.ne).drewN m').setCell 1 (.int .i64 (((first + 1) % cap : Nat) : Int))
    have := this.setCell 2 (.int .i64 ((L.length + 1 - 1 : Nat) : Int))
    simpa using this
  · have := ((((ha.drewN m).setCell first (.string ⟨#[]⟩)).drewN m').setCell_ne 1 (.int .i64 (((first + 1) % cap : Nat) : Int)) (Ne.symm h.ne)).setCell_ne 2 (.int .i64 ((L.length + 1 - 1 : Nat) : Int)) (Ne.symm h.ne)
    simpa [List.map_set] using this
  · have e1 : ((first + 1) % cap + i) % cap = (first + (i + 1)) % cap := by
      rw [Nat.mod_add_mod]; congr 1; omega
    have e2 : first ≠ (first + (i + 1)) % cap := fun e => by
      have := mod_inj (cap := cap) (first := first) (i := 0) (j := i + 1) h.pos (by omega) (by rw [Nat.add_zero, Nat.mod_eq_of_lt hf]; exact e)
      omega
    rw [e1, List.getElem?_set_ne e2, hx (i + 1) (by simp; omega), List.getElem?_cons_succ]
  · exact (((((Fr.refl _ w).drewN m).setCell (fun _ => .inr rfl) _).drewN m').setCell (fun _ => .inl rfl) _).setCell (fun _ => .inl rfl) _
end Go.Proofs.Ytjgacikohlnjdaa
