/-
  Plain: files, power, and what the operations make of them.
-/
import Derived.Test.YthjnknpgcmmapaaKMod
namespace Go.Proofs.Ythjnknpgcmmapaa
set_option linter.unusedVariables false

structure PF where
  id : Int
  safe : Nat
  b : List UInt8
def u8c (x : UInt8) : Value := .int .u8 (x.toNat : Int)
structure DS where
  R : List PF
  off : Bool
  arm : Int
  ops : Nat
def newF (f : Int) : PF := ⟨f, 0, []⟩
/-- Something is put behind a file's bytes. -/
def appF (R : List PF) (f : Int) (b : List UInt8) : List PF := putK PF.id R ⟨f, ((getK PF.id R f).getD (newF f)).safe, ((getK PF.id R f).getD (newF f)).b ++ b⟩
/-- A file that is there becomes another one. -/
def updF (R : List PF) (f : Int) (g : PF → PF) : List PF := match getK PF.id R f with
  | some x => putK PF.id R { g x with id := f }
  | none => R
def may (s : DS) (f : Int) : Int := if s.off = true then 8 else if f < 0 ∨ 16384 ≤ f then 1 else 0
def DS.cnt (s : DS) : DS := { s with off := decide (s.arm = 1), arm := if 0 < s.arm then s.arm - 1 else s.arm, ops := s.ops + 1 }
def DS.err (s : DS) : Int := if s.off = true then 8 else 0
def DS.find (s : DS) (f : Int) : Int := if may s f ≠ 0 then may s f else if isK PF.id s.R f = true then 0 else 5
def DS.append (s : DS) (f : Int) (b : List UInt8) : DS × Int := if may s f ≠ 0 then (s, may s f) else ({ s.cnt with R := appF s.R f b }, s.cnt.err)
def DS.sync (s : DS) (f : Int) : DS × Int := if s.find f ≠ 0 then (s, s.find f) else if s.cnt.off = true then (s.cnt, 8) else ({ s.cnt with R := updF s.R f fun x => { x with safe := x.b.length } }, 0)
def lenF (R : List PF) (f : Int) : Int := match getK PF.id R f with
  | some x => x.b.length
  | none => -1
def safeF (R : List PF) (f : Int) : Int := match getK PF.id R f with
  | some x => x.safe
  | none => -1
def cutF (n : Nat) (x : PF) : PF := { x with b := x.b.take n, safe := min x.safe n }
def DS.cut (s : DS) (f n : Int) : DS × Int := if s.find f ≠ 0 then (s, s.find f) else if n < 0 ∨ lenF s.R f < n then (s, 1) else if s.cnt.off = true then (s.cnt, 8) else ({ s.cnt with R := updF s.R f (cutF n.toNat) }, 0)
def DS.remove (s : DS) (f : Int) : DS × Int := if s.find f ≠ 0 then (s, s.find f) else if s.cnt.off = true then (s.cnt, 8) else ({ s.cnt with R := delK PF.id s.R f }, 0)
def DS.armed (s : DS) (n : Int) : DS := { s with arm := max n 0 }
/-- How much more than what is safe is left of the i-th file. -/
def moreF (keep : List Int) (i : Nat) (x : PF) : Nat := match keep[i]? with
  | some k => if 0 < k then k.toNat % (x.b.length - x.safe + 1) else 0
  | none => 0
def crF (keep : List Int) (i : Nat) (x : PF) : PF := ⟨x.id, min (x.safe + moreF keep i x) x.b.length, x.b.take (x.safe + moreF keep i x)⟩
def crashR (R : List PF) (keep : List Int) : List PF := R.mapIdx (crF keep)
def DS.crash (s : DS) (keep : List Int) : DS := { s with R := crashR s.R keep, off := false, arm := 0 }

/-- What holds of files. -/
structure DS.Ok (s : DS) (N : Nat) : Prop where
  sorted : SortedK PF.id s.R
  ids : ∀ x ∈ s.R, 0 ≤ x.id ∧ x.id < 16384
  safe : ∀ x ∈ s.R, x.safe ≤ x.b.length
  len : ∀ x ∈ s.R, x.b.length ≤ N
  arm0 : 0 ≤ s.arm
  arm1 : s.arm ≤ 9223372036854775807

theorem moreF_le {keep : List Int} {i : Nat} {x : PF} (h : x.safe ≤ x.b.length) : x.safe + moreF keep i x ≤ x.b.length := by
  unfold moreF
  split
  · split
    · have := Nat.mod_lt (Int.toNat ‹Int›) (show 0 < x.b.length - x.safe + 1 by omega); omega
    · omega
  · omega
theorem crF_b {keep : List Int} {i : Nat} {x : PF} (h : x.safe ≤ x.b.length) : (crF keep i x).b.length = x.safe + moreF keep i x := by
  have := moreF_le (keep := keep) (i := i) h
  simp [crF]; omega
theorem crF_safe {keep : List Int} {i : Nat} {x : PF} (h : x.safe ≤ x.b.length) : (crF keep i x).safe = x.safe + moreF keep i x := by
  have := moreF_le (keep := keep) (i := i) h
  simp [crF]; omega
theorem mem_updF {R : List PF} {f : Int} {g : PF → PF} {y : PF} (h : y ∈ updF R f g) : y ∈ R ∨ ∃ x ∈ R, x.id = f ∧ y = { g x with id := f } := by
  unfold updF at h
  split at h
  · rename_i x e
    obtain ⟨h1, h2⟩ := getK_mem e
    rcases mem_putK h with h | h
    · exact .inr ⟨x, h1, h2, h⟩
    · exact .inl h
  · exact .inl h
theorem getK_len {R : List PF} {f : Int} {N : Nat} (h : ∀ x ∈ R, x.b.length ≤ N) : ((getK PF.id R f).getD (newF f)).b.length ≤ N := by
  cases e : getK PF.id R f with
  | none => exact Nat.zero_le _
  | some x => exact h x (getK_mem e).1
theorem getK_safe {R : List PF} {f : Int} (h : ∀ x ∈ R, x.safe ≤ x.b.length) : ((getK PF.id R f).getD (newF f)).safe ≤ ((getK PF.id R f).getD (newF f)).b.length := by
  cases e : getK PF.id R f with
  | none => exact Nat.zero_le _
  | some x => exact h x (getK_mem e).1
theorem DS.Ok.mono {s : DS} {N M : Nat} (h : s.Ok N) (hm : N ≤ M) : s.Ok M := ⟨h.sorted, h.ids, h.safe, fun x hx => Nat.le_trans (h.len x hx) hm, h.arm0, h.arm1⟩
theorem DS.Ok.cnt {s : DS} {N : Nat} (h : s.Ok N) : s.cnt.Ok N := by
  have h0 := h.arm0
  have h1 := h.arm1
  refine ⟨h.sorted, h.ids, h.safe, h.len, ?_, ?_⟩ <;> simp only [DS.cnt] <;> split <;> omega
theorem DS.Ok.withR {s : DS} {N : Nat} (h : s.Ok N) {R : List PF} (h1 : SortedK PF.id R) (h2 : ∀ x ∈ R, 0 ≤ x.id ∧ x.id < 16384) (h3 : ∀ x ∈ R, x.safe ≤ x.b.length) (h4 : ∀ x ∈ R, x.b.length ≤ N) : ({ s with R := R } : DS).Ok N :=
  ⟨h1, h2, h3, h4, h.arm0, h.arm1⟩
theorem may_zero {s : DS} {f : Int} (h : may s f = 0) : s.off = false ∧ 0 ≤ f ∧ f < 16384 := by
  unfold may at h
  split at h
  · cases h
  · split at h
    · cases h
    · rename_i h1 h2
      refine ⟨by simpa using h1, by omega, by omega⟩
theorem DS.Ok.append {s : DS} {N : Nat} (h : s.Ok N) (f : Int) (b : List UInt8) : (s.append f b).1.Ok (N + b.length) := by
  unfold DS.append
  split
  · exact h.mono (by omega)
  · rename_i hm
    have hm : may s f = 0 := by simpa using hm
    obtain ⟨_, f0, f1⟩ := may_zero hm
    have hl := getK_len (f := f) h.len
    have hs := getK_safe (f := f) h.safe
    refine (h.cnt.mono (Nat.le_add_right N b.length)).withR (putK_sorted h.sorted _) ?_ ?_ ?_
    · intro x hx
      rcases mem_putK hx with rfl | hx
      · exact ⟨f0, f1⟩
      · exact h.ids x hx
    · intro x hx
      rcases mem_putK hx with rfl | hx
      · simp only [List.length_append]; omega
      · exact h.safe x hx
    · intro x hx
      rcases mem_putK hx with rfl | hx
      · simp only [List.length_append]; omega
      · have := h.len x hx; omega
theorem updF_sorted {R : List PF} (h : SortedK PF.id R) (f : Int) (g : PF → PF) : SortedK PF.id (updF R f g) := by
  unfold updF
  split
  · exact putK_sorted h _
  · exact h
theorem DS.Ok.upd {s : DS} {N : Nat} (h : s.Ok N) (f : Int) (g : PF → PF) (h1 : ∀ x, x.safe ≤ x.b.length → (g x).safe ≤ (g x).b.length) (h2 : ∀ x, (g x).b.length ≤ x.b.length) : ({ s.cnt with R := updF s.R f g } : DS).Ok N := by
  refine h.cnt.withR (updF_sorted h.sorted f g) ?_ ?_ ?_
  · intro x hx
    rcases mem_updF hx with hx | ⟨y, hy, rfl, rfl⟩
    · exact h.ids x hx
    · exact h.ids y hy
  · intro x hx
    rcases mem_updF hx with hx | ⟨y, hy, rfl, rfl⟩
    · exact h.safe x hx
    · exact h1 y (h.safe y hy)
  · intro x hx
    rcases mem_updF hx with hx | ⟨y, hy, rfl, rfl⟩
    · exact h.len x hx
    · exact Nat.le_trans (h2 y) (h.len y hy)
theorem DS.Ok.sync {s : DS} {N : Nat} (h : s.Ok N) (f : Int) : (s.sync f).1.Ok N := by
  unfold DS.sync
  split
  · exact h
  · split
    · exact h.cnt
    · exact h.upd f _ (fun x _ => Nat.le_refl _) (fun x => Nat.le_refl _)
theorem DS.Ok.cut {s : DS} {N : Nat} (h : s.Ok N) (f n : Int) : (s.cut f n).1.Ok N := by
  unfold DS.cut
  split
  · exact h
  · split
    · exact h
    · split
      · exact h.cnt
      · exact h.upd f _ (fun x hx => by simp only [cutF, List.length_take]; omega) (fun x => by simp only [cutF, List.length_take]; omega)
theorem DS.Ok.remove {s : DS} {N : Nat} (h : s.Ok N) (f : Int) : (s.remove f).1.Ok N := by
  unfold DS.remove
  split
  · exact h
  · split
    · exact h.cnt
    · exact h.cnt.withR (delK_sorted h.sorted _) (fun x hx => h.ids x (mem_delK hx)) (fun x hx => h.safe x (mem_delK hx)) (fun x hx => h.len x (mem_delK hx))
theorem DS.Ok.armed {s : DS} {N : Nat} (h : s.Ok N) {n : Int} (hn : n ≤ 9223372036854775807) : (s.armed n).Ok N := ⟨h.sorted, h.ids, h.safe, h.len, by simp only [DS.armed]; omega, by simp only [DS.armed]; omega⟩
theorem DS.Ok.crash {s : DS} {N : Nat} (h : s.Ok N) (keep : List Int) : (s.crash keep).Ok N := by
  have hm : ∀ y ∈ crashR s.R keep, ∃ x ∈ s.R, ∃ i, y = crF keep i x := fun y hy => by
    obtain ⟨i, hi, rfl⟩ := List.mem_iff_getElem.1 hy
    unfold crashR at *
    simp only [List.length_mapIdx] at hi
    exact ⟨s.R[i], List.getElem_mem hi, i, by simp⟩
  refine ⟨?_, ?_, ?_, ?_, Int.le_refl _, by simp [DS.crash]⟩
  · show SortedK PF.id (crashR s.R keep)
    have := h.sorted
    unfold SortedK at *
    rw [List.pairwise_iff_getElem] at *
    intro i j hi hj hij
    unfold crashR at *
    simp only [List.length_mapIdx] at hi hj
    simpa [crF] using this i j hi hj hij
  · intro y hy
    obtain ⟨x, hx, i, rfl⟩ := hm y hy
    exact h.ids x hx
  · intro y hy
    obtain ⟨x, hx, i, rfl⟩ := hm y hy
    rw [crF_b (h.safe x hx), crF_safe (h.safe x hx)]
    exact Nat.le_refl _
  · intro y hy
    obtain ⟨x, hx, i, rfl⟩ := hm y hy
    rw [crF_b (h.safe x hx)]
    exact Nat.le_trans (moreF_le (h.safe x hx)) (h.len x hx)
def s00 : DS := ⟨[], false, 0, 0⟩
theorem s00_ok (N : Nat) : s00.Ok N := ⟨.nil, by simp [s00], by simp [s00], by simp [s00], by simp [s00], by simp [s00]⟩
theorem putK_same {R : List PF} (hs : SortedK PF.id R) {x : PF} (hx : x ∈ R) (y : PF) (hy : y.id = x.id) : putK PF.id R y = R.set (cntK PF.id R x.id) y := by
  have : isK PF.id R y.id = true := (isK_iff hs).2 ⟨x, hx, hy.symm⟩
  rw [putK_is this, hy]
end Go.Proofs.Ythjnknpgcmmapaa
