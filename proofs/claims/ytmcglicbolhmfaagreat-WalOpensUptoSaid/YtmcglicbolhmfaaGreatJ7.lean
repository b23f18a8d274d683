/-
  Texts of the proof, joined: Lib1, Lib2.
-/
import Derived.Test.YtmcglicbolhmfaaGreatJ6
import Derived.WalkKit
import Derived.WalkSpells
import Derived.WalkLawsBesides
import Derived.Deep.QuietTactic
import Derived.BigQuiet
import Derived.Deep.RegionHeld3
import Derived.Deep.AppendLies
import Derived.Deep.AppendSrc
import Derived.Deep.RegionLaw
import Derived.Deep.DrawnRows
import Derived.Deep.DeepCutAuto
import Derived.Lib.Hide
namespace Go.Proofs.YtmcglicbolhmfaaGreat
set_option linter.unusedVariables false
open Go.RowKit

/-- A set of blocks. -/
abbrev MS := Nat → Prop

/-- Outside M, w' is as w was; the streams are as they were. -/
structure Fr (M : MS) (w w' : World) : Prop where
  os : w'.os = w.os
  tape : w'.tape = w.tape
  output : w'.output = w.output
  size : w.heap.size ≤ w'.heap.size
  block : ∀ k, k < w.heap.size → ¬ M k → w'.heap[k]? = w.heap[k]?

theorem Fr.refl (M : MS) (w : World) : Fr M w w := ⟨rfl, rfl, rfl, Nat.le_refl _, fun _ _ _ => rfl⟩
theorem Fr.trans {M : MS} {a b c : World} (h : Fr M a b) (k : Fr M b c) : Fr M a c :=
  ⟨k.os.trans h.os, k.tape.trans h.tape, k.output.trans h.output, Nat.le_trans h.size k.size,
    fun i hi hm => (k.block i (Nat.lt_of_lt_of_le hi h.size) hm).trans (h.block i hi hm)⟩
/-- The second step may write what is new since the first began. -/
theorem Fr.trans' {M M' : MS} {a b c : World} (h : Fr M a b) (k : Fr M' b c) (hM : ∀ i, i < a.heap.size → M' i → M i) : Fr M a c :=
  ⟨k.os.trans h.os, k.tape.trans h.tape, k.output.trans h.output, Nat.le_trans h.size k.size,
    fun i hi hm => (k.block i (Nat.lt_of_lt_of_le hi h.size) (fun x => hm (hM i hi x))).trans (h.block i hi hm)⟩
theorem Fr.mono {M M' : MS} {a b : World} (h : Fr M a b) (hM : ∀ i, i < a.heap.size → M i → M' i) : Fr M' a b :=
  ⟨h.os, h.tape, h.output, h.size, fun i hi hm => h.block i hi (fun x => hm (hM i hi x))⟩
theorem Fr.drew {M : MS} {a w : World} (h : Fr M a w) : Fr M a w.drew := ⟨h.os, h.tape, h.output, h.size, h.block⟩
theorem Fr.drewN {M : MS} {a w : World} (h : Fr M a w) (n : Nat) : Fr M a (w.drewN n) := ⟨h.os, h.tape, h.output, h.size, h.block⟩
theorem Fr.of_drew {M : MS} {a w : World} (h : Fr M a.drew w) : Fr M a w := ⟨h.os, h.tape, h.output, h.size, h.block⟩
theorem Fr.alloc {M : MS} {a w : World} (h : Fr M a w) (o : Obj) : Fr M a (w.alloc o) :=
  h.trans ⟨rfl, rfl, rfl, by simp, fun k hk _ => Below.heap_alloc _ _ _ hk⟩
theorem Fr.setCell {M : MS} {a w : World} (h : Fr M a w) {p : Addr} (hp : p.block < a.heap.size → M p.block) (u : Value) : Fr M a (w.setCell p u) :=
  ⟨h.os, h.tape, h.output, by simpa [World.setCell] using h.size, fun k hk hm => by
    rw [Below.heap_setCell _ _ _ _ (fun e => hm (by subst e; exact hp hk))]
    exact h.block k hk hm⟩
theorem Fr.grown {M : MS} {a w w' : World} {row : Option Nat} (h : Fr M a w) (hg : w.grownBy w' row) (hr : ∀ k, row = some k → k < a.heap.size → M k) : Fr M a w' :=
  ⟨hg.os.trans h.os, hg.tape.trans h.tape, hg.output.trans h.output, Nat.le_trans h.size hg.size, fun k hk hm =>
    (hg.block k (Nat.lt_of_lt_of_le hk h.size) (fun e => hm (hr k e.symm hk))).trans (h.block k hk hm)⟩
theorem Fr.below {w w' : World} (h : Fr (fun _ => False) w w') : Below w.heap.size w w' := ⟨h.os, h.tape, h.output, h.size, fun k hk => h.block k hk (fun x => x)⟩
theorem Fr.of_below {w w' : World} {M : MS} (h : Below w.heap.size w w') : Fr M w w' := ⟨h.os, h.tape, h.output, h.size, fun k hk _ => h.block k hk⟩
theorem Fr.cell {M : MS} {w w' : World} (h : Fr M w w') {p : Addr} {v : Value} (hc : w.cell? p = some v) (hm : ¬ M p.block) : w'.cell? p = some v :=
  (World.cell?_of_block (h.block p.block (World.block_lt_of_cell? w p hc) hm)).trans hc

theorem str_inj0 {s t : ByteArray} (h : s.toList = t.toList) : s = t := by
  rw [ByteArray.toList_eq, ByteArray.toList_eq] at h
  cases s; cases t; congr 1; exact Array.toList_inj.1 h
theorem strEq (s t : ByteArray) : (s.toList == t.toList) = decide (s = t) := by
  by_cases h : s = t
  · subst h; simp
  · have h' : ¬ s.toList = t.toList := fun e => h (str_inj0 e)
    simp [h, h']
theorem strEq_yes {s t : ByteArray} (h : s = t) : (s.toList == t.toList) = true := by rw [strEq]; simp [h]
theorem strEq_no {s t : ByteArray} (h : ¬ s = t) : (s.toList == t.toList) = false := by rw [strEq]; simp [h]

/-- w' is w behind some draws. -/
def Dr (w w' : World) : Prop := ∃ m, w' = w.drewN m
theorem Dr.refl (w : World) : Dr w w := ⟨0, rfl⟩
theorem Dr.trans {a b c : World} (h : Dr a b) (k : Dr b c) : Dr a c := by
  obtain ⟨m, rfl⟩ := h; obtain ⟨n, rfl⟩ := k; exact ⟨m + n, by simp⟩
theorem Dr.drewN {a b : World} (h : Dr a b) (n : Nat) : Dr a (b.drewN n) := h.trans ⟨n, rfl⟩
theorem Dr.drew {a b : World} (h : Dr a b) : Dr a b.drew := h.trans ⟨1, rfl⟩
theorem Dr.cell {a b : World} (h : Dr a b) (p : Addr) : b.cell? p = a.cell? p := by obtain ⟨m, rfl⟩ := h; rfl
theorem Dr.fr {a b : World} (h : Dr a b) (M : MS) : Fr M a b := by obtain ⟨m, rfl⟩ := h; exact (Fr.refl M a).drewN m

/-- Nothing that was there has changed. -/
abbrev Nob : MS := fun _ => False

/-! ### A block that is known whole -/
def Blk (w : World) (b : Nat) (t : TypeId) (cs : List Value) : Prop := w.heap[b]? = some (.cells cs.toArray t (0, 0))

theorem Blk.lt {w : World} {b : Nat} {t : TypeId} {cs : List Value} (h : Blk w b t cs) : b < w.heap.size := (Array.getElem?_eq_some_iff.1 h).1
theorem Blk.cell {w : World} {b : Nat} {t : TypeId} {cs : List Value} (h : Blk w b t cs) {o : Nat} {v : Value} (hv : cs[o]? = some v) : w.cell? ⟨b, o, none⟩ = some v := by
  simp [World.cell?, show w.heap[b]? = _ from h, hv]
theorem Blk.frozen {w : World} {b : Nat} {t : TypeId} {cs : List Value} (h : Blk w b t cs) (o : Nat) : w.frozen? ⟨b, o, none⟩ = false := by
  simp [World.frozen?, show w.heap[b]? = _ from h]
theorem Blk.keep {w w' : World} {M : MS} {b : Nat} {t : TypeId} {cs : List Value} (h : Blk w b t cs) (hf : Fr M w w') (hm : ¬ M b) : Blk w' b t cs :=
  (hf.block b h.lt hm).trans h
theorem Blk.drewN {w : World} {b : Nat} {t : TypeId} {cs : List Value} (h : Blk w b t cs) (n : Nat) : Blk (w.drewN n) b t cs := h
theorem Blk.alloc {w : World} {b : Nat} {t : TypeId} {cs : List Value} (h : Blk w b t cs) (o : Obj) : Blk (w.alloc o) b t cs :=
  (Below.heap_alloc w o b h.lt).trans h
theorem Blk.new (w : World) (t : TypeId) (cs : List Value) : Blk (w.alloc (.cells cs.toArray t)) w.heap.size t cs := heap_alloc_new w _
theorem Blk.new' {w : World} {n : Nat} {t : TypeId} {cs : Array Value} (h : w.heap.size = n) : Blk (w.alloc (.cells cs t)) n t cs.toList := by
  subst h; exact heap_alloc_new w _
theorem Blk.newL {w : World} {n : Nat} {t : TypeId} {A : Array Value} {cs : List Value} (h : w.heap.size = n) (hA : A.toList = cs) : Blk (w.alloc (.cells A t)) n t cs := by
  subst hA; exact Blk.new' h
theorem Blk.setCell {w : World} {b : Nat} {t : TypeId} {cs : List Value} (h : Blk w b t cs) (o : Nat) (v : Value) : Blk (w.setCell ⟨b, o, none⟩ v) b t (cs.set o v) := by
  have h' : w.heap[b]? = some (.cells cs.toArray t (0, 0)) := h
  show (w.heap.modify b _)[b]? = _
  rw [Array.getElem?_modify]
  simp [h']
theorem Blk.setCell_ne {w : World} {b b' : Nat} {t : TypeId} {cs : List Value} (h : Blk w b t cs) (o : Nat) (v : Value) (hne : b ≠ b') : Blk (w.setCell ⟨b', o, none⟩ v) b t cs :=
  (Below.heap_setCell w ⟨b', o, none⟩ v b hne).trans h

/-! ### What a row of cells says: descriptors of Go's types -/
structure GoT (α : Type) where
  n : Nat
  rd : World → MS → α → List Value → Prop
  len : ∀ {w M x cs}, rd w M x cs → cs.length = n
  one : ∀ {w M x cs}, rd w M x cs → ∀ u ∈ cs, u.oneCell' = true
  keep : ∀ {w w' M M' x cs}, rd w M x cs → Fr M w w' → (∀ k, k < w.heap.size → M' k → M k) → rd w' M' x cs

/-- A type without memory behind it. -/
def GoT.plain {α : Type} (n : Nat) (f : α → List Value) (hl : ∀ x, (f x).length = n) (h1 : ∀ x, ∀ u ∈ f x, u.oneCell' = true) : GoT α where
  n := n
  rd := fun _ _ x cs => cs = f x
  len := fun h => by rw [h]; exact hl _
  one := fun h => by rw [h]; exact h1 _
  keep := fun h _ _ => h

def tStr : GoT ByteArray := .plain 1 (fun s => [.string s]) (fun _ => rfl) (fun _ u hu => by simp at hu; subst hu; rfl)
def tInt (k : IntKind) : GoT Int := .plain 1 (fun n => [.int k n]) (fun _ => rfl) (fun _ u hu => by simp at hu; subst hu; rfl)
def tBool : GoT Bool := .plain 1 (fun n => [.bool n]) (fun _ => rfl) (fun _ u hu => by simp at hu; subst hu; rfl)

/-- The cells cs lie in block b from offset off on; M does not hold b. -/
def At (w : World) (M : MS) (b off : Nat) (cs : List Value) : Prop := (cs ≠ [] → ¬ M b) ∧ ∀ j u, cs[j]? = some u → w.cell? ⟨b, off + j, none⟩ = some u

theorem At.keep {w w' : World} {M M' : MS} {b off : Nat} {cs : List Value} (h : At w M b off cs) (hf : Fr M w w') (hM : ∀ k, k < w.heap.size → M' k → M k) : At w' M' b off cs := by
  refine ⟨fun hne hm => ?_, fun j u hu => ?_⟩
  · cases cs with
    | nil => exact hne rfl
    | cons u r => exact h.1 hne (hM b (World.block_lt_of_cell? w _ (h.2 0 u rfl)) hm)
  · exact hf.cell (h.2 j u hu) (h.1 (fun e => by subst e; simp at hu))

/-- A slice's value that reads as a list. -/
structure RdS {α : Type} (T : GoT α) (w : World) (M : MS) (xs : List α) (v : Value) : Prop where
  out : ∃ a cap, v = .slice a xs.length cap ∧ xs.length ≤ cap ∧
    ∀ i (h : i < xs.length), ∃ b off cs, a = some ⟨b, off, none⟩ ∧ T.rd w M xs[i] cs ∧ At w M b (off + i * T.n) cs

theorem RdS.keep {α : Type} {T : GoT α} {w w' : World} {M M' : MS} {xs : List α} {v : Value} (h : RdS T w M xs v) (hf : Fr M w w') (hM : ∀ k, k < w.heap.size → M' k → M k) : RdS T w' M' xs v := by
  obtain ⟨a, cap, hv, hc, hx⟩ := h.out
  refine ⟨a, cap, hv, hc, fun i hi => ?_⟩
  obtain ⟨b, off, cs, ha, hr, hat⟩ := hx i hi
  exact ⟨b, off, cs, ha, T.keep hr hf hM, hat.keep hf hM⟩

theorem RdS.nil {α : Type} (T : GoT α) (w : World) (M : MS) : RdS T w M [] (.slice none 0 0) := ⟨none, 0, rfl, Nat.le_refl _, fun i h => by simp at h⟩

/-- A slice's type, as a descriptor. -/
def tSlice {α : Type} (T : GoT α) : GoT (List α) where
  n := 1
  rd := fun w M xs cs => ∃ v, cs = [v] ∧ RdS T w M xs v
  len := fun ⟨_, h, _⟩ => by rw [h]; rfl
  one := fun ⟨v, h, hr⟩ u hu => by
    subst h; simp at hu; subst hu
    obtain ⟨a, cap, hv, _⟩ := hr.out
    subst hv; rfl
  keep := fun ⟨v, h, hr⟩ hf hM => ⟨v, h, hr.keep hf hM⟩

/-- A nonempty slice, its address. -/
theorem RdS.pos {α : Type} {T : GoT α} {w : World} {M : MS} {xs : List α} {v : Value} (h : RdS T w M xs v) (hp : 0 < xs.length) :
    ∃ b off cap, v = .slice (some ⟨b, off, none⟩) xs.length cap ∧ xs.length ≤ cap ∧ ∀ i (h : i < xs.length), ∃ cs, T.rd w M xs[i] cs ∧ At w M b (off + i * T.n) cs := by
  obtain ⟨a, cap, hv, hc, hx⟩ := h.out
  obtain ⟨b, off, _, ha, _, _⟩ := hx 0 hp
  subst ha
  refine ⟨b, off, cap, hv, hc, fun i hi => ?_⟩
  obtain ⟨b', off', cs, ha, hr, hat⟩ := hx i hi
  simp at ha
  obtain ⟨rfl, rfl⟩ := ha
  exact ⟨cs, hr, hat⟩

theorem RdS.tail {α : Type} {T : GoT α} {w : World} {M : MS} {x : α} {xs : List α} {b off cap : Nat} (h : RdS T w M (x :: xs) (.slice (some ⟨b, off, none⟩) (xs.length + 1) cap)) (p : Addr) (hp : 0 < xs.length → p = ⟨b, off + T.n, none⟩) :
    RdS T w M xs (.slice (some p) xs.length (cap - 1)) := by
  obtain ⟨a, cap', hv, hc, hx⟩ := h.out
  simp at hv hc
  obtain ⟨rfl, rfl⟩ := hv
  refine ⟨some p, cap - 1, rfl, by omega, fun i hi => ?_⟩
  obtain ⟨b', off', cs, ha, hr, hat⟩ := hx (i + 1) (by simp; omega)
  simp at ha
  obtain ⟨rfl, rfl⟩ := ha
  refine ⟨b, off + T.n, cs, by rw [hp (by omega)], by simpa using hr, ?_⟩
  rw [show off + T.n + i * T.n = off + (i + 1) * T.n by rw [Nat.add_mul]; omega]
  exact hat

/-! ### A row that the call itself owns, with what it reads as -/
/-- M, and the block that v lies in. -/
abbrev MS.with (M : MS) (v : Value) : MS := fun k => M k ∨ v.ownBlock = some k

/-- v is a slice of the call's own (nil, or at the head of a block from 'base' on) that reads as xs; what its elements lead to avoids M and the slice's own block. -/
structure OwnS {α : Type} (T : GoT α) (e : TypeId) (w : World) (base : Nat) (M : MS) (xs : List α) (v : Value) : Prop where
  out : ∃ css : List (List Value), css.length = xs.length ∧ (∀ i (h : i < xs.length) (h' : i < css.length), T.rd w (MS.with M v) xs[i] css[i]) ∧ w.ownsRow base e T.n v xs.length css.flatten

theorem OwnS.nil {α : Type} (T : GoT α) (e : TypeId) (w : World) (base : Nat) (M : MS) : OwnS T e w base M [] (.slice none 0 0) :=
  ⟨[], rfl, fun i h => by simp at h, World.ownsRow_nil w base e T.n⟩

theorem flatten_length {n : Nat} : ∀ (l : List (List Value)), (∀ x ∈ l, x.length = n) → l.flatten.length = l.length * n
  | [], _ => by simp
  | x :: l, h => by
    rw [List.flatten_cons, List.length_append, h x (by simp), flatten_length l (fun y hy => h y (by simp [hy])), List.length_cons, Nat.add_mul]; omega

theorem flatten_get {n : Nat} : ∀ (l : List (List Value)) (_ : ∀ x ∈ l, x.length = n) (i j : Nat) (h : i < l.length) (u : Value), l[i][j]? = some u → l.flatten[i * n + j]? = some u
  | x :: l, hl, 0, j, _, u, hu => by
    have hj : j < x.length := by simp at hu; exact (List.getElem?_eq_some_iff.1 hu).1
    rw [List.flatten_cons, List.getElem?_append_left (by omega)]
    simpa using hu
  | x :: l, hl, i + 1, j, h, u, hu => by
    have hx := hl x (by simp)
    have := flatten_get l (fun y hy => hl y (by simp [hy])) i j (by simp at h; omega) u (by simpa using hu)
    rw [List.flatten_cons, List.getElem?_append_right (by rw [hx, Nat.add_mul]; omega), hx]
    rwa [show (i + 1) * n + j - n = i * n + j by rw [Nat.add_mul]; omega]

theorem OwnS.to_rd {α : Type} {T : GoT α} {e : TypeId} {w : World} {base : Nat} {M : MS} {xs : List α} {v : Value} (h : OwnS T e w base M xs v) (hM : ∀ k, v.ownBlock = some k → ¬ M k) : RdS T w M xs v := by
  obtain ⟨css, hl, hr, hown⟩ := h.out
  rcases hown.2 with ⟨rfl, hn⟩ | ⟨g, cap, cur, rfl, hg, hh, hnc, _, hcs, htake⟩
  · have : xs = [] := List.eq_nil_of_length_eq_zero hn
    subst this
    exact RdS.nil T w M
  · refine ⟨some ⟨g, 0, none⟩, cap, rfl, hnc, fun i hi => ?_⟩
    refine ⟨g, 0, css[i]'(by omega), rfl, T.keep (hr i hi (by omega)) (Fr.refl _ w) (fun _ _ h => Or.inl h), fun _ => hM g rfl, fun j u hu => ?_⟩
    have hall : ∀ x ∈ css, x.length = T.n := fun x hx => by
      obtain ⟨k, hk, rfl⟩ := List.getElem_of_mem hx
      exact T.len (hr k (by omega) hk)
    have h1 := flatten_get css hall i j (by omega) u hu
    have h2 := hown.cells (g := g) rfl _ u h1
    simpa [Addr.add_lit, Nat.add_comm, Nat.add_left_comm, Nat.add_assoc] using h2

theorem OwnS.keep {α : Type} {T : GoT α} {e : TypeId} {w w' : World} {base : Nat} {M M' : MS} {xs : List α} {v : Value} (h : OwnS T e w base M xs v) (hf : Fr M w w') (hM : ∀ k, k < w.heap.size → M' k → M k)
    (hv : ∀ k, v.ownBlock = some k → ¬ M k) : OwnS T e w' base M' xs v := by
  obtain ⟨css, hl, hr, hown⟩ := h.out
  refine ⟨css, hl, fun i hi hi' => T.keep (hr i hi hi') (hf.mono (fun _ _ => Or.inl)) (fun k hk hm => hm.imp (hM k hk) (fun x => x)), hown.1, ?_⟩
  rcases hown.2 with hn | ⟨g, cap, cur, rfl, hg, hh, rest⟩
  · exact .inl hn
  · refine .inr ⟨g, cap, cur, rfl, hg, ?_, rest⟩
    rw [hf.block g (Array.getElem?_eq_some_iff.1 hh).1 (hv g rfl)]
    exact hh
end Go.Proofs.YtmcglicbolhmfaaGreat
namespace Go.Proofs.YtmcglicbolhmfaaGreat
set_option linter.unusedVariables false
open Go.RowKit

/-- What append onto an own row leaves. -/
structure Apd (w w' : World) (base : Nat) (e : TypeId) (size : Nat) (v v' : Value) (n : Nat) (xs : List Value) (H : Nat) : Prop where
  own : w'.ownsRow base e size v' n xs
  grow : w.grownBy w' v.ownBlock
  at_ : v'.ownBlock = v.ownBlock ∨ v'.ownBlock = some H

theorem run_append_any {P : Program} (w : World) (t tx ty : TypeId) (base : Nat) (e : TypeId) (i : TypeInfo) (z : Value) (size bytes : Nat) (ht : P.underlying t = some (.slice e)) (hi : P.info? e = some i) (hz : i.zero = some z)
    (hsize : i.size = size) (hby : i.bytes = bytes) (hzs : z.cells.size = size)
    (v : Value) (n : Nat) (xs : List Value) (hown : w.ownsRow base e size v n xs) (x : Value) (m : Nat) (news : List Value) (hs : Src P size tx x m news w)
    (h63 : n + m ≤ maxLen) (hbytes : (n + m) * bytes ≤ 140737488355328) (hbase : base ≤ w.heap.size) :
    ∃ ao cap w', (Builtin.append_ #[t, tx] ty #[v, x]).run P w = .ok (.slice ao (n + m) cap) w' ∧ Apd w w' base e size v (.slice ao (n + m) cap) (n + m) (xs ++ news) w.heap.size := by
  subst hsize
  subst hby
  have hsmall : n + m ≤ 9223372036854775807 := by simp only [maxLen] at h63; omega
  have hl := hs.newsLen
  have hlen : (xs ++ news).length = (n + m) * i.size := by rw [List.length_append, hown.1, hl, Nat.add_mul]
  have grown : ∀ (old : Nat), old < n + m → ∀ (row : Option Nat),
      (w.drew.alloc (.cells ((xs ++ news).toArray ++ Builtin.zeroCells z.cells (grownCap w (n + m) old e - (n + m))) e)).ownsRow base e i.size
        (.slice (some ⟨w.heap.size, 0, none⟩) (n + m) (grownCap w (n + m) old e)) (n + m) (xs ++ news) ∧
      w.grownBy (w.drew.alloc (.cells ((xs ++ news).toArray ++ Builtin.zeroCells z.cells (grownCap w (n + m) old e - (n + m))) e)) row := by
    intro old ho row
    have hge := grownCap_ge w (n + m) old e
    have hcm : grownCap w (n + m) old e ≤ maxLen := grownCap_le_maxLen w (n + m) old e h63
    refine ⟨⟨hlen, .inr ⟨w.heap.size, _, _, rfl, hbase, heap_alloc_new w.drew _, hge, hcm, ?_, ?_⟩⟩, ⟨rfl, rfl, rfl, by simp, fun k hk _ => Below.heap_alloc w.drew _ k hk⟩⟩
    · rw [Array.size_append, List.size_toArray, size_zeroCells, hzs, hlen, ← Nat.add_mul]
      congr 1
      omega
    · rw [Array.toList_append, ← hlen]
      exact List.take_left
  by_cases hroom : ∃ g cap, v = .slice (some ⟨g, 0, none⟩) n cap ∧ n + m ≤ cap
  · obtain ⟨g, cap, rfl, hroom⟩ := hroom
    rcases hown.2 with ⟨h, _⟩ | ⟨g', cap', cur, hv, hbg, hg, hnc, hcm, hcs, htake⟩
    · cases h
    cases hv
    have hfit : n * i.size + news.length ≤ cur.size := by rw [hl, hcs, ← Nat.add_mul]; exact Nat.mul_le_mul_right _ hroom
    have hcell : ∀ j, j < cur.size → (w.cell? ⟨g, j, none⟩).isSome = true := fun j hj => by rw [cell_of_row w g j cur e (0, 0) hg]; simp [hj]
    have hr := run_append_room_src (P := P) w t tx ty e i ht hi g 0 n cap x m news hs hroom (fun j hj => hcell _ (by omega)) (fun j hj => by simp [World.frozen?, hg])
    have hst := run_storeCells_at P g (n * i.size) e news 0 cur w hg (by simpa using hfit) hs.one
    have hst2 := run_storeCells_cells (P := P) g (n * i.size) news 0 w (fun j hj => hcell _ (by omega)) (fun j hj => by simp [World.frozen?, hg]) hs.one
    simp only [Nat.add_zero, Nat.zero_add] at hr hst hst2
    rw [hst2] at hst
    have hw : w.setCells g (n * i.size) news = w.setRow g (cur.toList.take (n * i.size) ++ news ++ cur.toList.drop (n * i.size + news.length)).toArray := by
      injection hst
    rw [hw] at hr
    refine ⟨_, _, _, hr, ⟨⟨hlen, .inr ⟨g, cap, _, rfl, hbg, setRow_heap w g cur _ e _ hg, hroom, hcm, ?_, ?_⟩⟩, ⟨rfl, rfl, rfl, by simp, fun k _ hk => setRow_other w g k _ (fun e => hk (by simp [Value.ownBlock, e]))⟩, Or.inl rfl⟩⟩
    · simp only [List.size_toArray, List.length_append, List.length_take, List.length_drop, Array.length_toList]
      omega
    · rw [htake, ← hlen]
      exact List.take_left
  · rcases hown.2 with ⟨rfl, rfl⟩ | ⟨g, cap, cur, rfl, hbg, hg, hnc, hcm, hcs, htake⟩
    · have hx : xs = [] := List.eq_nil_of_length_eq_zero (by simpa using hown.1)
      subst hx
      by_cases hm : m = 0
      · subst hm
        have hn : news = [] := List.eq_nil_of_length_eq_zero (by simpa using hl)
        subst hn
        refine ⟨none, 0, w, ?_, ⟨World.ownsRow_nil w base e i.size, ⟨rfl, rfl, rfl, Nat.le_refl _, fun _ _ _ => rfl⟩, Or.inl rfl⟩⟩
        have hc := hs.cells
        rcases hs.kind with ⟨e', hk⟩ | hk <;> simp [Builtin.append_, run_underlying ht, run_underlying hk, sizeOf, typeInfo, hi, hs.len, hc]
      · have hr := run_append_grow_src (P := P) w t tx ty e i z ht hi hz none 0 0 [] (by simp [Builtin.firstCells]) x m news hs (by omega) (by omega) (growslice_fits (by omega) hbytes)
        have hgr := grown 0 (by omega) (Value.ownBlock (.slice none 0 0))
        exact ⟨_, _, _, hr, ⟨hgr.1, hgr.2, Or.inr rfl⟩⟩
    · have hroom' : ¬ n + m ≤ cap := fun h => hroom ⟨g, cap, rfl, h⟩
      have holds : ∀ j u, xs[j]? = some u → w.cell? ((⟨g, 0, none⟩ : Addr).add j) = some u := hown.cells (g := g) rfl
      have hr := run_append_grow_src (P := P) w t tx ty e i z ht hi hz (some ⟨g, 0, none⟩) n cap xs (run_firstCells_some w.drew i.size n ⟨g, 0, none⟩ n cap xs hown.1 holds) x m news hs (by omega) (by omega) (growslice_fits (by omega) hbytes)
      have hgr := grown cap (by omega) (Value.ownBlock (.slice (some ⟨g, 0, none⟩) n cap))
      exact ⟨_, _, _, hr, ⟨hgr.1, hgr.2, Or.inr rfl⟩⟩

section
variable {P : Program} {w : World} {ops : Array Oper} {rest : List Oper} {o : Oper} {a : Act} {Q : Exit → Act → World → Prop} {K : Act → World → Prop}

theorem wp_append_any (s x : Operand) (t tx : TypeId) (ho : o.op = .call { callee := .builtin .append, args := #[s, x], argTypes := #[t, tx] })
    (base : Nat) (e : TypeId) (i : TypeInfo) (z : Value) (size bytes : Nat) (ht : P.underlying t = some (.slice e)) (hi : P.info? e = some i) (hz : i.zero = some z)
    (hsize : i.size = size) (hby : i.bytes = bytes) (hzs : z.cells.size = size)
    (v : Value) (n : Nat) (xs : List Value) (hv : a.eval s = v) (hown : w.ownsRow base e size v n xs) (xv : Value) (hx : a.eval x = xv) (m : Nat) (news : List Value) (hs : Src P size tx xv m news w)
    (h63 : n + m ≤ maxLen) (hbytes : (n + m) * bytes ≤ 140737488355328) (hbase : base ≤ w.heap.size) (H : Nat) (hH : w.heap.size = H)
    (h : ∀ ao cap w', Apd w w' base e size v (.slice ao (n + m) cap) (n + m) (xs ++ news) H → K (a.put o.dst (.slice ao (n + m) cap)) w') : o.wp P a w K Q := by
  obtain ⟨ao, cap, w', hr, h2⟩ := run_append_any (P := P) w t tx o.type base e i z size bytes ht hi hz hsize hby hzs v n xs hown xv m news hs h63 hbytes hbase
  subst hH
  unfold Oper.wp execOp
  simp only [ho, resolve, invoke, builtin, Sem.run_bind, Sem.run_pure, Result.andThen_ok, List.map_toArray, List.map_cons, List.map_nil, hv, hx, hr]
  exact h ao cap w' h2

theorem wpList_append_any (hgd : o.guard = none) (s x : Operand) (t tx : TypeId) (ho : o.op = .call { callee := .builtin .append, args := #[s, x], argTypes := #[t, tx] })
    (base : Nat) (e : TypeId) (i : TypeInfo) (z : Value) (size bytes : Nat) (ht : P.underlying t = some (.slice e)) (hi : P.info? e = some i) (hz : i.zero = some z)
    (hsize : i.size = size) (hby : i.bytes = bytes) (hzs : z.cells.size = size)
    (v : Value) (n : Nat) (xs : List Value) (hv : a.eval s = v) (hown : w.ownsRow base e size v n xs) (xv : Value) (hx : a.eval x = xv) (m : Nat) (news : List Value) (hs : Src P size tx xv m news w)
    (h63 : n + m ≤ maxLen) (hbytes : (n + m) * bytes ≤ 140737488355328) (hbase : base ≤ w.heap.size) (H : Nat) (hH : w.heap.size = H)
    (h : ∀ ao cap w', Apd w w' base e size v (.slice ao (n + m) cap) (n + m) (xs ++ news) H → wpList P ops Q rest (a.put o.dst (.slice ao (n + m) cap)) w') : wpList P ops Q (o :: rest) a w :=
  wpList_plain hgd fun _ hK => wp_append_any s x t tx ho base e i z size bytes ht hi hz hsize hby hzs v n xs hv hown xv hx m news hs h63 hbytes hbase H hH fun ao cap w' h2 => hK _ _ (h ao cap w' h2)

theorem step_append_any {E : Prop} (hgd : o.guard = none) (s x : Operand) (t tx : TypeId) (ho : o.op = .call { callee := .builtin .append, args := #[s, x], argTypes := #[t, tx] })
    (base : Nat) (e : TypeId) (i : TypeInfo) (z : Value) (size bytes : Nat) (ht : P.underlying t = some (.slice e)) (hi : P.info? e = some i) (hz : i.zero = some z)
    (hsize : i.size = size) (hby : i.bytes = bytes) (hzs : z.cells.size = size)
    (v : Value) (n : Nat) (xs : List Value) (hv : a.eval s = v) (hown : w.ownsRow base e size v n xs) (xv : Value) (hx : a.eval x = xv) (m : Nat) (news : List Value) (hs : Src P size tx xv m news w)
    (h63 : n + m ≤ maxLen) (hbytes : (n + m) * bytes ≤ 140737488355328) (hbase : base ≤ w.heap.size) (H : Nat) (hH : w.heap.size = H)
    (h : ∀ ao cap w', Apd w w' base e size v (.slice ao (n + m) cap) (n + m) (xs ++ news) H → K (a.put o.dst (.slice ao (n + m) cap)) w') :
    if Region.wanted o (yielded ops a.tmps) = true then Oper.wp P o a w K Q else E := by
  have hw : Region.wanted o (yielded ops a.tmps) = true := by simp [Region.wanted, hgd]
  rw [if_pos hw]
  exact wp_append_any s x t tx ho base e i z size bytes ht hi hz hsize hby hzs v n xs hv hown xv hx m news hs h63 hbytes hbase H hH h
end

/-- The cells of a list that is read, as append's source. -/
theorem RdS.src {P : Program} {α : Type} {T : GoT α} {w : World} {M : MS} {xs : List α} {v : Value} {t e : TypeId} (h : RdS T w M xs v) (ht : P.underlying t = some (.slice e)) :
    ∃ css : List (List Value), css.length = xs.length ∧ (∀ i (h : i < xs.length) (h' : i < css.length), T.rd w M xs[i] css[i]) ∧ Src P T.n t v xs.length css.flatten w := by
  obtain ⟨a, cap, rfl, hc, hx⟩ := h.out
  by_cases h0 : xs = []
  · subst h0
    refine ⟨[], rfl, fun i h => by simp at h, ?_⟩
    cases a with
    | none => exact Src.ofNil w ht cap
    | some p => exact Src.ofSlice w ht p 0 cap [] (by simp) (fun j u hu => by simp at hu) (fun u hu => by cases hu)
  · have hp : 0 < xs.length := List.length_pos_iff.2 h0
    obtain ⟨b, off, cap', hv, _, hx2⟩ := h.pos hp
    cases hv
    let f : (i : Nat) → List Value := fun i => if h : i < xs.length then Classical.choose (hx2 i h) else []
    have hf : ∀ i (h : i < xs.length), T.rd w M xs[i] (f i) ∧ At w M b (off + i * T.n) (f i) := fun i h => by
      simp only [f, h, dite_true]; exact Classical.choose_spec (hx2 i h)
    refine ⟨(List.range xs.length).map f, by simp, fun i h h' => by simpa using (hf i h).1, ?_⟩
    have hall : ∀ x ∈ (List.range xs.length).map f, x.length = T.n := fun x hx => by
      obtain ⟨i, hi, rfl⟩ := List.mem_map.1 hx
      exact T.len (hf i (by simpa using hi)).1
    refine Src.ofSlice w ht ⟨b, off, none⟩ _ _ _ (by rw [flatten_length _ hall]; simp) (fun j u hu => ?_) (fun u hu => ?_)
    · have hj := (List.getElem?_eq_some_iff.1 hu).1
      rw [flatten_length _ hall] at hj
      simp only [List.length_map, List.length_range] at hj
      have hn : 0 < T.n := Nat.pos_of_ne_zero (fun e => by rw [e] at hj; omega)
      have hi : j / T.n < xs.length := (Nat.div_lt_iff_lt_mul hn).2 hj
      have hr : j % T.n < T.n := Nat.mod_lt _ hn
      have hd := Nat.div_add_mod j T.n
      obtain ⟨h1, h2⟩ := hf _ hi
      have hl := T.len h1
      have hg : (f (j / T.n))[j % T.n]? = some ((f (j / T.n))[j % T.n]'(by omega)) := List.getElem?_eq_getElem (by omega)
      have h3 := flatten_get _ hall (j / T.n) (j % T.n) (by simpa using hi) ((f (j / T.n))[j % T.n]'(by omega)) (by simp only [List.getElem_map, List.getElem_range]; exact hg)
      rw [show j / T.n * T.n + j % T.n = j by rw [Nat.mul_comm]; exact hd, hu] at h3
      have h4 := h2.2 _ _ hg
      rw [Addr.add_lit, h3, ← h4, show off + j / T.n * T.n + j % T.n = off + j by rw [Nat.mul_comm]; omega]
    · obtain ⟨x, hx', hu'⟩ := List.mem_flatten.1 hu
      obtain ⟨i, hi, rfl⟩ := List.mem_map.1 hx'
      exact T.one (hf i (by simpa using hi)).1 u hu'

/-- A slice literal of no elements. -/
theorem ownsRow_empty (w : World) (base : Nat) (e : TypeId) (size b : Nat) (hb : base ≤ b) (h : w.heap[b]? = some (.cells #[] e (0, 0))) : w.ownsRow base e size (.slice (some ⟨b, 0, none⟩) 0 0) 0 [] :=
  ⟨by simp, .inr ⟨b, 0, #[], rfl, hb, h, Nat.le_refl _, by simp, by simp, by simp⟩⟩

theorem Fr.apd {M : MS} {a w w' : World} {base : Nat} {e : TypeId} {size : Nat} {v v' : Value} {n : Nat} {xs : List Value} {H : Nat} (h : Fr M a w) (hg : Apd w w' base e size v v' n xs H) (hr : ∀ k, v.ownBlock = some k → k < a.heap.size → M k) : Fr M a w' :=
  h.grown hg.grow hr
end Go.Proofs.YtmcglicbolhmfaaGreat
