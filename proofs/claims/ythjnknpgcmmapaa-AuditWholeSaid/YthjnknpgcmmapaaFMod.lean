/-
  Plain: rows by key, rising; what changes do to a table; transactions as values.
-/
import Derived.Test.YthjnknpgcmmapaaSl5
import Derived.Test.YthjnknpgcmmapaaGMod
namespace Go.Proofs.Ythjnknpgcmmapaa
set_option linter.unusedVariables false

structure Chg where
  table : Int
  key : Int
  gone : Bool
  val : ByteArray
deriving DecidableEq
structure TxnD where
  lsn : Int
  kind : Int
  changes : List Chg
  signals : List ByteArray
  mark : Int
def encChg (c : Chg) : List Value := [.int .i64 c.table, .int .i64 c.key, .bool c.gone, .string c.val]
theorem encChg_len (c : Chg) : (encChg c).length = 4 := rfl
theorem encChg_one (c : Chg) : ∀ v ∈ encChg c, v.oneCell' = true := by simp [encChg, Value.oneCell']
/-- A transaction's own cells. -/
structure TxV where
  lsn : Int
  kind : Int
  cv : Value
  sv : Value
  mark : Int
def encTx (x : TxV) : List Value := [.int .i64 x.lsn, .int .i64 x.kind, x.cv, x.sv, .int .i64 x.mark]
theorem encTx_len (x : TxV) : (encTx x).length = 5 := rfl
/-- x stands for t. -/
structure TxIs (H : Heap) (x : TxV) (t : TxnD) : Prop where
  lsn : x.lsn = t.lsn
  kind : x.kind = t.kind
  mark : x.mark = t.mark
  cv : RdSl H 4 x.cv t.changes.length (t.changes.map encChg).flatten
  sv : RdSl H 1 x.sv t.signals.length (t.signals.map Value.string)
theorem TxIs.mono {H H' : Heap} (hh : H.le H') {x : TxV} {t : TxnD} (h : TxIs H x t) : TxIs H' x t := ⟨h.lsn, h.kind, h.mark, h.cv.mono hh, h.sv.mono hh⟩
/-- A list of transactions in memory that is not written any more. -/
def RdTx (H : Heap) (v : Value) (l : List TxnD) : Prop := ∃ xs : List TxV, xs.length = l.length ∧ RdSl H 5 v l.length (xs.map encTx).flatten ∧ ∀ i (h : i < l.length) (h' : i < xs.length), TxIs H xs[i] l[i]
theorem RdTx.mono {H H' : Heap} (hh : H.le H') {v : Value} {l : List TxnD} (h : RdTx H v l) : RdTx H' v l := by
  obtain ⟨xs, h1, h2, h3⟩ := h
  exact ⟨xs, h1, h2.mono hh, fun i hi hi' => (h3 i hi hi').mono hh⟩

/-! ### Rows -/
def SortedR (C : List Row) : Prop := C.Pairwise (fun a b => a.key < b.key)
def getR (C : List Row) (k : Int) : Option ByteArray := (C.find? (fun c => decide (c.key = k))).map (·.val)
def insR : List Row → Row → List Row
  | [], c => [c]
  | x :: C, c => if x.key < c.key then x :: insR C c else if x.key = c.key then c :: C else c :: x :: C
def delR : List Row → Int → List Row
  | [], _ => []
  | x :: C, k => if x.key = k then C else x :: delR C k
def appR (t : Int) (C : List Row) (c : Chg) : List Row := if c.table = t then (if c.gone then delR C c.key else insR C ⟨c.key, c.val⟩) else C
def foldR (t : Int) (l : List TxnD) : List Row := (l.flatMap (·.changes)).foldl (appR t) []

theorem mem_insR {C : List Row} {c x : Row} (h : x ∈ insR C c) : x = c ∨ x ∈ C := by
  induction C with
  | nil => simpa [insR] using h
  | cons y C ih =>
    unfold insR at h
    split at h
    · rcases List.mem_cons.1 h with rfl | h
      · exact .inr (.head _)
      · rcases ih h with h | h
        · exact .inl h
        · exact .inr (.tail _ h)
    · split at h
      · rcases List.mem_cons.1 h with rfl | h
        · exact .inl rfl
        · exact .inr (.tail _ h)
      · rcases List.mem_cons.1 h with rfl | h
        · exact .inl rfl
        · exact .inr h
theorem sorted_insR {C : List Row} (h : SortedR C) (c : Row) : SortedR (insR C c) := by
  unfold SortedR at *
  induction C with
  | nil => simp [insR]
  | cons y C ih =>
    rw [List.pairwise_cons] at h
    unfold insR
    split
    · rename_i hlt
      refine List.pairwise_cons.2 ⟨fun z hz => ?_, ih h.2⟩
      rcases mem_insR hz with rfl | hz
      · exact hlt
      · exact h.1 z hz
    · split
      · rename_i he
        exact List.pairwise_cons.2 ⟨fun z hz => by have := h.1 z hz; omega, h.2⟩
      · rename_i h1 h2
        refine List.pairwise_cons.2 ⟨fun z hz => ?_, List.pairwise_cons.2 h⟩
        rcases List.mem_cons.1 hz with rfl | hz
        · omega
        · have := h.1 z hz; omega
theorem mem_delR {C : List Row} {k : Int} {x : Row} (h : x ∈ delR C k) : x ∈ C := by
  induction C with
  | nil => exact h
  | cons y C ih =>
    unfold delR at h
    split at h
    · exact .tail _ h
    · rcases List.mem_cons.1 h with rfl | h
      · exact .head _
      · exact .tail _ (ih h)
theorem sorted_delR {C : List Row} (h : SortedR C) (k : Int) : SortedR (delR C k) := by
  unfold SortedR at *
  induction C with
  | nil => exact h
  | cons y C ih =>
    rw [List.pairwise_cons] at h
    unfold delR
    split
    · exact h.2
    · exact List.pairwise_cons.2 ⟨fun z hz => h.1 z (mem_delR hz), ih h.2⟩
theorem get_insR (C : List Row) (c : Row) (k : Int) : getR (insR C c) k = if c.key = k then some c.val else getR C k := by
  unfold getR
  induction C with
  | nil => by_cases h : c.key = k <;> simp [insR, h]
  | cons y C ih =>
    unfold insR
    split
    · by_cases h1 : y.key = k
      · have : c.key ≠ k := by omega
        simp [h1, this]
      · simp only [List.find?_cons, h1, decide_false]; exact ih
    · split
      · rename_i he
        by_cases h1 : c.key = k
        · simp [h1]
        · have : y.key ≠ k := by omega
          simp [h1, this]
      · by_cases h1 : c.key = k <;> simp [h1]
theorem get_delR {C : List Row} (hs : SortedR C) (k0 k : Int) : getR (delR C k0) k = if k0 = k then none else getR C k := by
  unfold getR SortedR at *
  induction C with
  | nil => simp [delR]
  | cons y C ih =>
    rw [List.pairwise_cons] at hs
    unfold delR
    split
    · rename_i he
      by_cases h1 : k0 = k
      · subst h1
        have : C.find? (fun c => decide (c.key = k0)) = none := by
          rw [List.find?_eq_none]; intro z hz; have := hs.1 z hz; simp; omega
        simp [this]
      · have : ¬ y.key = k := by omega
        simp [h1, this]
    · rename_i he
      have ih' := ih hs.2
      by_cases h1 : y.key = k
      · have : ¬ k0 = k := by omega
        simp [h1, this]
      · simp only [List.find?_cons, h1, decide_false]; exact ih'
theorem length_insR (C : List Row) (c : Row) : (insR C c).length ≤ C.length + 1 := by
  induction C with
  | nil => simp [insR]
  | cons y C ih =>
    unfold insR
    split
    · simp; omega
    · split <;> simp
theorem length_delR (C : List Row) (k : Int) : (delR C k).length ≤ C.length := by
  induction C with
  | nil => exact Nat.le_refl _
  | cons y C ih => unfold delR; split <;> simp; omega
theorem getR_mem {C : List Row} (h : SortedR C) {c : Row} (hc : c ∈ C) : getR C c.key = some c.val := by
  unfold getR SortedR at *
  induction C with
  | nil => cases hc
  | cons y C ih =>
    rw [List.pairwise_cons] at h
    rcases List.mem_cons.1 hc with rfl | hc
    · simp
    · have := h.1 c hc
      have hn : ¬ y.key = c.key := by omega
      simp only [List.find?_cons, hn, decide_false]; exact ih h.2 hc
theorem getR_some {C : List Row} {k : Int} {v : ByteArray} (h : getR C k = some v) : ⟨k, v⟩ ∈ C := by
  unfold getR at h
  simp only [Option.map_eq_some_iff] at h
  obtain ⟨c, hc, rfl⟩ := h
  have h1 := List.find?_some (p := fun c : Row => decide (c.key = k)) hc
  have h2 := List.mem_of_find?_eq_some hc
  have : c.key = k := of_decide_eq_true h1
  subst this; exact h2
def okR (C : List Row) : Prop := SortedR C ∧ ∀ c ∈ C, inI64 c.key
theorem okR_nil : okR [] := ⟨List.Pairwise.nil, by simp⟩
theorem okR_app {C : List Row} (h : okR C) (t : Int) (c : Chg) (hk : inI64 c.key) : okR (appR t C c) := by
  unfold appR
  split
  · split
    · exact ⟨sorted_delR h.1 _, fun x hx => h.2 x (mem_delR hx)⟩
    · exact ⟨sorted_insR h.1 _, fun x hx => by rcases mem_insR hx with rfl | hx; exact hk; exact h.2 x hx⟩
  · exact h
theorem okR_foldl {l : List Chg} : ∀ {C : List Row}, okR C → (t : Int) → (∀ c ∈ l, inI64 c.key) → okR (l.foldl (appR t) C) := by
  induction l with
  | nil => intro C h t _; exact h
  | cons c l ih => intro C h t hk; exact ih (okR_app h t c (hk c (.head _))) t (fun x hx => hk x (.tail _ hx))
theorem len_app (t : Int) (C : List Row) (c : Chg) : (appR t C c).length ≤ C.length + 1 := by
  unfold appR
  have := length_insR C ⟨c.key, c.val⟩
  have := length_delR C c.key
  split
  · split <;> omega
  · omega
theorem len_foldl {l : List Chg} : ∀ (C : List Row) (t : Int), (l.foldl (appR t) C).length ≤ C.length + l.length := by
  induction l with
  | nil => intro C t; simp
  | cons c l ih => intro C t; have := ih (appR t C c) t; have := len_app t C c; simp only [List.foldl_cons, List.length_cons]; omega

/-! ### A map that holds just these rows -/
structure RelR (m : List (Int × ByteArray)) (C : List Row) : Prop where
  get : ∀ k, mget m k = getR C k
  nodup : (m.map (·.1)).Nodup
theorem mget_mdel {α : Type} {m : List (Int × α)} (h : (m.map (·.1)).Nodup) (k k' : Int) : mget (mdel m k) k' = if k = k' then none else mget m k' := by
  induction m with
  | nil => simp [mdel, mget]
  | cons p m ih =>
    rw [List.map_cons, List.nodup_cons] at h
    unfold mdel
    split
    · rename_i hp
      by_cases hk : k = k'
      · subst hk
        have : mget m k = none := by
          cases hg : mget m k with
          | none => rfl
          | some v => exact absurd (by rw [hp]; exact mget_some.2 ⟨v, hg⟩) h.1
        simp [this]
      · have : ¬ p.1 = k' := by omega
        simp [hk, mget, this]
    · rename_i hp
      by_cases hp' : p.1 = k'
      · have : ¬ k = k' := by omega
        simp [mget, hp', this]
      · simp [mget, hp', ih h.2]
theorem mem_keys_mdel {α : Type} {m : List (Int × α)} {k x : Int} (h : x ∈ (mdel m k).map (·.1)) : x ∈ m.map (·.1) := by
  induction m with
  | nil => exact h
  | cons p m ih =>
    unfold mdel at h
    split at h
    · exact .tail _ h
    · rcases List.mem_cons.1 h with rfl | h
      · exact .head _
      · exact .tail _ (ih h)
theorem nodup_mdel {α : Type} {m : List (Int × α)} (h : (m.map (·.1)).Nodup) (k : Int) : ((mdel m k).map (·.1)).Nodup := by
  induction m with
  | nil => exact h
  | cons p m ih =>
    rw [List.map_cons, List.nodup_cons] at h
    unfold mdel
    split
    · exact h.2
    · rw [List.map_cons, List.nodup_cons]; exact ⟨fun hm => h.1 (mem_keys_mdel hm), ih h.2⟩
theorem RelR.nil : RelR [] [] := ⟨fun k => rfl, by simp⟩
theorem RelR.put {m : List (Int × ByteArray)} {C : List Row} (h : RelR m C) (k : Int) (v : ByteArray) : RelR (mset m k v) (insR C ⟨k, v⟩) :=
  ⟨fun k' => by rw [mget_mset, get_insR, h.get], nodup_mset h.nodup _ _⟩
theorem RelR.del {m : List (Int × ByteArray)} {C : List Row} (h : RelR m C) (hs : SortedR C) (k : Int) : RelR (mdel m k) (delR C k) :=
  ⟨fun k' => by rw [mget_mdel h.nodup, get_delR hs, h.get], nodup_mdel h.nodup _⟩
theorem nodup_keysR {C : List Row} (h : SortedR C) : (C.map (·.key)).Nodup := by
  unfold SortedR at h
  refine List.pairwise_map.2 (h.imp fun hab => ?_)
  omega
theorem RelR.perm {m : List (Int × ByteArray)} {C : List Row} (h : RelR m C) (hs : SortedR C) : (m.map (·.1)).Perm (C.map (·.key)) := by
  refine (List.perm_ext_iff_of_nodup h.nodup (nodup_keysR hs)).2 fun k => ?_
  rw [mget_some]
  simp only [h.get]
  constructor
  · rintro ⟨v, hv⟩; exact List.mem_map.2 ⟨_, getR_some hv, rfl⟩
  · intro hk
    obtain ⟨c, hc, rfl⟩ := List.mem_map.1 hk
    exact ⟨c.val, getR_mem hs hc⟩
theorem RelR.skeys {m : List (Int × ByteArray)} {C : List Row} (h : RelR m C) (hs : SortedR C) : skeys m = C.map (·.key) := by
  have e : Ythjnknpgcmmapaa.skeys m = (C.map (·.key)).mergeSort (fun x y => decide (x ≤ y)) := Go.mergeSort_of_perm_i (h.perm hs)
  rw [e]
  refine List.mergeSort_of_pairwise ?_
  refine List.pairwise_map.2 (List.Pairwise.imp (R := fun a b : Row => a.key < b.key) (fun {a b} hab => ?_) hs)
  simp only [decide_eq_true_eq]; omega
theorem RelR.len {m : List (Int × ByteArray)} {C : List Row} (h : RelR m C) (hs : SortedR C) : m.length = C.length := by simpa using (h.perm hs).length_eq
theorem RelR.wf {m : List (Int × ByteArray)} {C : List Row} (h : RelR m C) (ok : okR C) : ∀ p ∈ m, (Lit.int .i64 p.1).wf = true := fun p hp => by
  have : p.1 ∈ C.map (·.key) := (h.perm ok.1).subset (List.mem_map.2 ⟨p, hp, rfl⟩)
  obtain ⟨c, hc, hk⟩ := List.mem_map.1 this
  have := ok.2 c hc
  rw [hk] at this
  unfold inI64 at this
  have h1 : IntKind.i64.min = -9223372036854775808 := by decide
  have h2 : IntKind.i64.max = 9223372036854775807 := by decide
  simp only [Lit.wf, h1, h2, Bool.and_eq_true, decide_eq_true_eq]
  exact this
/-- A number held from 0 to most. -/
def heldN (k : Int) (most : Nat) : Nat := (min (max k 0) (most : Int)).toNat
theorem heldN_le (k : Int) (most : Nat) : heldN k most ≤ most := by unfold heldN; omega
theorem heldN_eq (k : Int) (most : Nat) : min (max k 0) (most : Int) = (heldN k most : Int) := by unfold heldN; omega
theorem heldN_eq' (k : Int) (most : Nat) : max 0 (min k (most : Int)) = (heldN k most : Int) := by unfold heldN; omega
end Go.Proofs.Ythjnknpgcmmapaa
