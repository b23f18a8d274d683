/-
  My own engine, part 1: a small evaluator of the model's operations over a list of known slots; what it asks is a plain proposition about the memory; it is sound for the kit's 'Code.wp'.
-/
import Derived.WalkKit
import Derived.WalkLawsBesides
import Derived.Deep.RegionHeld3
import Derived.Deep.AppendLies
namespace Go.Proofs.Ythjnknpgcmmapaa
set_option linter.unusedVariables false
open Go.RowKit

/-! ### Known slots -/
inductive Ent where
  | v (x : Value)
  | t
  | f
  | u
def Ent.val : Ent → Value
  | .v x => x
  | .t => .bool true
  | .f => .bool false
  | .u => undef
abbrev Env := List (Nat × Ent)
def Env.get : Env → Nat → Option Ent
  | [], _ => none
  | (k, e) :: r, t => match Nat.beq k t with
    | true => some e
    | false => Env.get r t
def constEnt : Value → Ent
  | .bool true => .t
  | .bool false => .f
  | v => .v v
def Env.ent (E : Env) : Operand → Option Ent
  | .tmp t => E.get t
  | .const v => some (constEnt v)
  | .global g => some (.v (.pointer (some ⟨g, 0, none⟩)))
  | .func f => some (.v (.func (.func f) #[] #[]))
def Env.ev (E : Env) (x : Operand) : Value := match E.ent x with
  | some e => e.val
  | none => undef
def Env.has (E : Env) (x : Operand) : Bool := match E.ent x with
  | some _ => true
  | none => false
def Env.hasAll (E : Env) : List Operand → Bool
  | [] => true
  | x :: r => match E.has x with
    | true => Env.hasAll E r
    | false => false
def Env.put (n : Nat) (E : Env) (d : Option Nat) (e : Ent) : Env := match d with
  | none => E
  | some d => match Nat.blt d n with
    | true => (d, e) :: E
    | false => E

theorem constEnt_val (v : Value) : (constEnt v).val = v := by
  unfold constEnt; split <;> rfl

/-- The frame a has what E says, but for the slots X. -/
structure Agree (X : List Nat) (n : Nat) (E : Env) (a : Act) : Prop where
  size : a.tmps.size = n
  defers : a.defers = []
  get : ∀ t e, t ∉ X → E.get t = some e → a.tmps[t]? = some e.val
/-- The operand is no slot of X. -/
def Off (X : List Nat) (x : Operand) : Prop := ∀ t, x = .tmp t → t ∉ X
theorem Off.nil (x : Operand) : Off [] x := fun _ _ h => by cases h

theorem Agree.ent {X : List Nat} {n : Nat} {E : Env} {a : Act} (h : Agree X n E a) {x : Operand} (hX : Off X x) {e : Ent} (he : E.ent x = some e) : a.eval x = e.val := by
  cases x with
  | tmp t =>
    have := h.get t e (hX t rfl) he
    simp [Act.eval, Array.getD_eq_getD_getElem?, this]
  | const v => simp [Env.ent] at he; subst he; exact (constEnt_val v).symm
  | global g => simp [Env.ent] at he; subst he; rfl
  | func f => simp [Env.ent] at he; subst he; rfl

theorem Agree.ev {X : List Nat} {n : Nat} {E : Env} {a : Act} (h : Agree X n E a) {x : Operand} (hX : Off X x) (hx : E.has x = true) : a.eval x = E.ev x := by
  unfold Env.has at hx
  unfold Env.ev
  split at hx
  · rename_i e he; exact h.ent hX he
  · cases hx

theorem Env.hasAll_mem {E : Env} : ∀ {l : List Operand}, E.hasAll l = true → ∀ x ∈ l, E.has x = true
  | [], _, x, hx => by cases hx
  | y :: r, h, x, hx => by
    unfold Env.hasAll at h
    split at h
    · rename_i hy
      rcases List.mem_cons.1 hx with rfl | hx
      · exact hy
      · exact Env.hasAll_mem h x hx
    · cases h

theorem beq_iff {k t : Nat} : Nat.beq k t = true ↔ k = t := ⟨Nat.eq_of_beq_eq_true, fun h => by subst h; exact Nat.beq_refl k⟩

theorem Agree.put {X : List Nat} {n : Nat} {E : Env} {a : Act} (h : Agree X n E a) (d : Option Nat) (e : Ent) : Agree X n (E.put n d e) (a.put d e.val) := by
  cases d with
  | none => exact h
  | some d =>
    unfold Env.put
    refine ⟨by simp [Act.put, h.size], h.defers, fun t e' hX he => ?_⟩
    cases hb : Nat.blt d n with
    | true =>
      simp only [hb] at he
      have hlt : d < n := Nat.le_of_ble_eq_true hb
      simp only [Env.get] at he
      cases hk : Nat.beq d t with
      | true =>
        rw [hk] at he; cases he
        obtain rfl := beq_iff.1 hk
        simp [Act.put, h.size, hlt]
      | false =>
        rw [hk] at he
        have hne : d ≠ t := fun x => by rw [beq_iff.2 x] at hk; cases hk
        simp [Act.put, Array.getElem?_setIfInBounds_ne hne, h.get t e' hX he]
    | false =>
      simp only [hb] at he
      have hlt : ¬ d < n := fun hl => by
        have : Nat.blt d n = true := Nat.ble_eq_true_of_le hl
        rw [hb] at this; cases this
      simp only [Act.put]
      rw [Array.setIfInBounds_eq_of_size_le (by rw [h.size]; omega)]
      exact h.get t e' hX he

/-! ### The type table, as the evaluator reads it -/
inductive TK where
  | one
  | agg (n : Nat)
  | bad
def tk (P : Program) (t : TypeId) : TK := match P.underlying t with
  | some (.struct _) => match P.info? t with
    | some i => .agg i.size
    | none => .bad
  | some (.array _ _) => match P.info? t with
    | some i => .agg i.size
    | none => .bad
  | some _ => match P.info? t with
    | some _ => .one
    | none => .bad
  | none => .bad
def tSize (P : Program) (t : TypeId) : Option Nat := match P.info? t with
  | some i => some i.size
  | none => none
def tBytes (P : Program) (t : TypeId) : Nat := match P.info? t with
  | some i => i.bytes
  | none => 0
def tZero (P : Program) (t : TypeId) : Option (List Value) := match P.info? t with
  | some i => match i.zero with
    | some z => some z.cells.toList
    | none => none
  | none => none

/-! ### What the operations ask -/
def HRun (P : Program) (s : Sem Value) (w : World) (K : Value → World → Prop) : Prop := ∃ v w', s.run P w = .ok v w' ∧ K v w'
def HRq (P : Program) (s : Sem Value) (w : World) (K : Value → Prop) : Prop := ∃ v, s.run P w = .ok v w ∧ K v
def HLd (x : Value) (w : World) (K : Value → Prop) : Prop := ∃ a v, x = .pointer (some a) ∧ w.cell? a = some v ∧ K v
def HLdN (n : Nat) (x : Value) (w : World) (K : Value → Prop) : Prop :=
  ∃ (a : Addr) (vs : List Value), x = .pointer (some a) ∧ vs.length = n ∧ (∀ j v, vs[j]? = some v → w.cell? (a.add j) = some v) ∧ K (.agg vs.toArray)
def HSt (x v : Value) (w : World) (K : World → Prop) : Prop := ∃ a u, x = .pointer (some a) ∧ v.oneCell' = true ∧ w.cell? a = some u ∧ w.frozen? a = false ∧ K (w.setCell a v)
def stN : Addr → Nat → List Value → World → (World → Prop) → Prop
  | _, _, [], w, K => K w
  | a, i, v :: r, w, K => v.oneCell' = true ∧ (∃ u, w.cell? (a.add i) = some u) ∧ w.frozen? (a.add i) = false ∧ stN a (i + 1) r (w.setCell (a.add i) v) K
def HStN (n : Nat) (x v : Value) (w : World) (K : World → Prop) : Prop :=
  ∃ (a : Addr) (vs : List Value), x = .pointer (some a) ∧ v = .agg vs.toArray ∧ vs.length = n ∧ stN a 0 vs w K
def HNew (cs : List Value) (t : TypeId) (w : World) (K : Value → World → Prop) : Prop := K (.pointer (some ⟨w.heap.size, 0, none⟩)) (w.alloc (.cells cs.toArray t))
def HNil (x : Value) (K : Value → Prop) : Prop := ∃ a, x = .pointer (some a) ∧ K (.pointer (some a))
def HFld (off : Nat) (x : Value) (K : Value → Prop) : Prop := ∃ a, x = .pointer (some a) ∧ K (.pointer (some (a.add off)))
def HIdx (sz : Nat) (x i : Value) (K : Value → Prop) : Prop :=
  ∃ (a : Addr) (len cap : Nat) (k : IntKind) (j : Nat), x = .slice (some a) len cap ∧ i = .int k (((j : Nat) : Int)) ∧ j < len ∧ K (.pointer (some (a.add (j * sz))))
def HIdxA (sz n : Nat) (x i : Value) (K : Value → Prop) : Prop :=
  ∃ (a : Addr) (k : IntKind) (j : Nat), x = .pointer (some a) ∧ i = .int k (((j : Nat) : Int)) ∧ j < n ∧ K (.pointer (some (a.add (j * sz))))
def HExt (i : Nat) (x : Value) (K : Value → Prop) : Prop := ∃ vs v, x = .tuple vs ∧ vs[i]? = some v ∧ K v
def HLenS (x : Value) (K : Value → Prop) : Prop := ∃ a n c, x = .slice a n c ∧ K (.int .i64 n)
def HLenT (x : Value) (K : Value → Prop) : Prop := ∃ s, x = .string s ∧ K (.int .i64 s.size)
def HCall (P : Program) (f : FuncId) (args : List Value) (w : World) (K : Value → World → Prop) : Prop :=
  Calls P f args.toArray w fun e w' => ∃ v, e = .returned v ∧ K v w'
/-- Integers and strings: no type is looked at. -/
def binVal : BinOp → Value → Value → Option Value
  | .shl, .int k a, .int _ b => if b < 0 then none else some (.int k (k.wrap (a * 2 ^ (min b.toNat k.bits))))
  | .shr, .int k a, .int _ b => if b < 0 then none else some (.int k (a.fdiv (2 ^ (min b.toNat k.bits))))
  | .add, .int k a, .int k' b => if k = k' then some (.int k (k.wrap (a + b))) else none
  | .sub, .int k a, .int k' b => if k = k' then some (.int k (k.wrap (a - b))) else none
  | .mul, .int k a, .int k' b => if k = k' then some (.int k (k.wrap (a * b))) else none
  | .quo, .int k a, .int k' b => if k = k' then if b = 0 then none else some (.int k (k.wrap (a.tdiv b))) else none
  | .rem, .int k a, .int k' b => if k = k' then if b = 0 then none else some (.int k (a.tmod b)) else none
  | .and, .int k a, .int k' b => if k = k' then some (.int k (k.wrap (BitVec.ofInt k.bits a &&& BitVec.ofInt k.bits b).toNat)) else none
  | .or, .int k a, .int k' b => if k = k' then some (.int k (k.wrap (BitVec.ofInt k.bits a ||| BitVec.ofInt k.bits b).toNat)) else none
  | .xor, .int k a, .int k' b => if k = k' then some (.int k (k.wrap (BitVec.ofInt k.bits a ^^^ BitVec.ofInt k.bits b).toNat)) else none
  | .eql, .int k a, .int k' b => if k = k' then some (.bool (a == b)) else none
  | .neq, .int k a, .int k' b => if k = k' then some (.bool (a != b)) else none
  | .lss, .int k a, .int k' b => if k = k' then some (.bool (decide (a < b))) else none
  | .leq, .int k a, .int k' b => if k = k' then some (.bool (decide (a ≤ b))) else none
  | .gtr, .int k a, .int k' b => if k = k' then some (.bool (decide (a > b))) else none
  | .geq, .int k a, .int k' b => if k = k' then some (.bool (decide (a ≥ b))) else none
  | .add, .string a, .string b => if ((a.size + b.size : Nat) : Int) > IntKind.i64.max then none else some (.string (a ++ b))
  | .eql, .string a, .string b => some (.bool (a.toList == b.toList))
  | .neq, .string a, .string b => some (.bool (!(a.toList == b.toList)))
  | .lss, .string a, .string b => some (.bool (Op.bytesLess a.toList b.toList))
  | _, _, _ => none
def HBin (op : BinOp) (x y : Value) (K : Value → Prop) : Prop := ∃ v, binVal op x y = some v ∧ K v
/-- == and != of bools, of pointers one of which is nil, of slices, maps, functions held against nil. -/
def eqVal : TypeDesc → Value → Value → Option Bool
  | .bool, .bool a, .bool b => some (a == b)
  | .pointer _, .pointer none, .pointer b => some b.isNone
  | .pointer _, .pointer (some _), .pointer none => some false
  | .slice _, .slice a _ _, .slice none _ _ => some a.isNone
  | .map _ _, .map a, .map none => some a.isNone
  | .func _ _ _, .nilFunc, .nilFunc => some true
  | .func _ _ _, .func _ _ _, .nilFunc => some false
  | _, _, _ => none
def HEq (d : TypeDesc) (neg : Bool) (x y : Value) (K : Value → Prop) : Prop := ∃ b, eqVal d x y = some b ∧ K (.bool (match neg with | true => !b | false => b))
/-- == of two values of a struct type or the like. -/
def HEqG (P : Program) (t : TypeId) (neg : Bool) (x y : Value) (w : World) (K : Value → Prop) : Prop :=
  ∃ xs ys b, x = .agg xs ∧ y = .agg ys ∧ (Op.equal t x y).run P w = .ok b w ∧ K (.bool (match neg with | true => !b | false => b))
end Go.Proofs.Ythjnknpgcmmapaa
