/-
  Plain: requests; where a table stands.
-/
import Derived.Test.YthjnknpgcmmapaaModS
namespace Go.Proofs.Ythjnknpgcmmapaa
set_option linter.unusedVariables false
open Go.RowKit

structure Rq where
  id : Int
  table : Int
  weight : Int
  at_ : Int
  cursor : Int
  chunks : Int
  done : Bool
deriving DecidableEq
def encRq (r : Rq) : List Value := [.int .i64 r.id, .int .i64 r.table, .int .i64 r.weight, .int .i64 r.at_, .int .i64 r.cursor, .int .i64 r.chunks, .bool r.done]
theorem encRq_len (r : Rq) : (encRq r).length = 7 := rfl
theorem encRq_one (r : Rq) : ∀ v ∈ encRq r, v.oneCell' = true := by simp [encRq, Value.oneCell']
abbrev RdRq (H : Heap) (v : Value) (L : List Rq) : Prop := RdSl H 7 v L.length (L.map encRq).flatten
def howStep (t : Int) (h : Int) (r : Rq) : Int := if r.table = t then (if r.done = true then 2 else max h 1) else h
def howR (t : Int) (L : List Rq) : Int := L.foldl (howStep t) 0
theorem foldl_two (t : Int) : ∀ L : List Rq, L.foldl (howStep t) 2 = 2
  | [] => rfl
  | r :: L => by
    rw [List.foldl_cons]
    have : howStep t 2 r = 2 := by unfold howStep; split <;> (try split) <;> omega
    rw [this, foldl_two t L]
theorem howR_take {t : Int} {L : List Rq} {i : Nat} (h : i < L.length) : howR t (L.take (i + 1)) = howStep t (howR t (L.take i)) L[i] := by
  unfold howR
  rw [List.take_succ_eq_append_getElem h, List.foldl_append]; rfl
theorem howR_two {t : Int} {L : List Rq} {i : Nat} (h : howR t (L.take i) = 2) : howR t L = 2 := by
  have : L = L.take i ++ L.drop i := by simp
  unfold howR at *
  rw [this, List.foldl_append, h, foldl_two]
/-- The bit of a table in Late. -/
def bitV (late t : Int) : Int := IntKind.i64.wrap ((BitVec.ofInt IntKind.i64.bits (late.fdiv (2 ^ (min t.toNat IntKind.i64.bits))) &&& BitVec.ofInt IntKind.i64.bits 1).toNat)
theorem s_bit {k : IntKind} {a b : Int} {K : Value → Prop} (hb : 0 ≤ b) (h : K (.int .i64 (bitV a b))) : HBin .shr (.int .i64 a) (.int k b) fun v => HBin .and v (.int .i64 1) K := by
  refine ⟨.int .i64 (a.fdiv (2 ^ (min b.toNat IntKind.i64.bits))), ?_, ⟨_, ?_, h⟩⟩
  · simp only [binVal]; rw [if_neg (by omega)]
  · simp only [binVal, if_true]; rfl
def standsR (late : Int) (L : List Rq) (t : Int) : Int := if t < 0 ∨ 8 ≤ t then 0 else if bitV late t = 0 then 2 else howR t L
/-- The At of the last request of a table. -/
def lastStep (t : Int) (a : Int) (r : Rq) : Int := if r.table = t then r.at_ else a
def lastR (t : Int) (L : List Rq) : Int := L.foldl (lastStep t) 0
theorem lastR_take {t : Int} {L : List Rq} {i : Nat} (h : i < L.length) : lastR t (L.take (i + 1)) = lastStep t (lastR t (L.take i)) L[i] := by
  unfold lastR
  rw [List.take_succ_eq_append_getElem h, List.foldl_append]; rfl
end Go.Proofs.Ythjnknpgcmmapaa
