/-
  My own library: strings: one byte of a string; bytes put together as a string.
-/
import Derived.Test.YthjnknpgcmmapaaSl5
import Derived.Laws.BytesString
namespace Go.Proofs.Ythjnknpgcmmapaa
set_option linter.unusedVariables false
open Go.RowKit
section
variable {W w : World} {l : List Chunk} {P : Program}
theorem s_strAt {t : TypeId} {s : ByteArray} {j : Nat} {k : IntKind} {K : Value → Prop} (ht : P.underlying t = some .string) (hj : j < s.size) (h : K (.int .u8 (s[j]).toNat)) : HRq P (Instr.index t (.string s) (.int k (j : Int))) w K := by
  refine ⟨_, ?_, h⟩
  have : s[j]? = some s[j] := by simp [hj]
  simp [Instr.index, asIntOf, run_underlying ht, Result.andThen, this]
theorem s_byteStr {src dst e : TypeId} {b : Nat} {n : Int} {cap : Nat} {t : TypeId} {K : Value → Prop} (hS : SL W l w) (hm : Has (.pt b [.int .u8 n] t) l) (h1 : P.underlying src = some (.slice e)) (h2 : P.underlying dst = some .string) (h3 : P.underlying e = some (.int .u8))
    (h : K (.string ⟨#[UInt8.ofNat n.toNat]⟩)) : HRq P (convert src dst (.slice (some ⟨b, 0, none⟩) 1 cap)) w K := by
  refine ⟨_, ?_, h⟩
  have hc : w.cell? ⟨b, 0, none⟩ = some (.int .u8 n) := hS.cell hm rfl
  have hl : (loadCells ⟨b, 0, none⟩ 1).run P w = .ok ([n].map (Value.int .u8)).toArray w := by
    refine run_loadCells_list (P := P) (w := w) ⟨b, 0, none⟩ [.int .u8 n] (fun j v hj => ?_)
    match j, hj with
    | 0, hj =>
      simp at hj; subst hj
      rw [Addr.add_lit]; exact hc
  have := run_bytesToString (P := P) w ⟨b, 0, none⟩ 1 cap [n] hl
  simp [convert, run_underlying h1, run_underlying h2, run_underlying h3, Result.andThen, this]
  rfl
theorem s_addT {a b : ByteArray} {K : Value → Prop} (hr : a.size + b.size ≤ 1000000) (h : K (.string (a ++ b))) : HBin .add (.string a) (.string b) K := by
  refine ⟨_, ?_, h⟩
  have hm : IntKind.i64.max = 9223372036854775807 := by decide
  simp only [binVal]
  rw [if_neg (by rw [hm]; omega)]
end
end Go.Proofs.Ythjnknpgcmmapaa
