/-
  Arguments: rows of bytes.
-/
import Derived.Test.YthjnknpgcmmapaaDMod
import Derived.Test.YthjnknpgcmmapaaLawS
import Derived.Test.YthjnknpgcmmapaaOwn
namespace Go.Proofs.Ythjnknpgcmmapaa
set_option linter.unusedVariables false
open Go.ChangeShapes Go.WideShapes Go.ChangeAt Go.RowKit

theorem flat_val {α : Type} (f : α → Value) : ∀ l : List α, (l.map fun x => [f x]).flatten = l.map f
  | [] => rfl
  | x :: l => by simp only [List.map_cons, List.flatten_cons, flat_val f l]; rfl
theorem RdS.ints {k : IntKind} {w : World} {l : List Int} {v : Value} (h : RdS (tInt k) w Nob l v) : RdSl (Heap.of w) 1 v l.length (l.map (Value.int k)) := by
  have h2 := h.flat (enc := fun x => [.int k x]) (fun h => h) (fun _ => rfl)
  rw [flat_val] at h2
  exact h2
def toB (x : Int) : UInt8 := UInt8.ofNat x.toNat
theorem toB_c {x : Int} (h : inK .u8 x) : u8c (toB x) = .int .u8 x := by
  have := inK_u8 h
  unfold u8c toB
  congr 1
  rw [UInt8.toNat_ofNat']
  omega
theorem toB_map : ∀ {l : List Int}, (∀ x ∈ l, inK .u8 x) → l.map (Value.int .u8) = (l.map toB).map u8c
  | [], _ => rfl
  | x :: l, h => by
    simp only [List.map_cons, toB_c (h x (.head _))]
    rw [toB_map fun y hy => h y (.tail _ hy)]
theorem RdSl.toB {H : Heap} {v : Value} {l : List Int} (h : RdSl H 1 v l.length (l.map (Value.int .u8))) (hok : ∀ x ∈ l, inK .u8 x) : RdSl H 1 v (l.map toB).length ((l.map toB).map u8c) := by
  rw [toB_map hok] at h
  rw [List.length_map]; exact h
end Go.Proofs.Ythjnknpgcmmapaa
