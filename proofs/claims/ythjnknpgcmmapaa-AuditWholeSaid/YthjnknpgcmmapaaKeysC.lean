/-
  The keys of a map of int64, sorted, at this program.
-/
import Derived.Test.YthjnknpgcmmapaaKeys
import Derived.Test.YthjnknpgcmmapaaLay
import Derived.Test.YthjnknpgcmmapaaTab
namespace Go.Proofs.Ythjnknpgcmmapaa
set_option linter.unusedVariables false
set_option maxRecDepth 100000
open Go.RowKit Go.Maps Go.Sort Go.Shelf

theorem sortsIn (m : Nat) : AnyZI.SortsIn Try.prog sortedC_ren Fence.wide m :=
  ⟨fun blk off cap ss W hH hblk hsz => callsIn_wide.2 (AnyM.slices_Sort_int sortC blk off cap ss W hH hblk hsz),
   fun p cap W => callsIn_wide.2 (AnyM.slices_Sort_int_none sortC p cap W)⟩
theorem sortsInD (m : Nat) : AnyZI.SortsIn Try.prog sortedD_ren Fence.wide m :=
  ⟨fun blk off cap ss W hH hblk hsz => callsIn_wide.2 (AnyM.slices_Sort_int sortD blk off cap ss W hH hblk hsz),
   fun p cap W => callsIn_wide.2 (AnyM.slices_Sort_int_none sortD p cap W)⟩
section
variable {W w : World} {l : List Chunk} {b : Nat} {α : Type} {val : α → Value} {m : List (Int × α)}
theorem s_keysT (hS : SL W l w) (hm : Has (.ob (MapO (Value.int .i64) val b m)) l) (hlen : m.length * 8 ≤ 140737488355328) (hwf : ∀ p ∈ m, (Lit.int .i64 p.1).wf = true) {K : Value → World → Prop}
    (h : ∀ v w', SL W (.ob (OwnSl v 2 1 m.length ((skeys m).map (Value.int .i64))) :: l) w' → K v w') :
    HCall Try.prog 121 [.map (some b)] w fun v1 w1 => HCall Try.prog 120 [v1] w1 K :=
  keysSorted keysT sortedC sortsIn (enters_of Try.func129 (by kernel_rfl) rfl) (enters_of Try.func130 (by kernel_rfl) rfl) Try.underlying2 hS hm hlen hwf h
theorem s_keysD (hS : SL W l w) (hm : Has (.ob (MapO (Value.int .i64) val b m)) l) (hlen : m.length * 8 ≤ 140737488355328) (hwf : ∀ p ∈ m, (Lit.int .i64 p.1).wf = true) {K : Value → World → Prop}
    (h : ∀ v w', SL W (.ob (OwnSl v 3 1 m.length ((skeys m).map (Value.int .i64))) :: l) w' → K v w') :
    HCall Try.prog 51 [.map (some b)] w fun v1 w1 => HCall Try.prog 50 [v1] w1 K :=
  keysSorted keysD sortedD sortsInD (enters_of Try.func85 (by kernel_rfl) rfl) (enters_of Try.func86 (by kernel_rfl) rfl) Try.underlying3 hS hm hlen hwf h
end
end Go.Proofs.Ythjnknpgcmmapaa
