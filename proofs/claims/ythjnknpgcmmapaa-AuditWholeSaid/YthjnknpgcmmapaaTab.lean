/-
  Which functions have a body, and that this is so.
-/
import Derived.Test.YthjnknpgcmmapaaEng10
import Derived.Test.YthjnknpgcmmapaaProg
import Derived.Test.YthjnknpgcmmapaaChecked
namespace Go.Proofs.Ythjnknpgcmmapaa
set_option linter.unusedVariables false
set_option maxRecDepth 100000
open Go.RowKit

def Tcall : List Bool := [false, false, true, true, true, true, true, true, true, true, true, true, true, true, true, true, true, true, true, true, true, true, true, true, true, true, true, true, true, true, true, true, true, true, true, true, true, true, true, true, true, true, true, true, true, true, true, true, true, true, true, true, true, true, true, true, true, true, true, true, true, true, true, true, true, true, true, true, true, true, true, true, true, true, true, true, true, true, true, true, true, true, true, true, true, true, true, true, true, true, true, true, true, true, true, true, true, true, true, true, true, true, true, true, true, true, true, true, true, true, true, true, true, true, true, true, true, true, true, true, true, true, true, true, true, true, true, true, true, true, true, true, true, true, true, true, true, true, true, true, true, true, true, true, true, true, true, true, false, false, false, false, false, false, false, false, false, false, false, false, false, false, false, false]
theorem Tcall_ok : Calls.Tab Try.prog Tcall := callTab_ok _ _ (by kernel_rfl)
theorem mixed_ok : Try.prog.follows .mixedOrders = true := by kernel_rfl
end Go.Proofs.Ythjnknpgcmmapaa
