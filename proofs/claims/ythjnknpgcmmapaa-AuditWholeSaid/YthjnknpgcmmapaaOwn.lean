/-
  Two closed facts of the program, for the statements' rows.
-/
import Derived.Test.YthjnknpgcmmapaaRows
import Derived.Test.YthjnknpgcmmapaaLib3
namespace Go.Proofs.Ythjnknpgcmmapaa
set_option linter.unusedVariables false
theorem Try.own : ownKnob Try.prog.godebug = none := by kernel_rfl
theorem Try.laidOut : laidOutB Try.prog = true := by kernel_rfl
end Go.Proofs.Ythjnknpgcmmapaa
