/-
  No cell of these rows narrows 'for every input' (looked for: loops, veiled, ifaces, maps, wideKeys, modest, calm, conditions, laid).
  DERIVED. THE GIVEN ROWS OF THIS SEAT. 9 by the template 'for every input the law returns true; each argument reads behind the call as it read before'; 0 by the template 'total and deterministic' (their statements: YthjnknpgcmmapaaTotals.lean).
  GIVEN WITH THE SEED: the statements are not yours to turn. If you find one false, say at which input.
  Laid BY PROGRAM, IN A SANDBOX (cutbox-rows.mjs): the forced cells as the released guide's own fill.sh prints them over the translation a6cc1c07f4df48c1… (all of the seat's roots in one cut). By AI agents, Wed Nov 11 2026. No macro, syntax, notation, axiom, sorry.
-/
import Derived.Test.YthjnknpgcmmapaaChecked
import GoSem.Claim
import GoSem.ClaimJoined
import GoSem.ClaimMapViews
import Derived.JoinedTies
import Derived.KernelRfl
namespace Go.Proofs.Ythjnknpgcmmapaa
/- THE CELL 'sum', in the pinned program and in every row, IS THE sha256 OF THE DUMP (.gsa) THAT YthjnknpgcmmapaaProg.lean LOADS. Nothing in Lean hashes anything: it is a label: what it is worth is what the hold of that sum in a sandbox is worth. -/
noncomputable def Try.pinned : Pinned := { name := "ythjnknpgcmmapaa", sum := "a6cc1c07f4df48c1b342c1ed3711dc6d3405ee72d0229d248ed15d85d410b704", checked := Try.checked }
namespace Rows
def none {H : Type} : Left H := { results := [], args := [] }

/-- 'qanatlaw04.DiskOwn': WHATEVER THE INPUT: true; the input reads as it did. -/
def diskOwnSpec : ChangeSpec := { name := "diskOwn", fn := fun _ => fun
  | [d] => { results := [.lit (.bool true)], args := [d] }
  | _ => none }
def diskOwnRow : OpenClaim := { program := "ythjnknpgcmmapaa", sum := "a6cc1c07f4df48c1b342c1ed3711dc6d3405ee72d0229d248ed15d85d410b704", func := "qanat/qanatlaw04.DiskOwn", spec := "diskOwn", unfollowed := true, recurses := true, apart := false }
def DiskOwnSaid : Prop := diskOwnRow.holds Try.pinned (OpenSpec.ofChange diskOwnSpec)

/-- ITS FALSE NEIGHBOUR: 'it returns false'. Refute it at one input. -/
def diskOwnWrong : ChangeSpec := { name := "diskOwn", fn := fun _ => fun
  | [d] => { results := [.lit (.bool false)], args := [d] }
  | _ => none }
def DiskOwnWrongFalsely : Prop := diskOwnRow.holds Try.pinned (OpenSpec.ofChange diskOwnWrong)

/-- 'qanatlaw04.DiskSafe': WHATEVER THE INPUT: true; the input reads as it did. -/
def diskSafeSpec : ChangeSpec := { name := "diskSafe", fn := fun _ => fun
  | [d1, d2, d3] => { results := [.lit (.bool true)], args := [d1, d2, d3] }
  | _ => none }
def diskSafeRow : OpenClaim := { program := "ythjnknpgcmmapaa", sum := "a6cc1c07f4df48c1b342c1ed3711dc6d3405ee72d0229d248ed15d85d410b704", func := "qanat/qanatlaw04.DiskSafe", spec := "diskSafe", unfollowed := true, recurses := true, apart := false }
def DiskSafeSaid : Prop := diskSafeRow.holds Try.pinned (OpenSpec.ofChange diskSafeSpec)

/-- ITS FALSE NEIGHBOUR: 'it returns false'. Refute it at one input. -/
def diskSafeWrong : ChangeSpec := { name := "diskSafe", fn := fun _ => fun
  | [d1, d2, d3] => { results := [.lit (.bool false)], args := [d1, d2, d3] }
  | _ => none }
def DiskSafeWrongFalsely : Prop := diskSafeRow.holds Try.pinned (OpenSpec.ofChange diskSafeWrong)

/-- 'qanatlaw04.DiskArms': WHATEVER THE INPUT: true; the input reads as it did. -/
def diskArmsSpec : ChangeSpec := { name := "diskArms", fn := fun _ => fun
  | [d1, d2] => { results := [.lit (.bool true)], args := [d1, d2] }
  | _ => none }
def diskArmsRow : OpenClaim := { program := "ythjnknpgcmmapaa", sum := "a6cc1c07f4df48c1b342c1ed3711dc6d3405ee72d0229d248ed15d85d410b704", func := "qanat/qanatlaw04.DiskArms", spec := "diskArms", unfollowed := true, recurses := true, apart := false }
def DiskArmsSaid : Prop := diskArmsRow.holds Try.pinned (OpenSpec.ofChange diskArmsSpec)

/-- ITS FALSE NEIGHBOUR: 'it returns false'. Refute it at one input. -/
def diskArmsWrong : ChangeSpec := { name := "diskArms", fn := fun _ => fun
  | [d1, d2] => { results := [.lit (.bool false)], args := [d1, d2] }
  | _ => none }
def DiskArmsWrongFalsely : Prop := diskArmsRow.holds Try.pinned (OpenSpec.ofChange diskArmsWrong)

/-- 'qanatlaw04.DiskCuts': WHATEVER THE INPUT: true; the input reads as it did. -/
def diskCutsSpec : ChangeSpec := { name := "diskCuts", fn := fun _ => fun
  | [d1, d2, d3] => { results := [.lit (.bool true)], args := [d1, d2, d3] }
  | _ => none }
def diskCutsRow : OpenClaim := { program := "ythjnknpgcmmapaa", sum := "a6cc1c07f4df48c1b342c1ed3711dc6d3405ee72d0229d248ed15d85d410b704", func := "qanat/qanatlaw04.DiskCuts", spec := "diskCuts", unfollowed := true, recurses := true, apart := false }
def DiskCutsSaid : Prop := diskCutsRow.holds Try.pinned (OpenSpec.ofChange diskCutsSpec)

/-- ITS FALSE NEIGHBOUR: 'it returns false'. Refute it at one input. -/
def diskCutsWrong : ChangeSpec := { name := "diskCuts", fn := fun _ => fun
  | [d1, d2, d3] => { results := [.lit (.bool false)], args := [d1, d2, d3] }
  | _ => none }
def DiskCutsWrongFalsely : Prop := diskCutsRow.holds Try.pinned (OpenSpec.ofChange diskCutsWrong)

/-- 'qanatlaw04.DiskPlays': WHATEVER THE INPUT: true; the input reads as it did. -/
def diskPlaysSpec : ChangeSpec := { name := "diskPlays", fn := fun _ => fun
  | [d] => { results := [.lit (.bool true)], args := [d] }
  | _ => none }
def diskPlaysRow : OpenClaim := { program := "ythjnknpgcmmapaa", sum := "a6cc1c07f4df48c1b342c1ed3711dc6d3405ee72d0229d248ed15d85d410b704", func := "qanat/qanatlaw04.DiskPlays", spec := "diskPlays", unfollowed := true, recurses := true, apart := false }
def DiskPlaysSaid : Prop := diskPlaysRow.holds Try.pinned (OpenSpec.ofChange diskPlaysSpec)

/-- ITS FALSE NEIGHBOUR: 'it returns false'. Refute it at one input. -/
def diskPlaysWrong : ChangeSpec := { name := "diskPlays", fn := fun _ => fun
  | [d] => { results := [.lit (.bool false)], args := [d] }
  | _ => none }
def DiskPlaysWrongFalsely : Prop := diskPlaysRow.holds Try.pinned (OpenSpec.ofChange diskPlaysWrong)

/-- 'qanatlaw32.AuditStands': WHATEVER THE INPUT: true; the input reads as it did. -/
def auditStandsSpec : ChangeSpec := { name := "auditStands", fn := fun _ => fun
  | [d1, d2, d3, d4] => { results := [.lit (.bool true)], args := [d1, d2, d3, d4] }
  | _ => none }
def auditStandsRow : OpenClaim := { program := "ythjnknpgcmmapaa", sum := "a6cc1c07f4df48c1b342c1ed3711dc6d3405ee72d0229d248ed15d85d410b704", func := "qanat/qanatlaw32.AuditStands", spec := "auditStands", unfollowed := true, recurses := true, apart := false }
def AuditStandsSaid : Prop := auditStandsRow.holds Try.pinned (OpenSpec.ofChange auditStandsSpec)

/-- ITS FALSE NEIGHBOUR: 'it returns false'. Refute it at one input. -/
def auditStandsWrong : ChangeSpec := { name := "auditStands", fn := fun _ => fun
  | [d1, d2, d3, d4] => { results := [.lit (.bool false)], args := [d1, d2, d3, d4] }
  | _ => none }
def AuditStandsWrongFalsely : Prop := auditStandsRow.holds Try.pinned (OpenSpec.ofChange auditStandsWrong)

/-- 'qanatlaw32.AuditTables': WHATEVER THE INPUT: true; the input reads as it did. -/
def auditTablesSpec : ChangeSpec := { name := "auditTables", fn := fun _ => fun
  | [d1, d2, d3, d4, d5, d6, d7] => { results := [.lit (.bool true)], args := [d1, d2, d3, d4, d5, d6, d7] }
  | _ => none }
def auditTablesRow : OpenClaim := { program := "ythjnknpgcmmapaa", sum := "a6cc1c07f4df48c1b342c1ed3711dc6d3405ee72d0229d248ed15d85d410b704", func := "qanat/qanatlaw32.AuditTables", spec := "auditTables", unfollowed := true, recurses := true, apart := false }
def AuditTablesSaid : Prop := auditTablesRow.holds Try.pinned (OpenSpec.ofChange auditTablesSpec)

/-- ITS FALSE NEIGHBOUR: 'it returns false'. Refute it at one input. -/
def auditTablesWrong : ChangeSpec := { name := "auditTables", fn := fun _ => fun
  | [d1, d2, d3, d4, d5, d6, d7] => { results := [.lit (.bool false)], args := [d1, d2, d3, d4, d5, d6, d7] }
  | _ => none }
def AuditTablesWrongFalsely : Prop := auditTablesRow.holds Try.pinned (OpenSpec.ofChange auditTablesWrong)

/-- 'qanatlaw32.AuditWhole': WHATEVER THE INPUT: true; the input reads as it did. -/
def auditWholeSpec : ChangeSpec := { name := "auditWhole", fn := fun _ => fun
  | [d1, d2, d3, d4] => { results := [.lit (.bool true)], args := [d1, d2, d3, d4] }
  | _ => none }
def auditWholeRow : OpenClaim := { program := "ythjnknpgcmmapaa", sum := "a6cc1c07f4df48c1b342c1ed3711dc6d3405ee72d0229d248ed15d85d410b704", func := "qanat/qanatlaw32.AuditWhole", spec := "auditWhole", unfollowed := true, recurses := true, apart := false }
def AuditWholeSaid : Prop := auditWholeRow.holds Try.pinned (OpenSpec.ofChange auditWholeSpec)

/-- ITS FALSE NEIGHBOUR: 'it returns false'. Refute it at one input. -/
def auditWholeWrong : ChangeSpec := { name := "auditWhole", fn := fun _ => fun
  | [d1, d2, d3, d4] => { results := [.lit (.bool false)], args := [d1, d2, d3, d4] }
  | _ => none }
def AuditWholeWrongFalsely : Prop := auditWholeRow.holds Try.pinned (OpenSpec.ofChange auditWholeWrong)

/-- 'qanatlaw32.AuditChunks': WHATEVER THE INPUT: true; the input reads as it did. -/
def auditChunksSpec : ChangeSpec := { name := "auditChunks", fn := fun _ => fun
  | [d1, d2, d3, d4] => { results := [.lit (.bool true)], args := [d1, d2, d3, d4] }
  | _ => none }
def auditChunksRow : OpenClaim := { program := "ythjnknpgcmmapaa", sum := "a6cc1c07f4df48c1b342c1ed3711dc6d3405ee72d0229d248ed15d85d410b704", func := "qanat/qanatlaw32.AuditChunks", spec := "auditChunks", unfollowed := true, recurses := true, apart := false }
def AuditChunksSaid : Prop := auditChunksRow.holds Try.pinned (OpenSpec.ofChange auditChunksSpec)

/-- ITS FALSE NEIGHBOUR: 'it returns false'. Refute it at one input. -/
def auditChunksWrong : ChangeSpec := { name := "auditChunks", fn := fun _ => fun
  | [d1, d2, d3, d4] => { results := [.lit (.bool false)], args := [d1, d2, d3, d4] }
  | _ => none }
def AuditChunksWrongFalsely : Prop := auditChunksRow.holds Try.pinned (OpenSpec.ofChange auditChunksWrong)

/- THE SECOND FORM. 'bulk': how many values and letters a reading holds, each counted each time it is reached (what is shared counts as often as it is met; a slice's spare places count too). A statement '..UptoSaid' is the law's where the arguments, and the package variables that the reading takes, are together of bulk at most 1048576: NARROWER than '..Said'. Prove '..Said' where nothing that the law and all that it calls make is longer than what came in: it says more and counts as full. Else prove '..UptoSaid'. A law counts once. -/
mutual
def uptoBulk {H : Type} : DataW H → Nat
  | .lit (.string bytes) => bytes.length + 1
  | .lit _ => 1
  | .nil => 1
  | .ptr d => uptoBulk d + 1
  | .slice elems spare => uptoBulkAll elems + uptoBulkAll spare + 1
  | .agg parts => uptoBulkAll parts + 1
  | .iface _ d => uptoBulk d + 1
  | .map entries => uptoBulkEntries entries + 1
  | .held _ => 1
def uptoBulkAll {H : Type} : List (DataW H) → Nat
  | [] => 0
  | d :: r => uptoBulk d + uptoBulkAll r
def uptoBulkEntries {H : Type} : List (Lit × DataW H) → Nat
  | [] => 0
  | x :: r => uptoBulkEntry x + uptoBulkEntries r
def uptoBulkEntry {H : Type} : Lit × DataW H → Nat
  | (.string bytes, d) => bytes.length + uptoBulk d + 1
  | (_, d) => uptoBulk d + 1
 end
def uptoSmall : (H : Type) → List (DataW H) → Bool := fun _ ds => decide (uptoBulkAll ds ≤ 1048576)
def OpenSpec.upto (s : _root_.Go.ChangeSpec) : _root_.Go.OpenSpec := { _root_.Go.OpenSpec.ofChange s with cond := some uptoSmall }

/-- 'qanatlaw04.DiskOwn', WHERE WHAT IT READS IS OF BULK AT MOST 1048576: true; the input reads as it did. -/
def diskOwnUptoRow : OpenClaim := { program := "ythjnknpgcmmapaa", sum := "a6cc1c07f4df48c1b342c1ed3711dc6d3405ee72d0229d248ed15d85d410b704", func := "qanat/qanatlaw04.DiskOwn", spec := "diskOwn", unfollowed := true, recurses := true, apart := false, narrowed := true }
def DiskOwnUptoSaid : Prop := diskOwnUptoRow.holds Try.pinned (OpenSpec.upto diskOwnSpec)

/-- 'qanatlaw04.DiskSafe', WHERE WHAT IT READS IS OF BULK AT MOST 1048576: true; the input reads as it did. -/
def diskSafeUptoRow : OpenClaim := { program := "ythjnknpgcmmapaa", sum := "a6cc1c07f4df48c1b342c1ed3711dc6d3405ee72d0229d248ed15d85d410b704", func := "qanat/qanatlaw04.DiskSafe", spec := "diskSafe", unfollowed := true, recurses := true, apart := false, narrowed := true }
def DiskSafeUptoSaid : Prop := diskSafeUptoRow.holds Try.pinned (OpenSpec.upto diskSafeSpec)

/-- 'qanatlaw04.DiskArms', WHERE WHAT IT READS IS OF BULK AT MOST 1048576: true; the input reads as it did. -/
def diskArmsUptoRow : OpenClaim := { program := "ythjnknpgcmmapaa", sum := "a6cc1c07f4df48c1b342c1ed3711dc6d3405ee72d0229d248ed15d85d410b704", func := "qanat/qanatlaw04.DiskArms", spec := "diskArms", unfollowed := true, recurses := true, apart := false, narrowed := true }
def DiskArmsUptoSaid : Prop := diskArmsUptoRow.holds Try.pinned (OpenSpec.upto diskArmsSpec)

/-- 'qanatlaw04.DiskCuts', WHERE WHAT IT READS IS OF BULK AT MOST 1048576: true; the input reads as it did. -/
def diskCutsUptoRow : OpenClaim := { program := "ythjnknpgcmmapaa", sum := "a6cc1c07f4df48c1b342c1ed3711dc6d3405ee72d0229d248ed15d85d410b704", func := "qanat/qanatlaw04.DiskCuts", spec := "diskCuts", unfollowed := true, recurses := true, apart := false, narrowed := true }
def DiskCutsUptoSaid : Prop := diskCutsUptoRow.holds Try.pinned (OpenSpec.upto diskCutsSpec)

/-- 'qanatlaw04.DiskPlays', WHERE WHAT IT READS IS OF BULK AT MOST 1048576: true; the input reads as it did. -/
def diskPlaysUptoRow : OpenClaim := { program := "ythjnknpgcmmapaa", sum := "a6cc1c07f4df48c1b342c1ed3711dc6d3405ee72d0229d248ed15d85d410b704", func := "qanat/qanatlaw04.DiskPlays", spec := "diskPlays", unfollowed := true, recurses := true, apart := false, narrowed := true }
def DiskPlaysUptoSaid : Prop := diskPlaysUptoRow.holds Try.pinned (OpenSpec.upto diskPlaysSpec)

/-- 'qanatlaw32.AuditStands', WHERE WHAT IT READS IS OF BULK AT MOST 1048576: true; the input reads as it did. -/
def auditStandsUptoRow : OpenClaim := { program := "ythjnknpgcmmapaa", sum := "a6cc1c07f4df48c1b342c1ed3711dc6d3405ee72d0229d248ed15d85d410b704", func := "qanat/qanatlaw32.AuditStands", spec := "auditStands", unfollowed := true, recurses := true, apart := false, narrowed := true }
def AuditStandsUptoSaid : Prop := auditStandsUptoRow.holds Try.pinned (OpenSpec.upto auditStandsSpec)

/-- 'qanatlaw32.AuditTables', WHERE WHAT IT READS IS OF BULK AT MOST 1048576: true; the input reads as it did. -/
def auditTablesUptoRow : OpenClaim := { program := "ythjnknpgcmmapaa", sum := "a6cc1c07f4df48c1b342c1ed3711dc6d3405ee72d0229d248ed15d85d410b704", func := "qanat/qanatlaw32.AuditTables", spec := "auditTables", unfollowed := true, recurses := true, apart := false, narrowed := true }
def AuditTablesUptoSaid : Prop := auditTablesUptoRow.holds Try.pinned (OpenSpec.upto auditTablesSpec)

/-- 'qanatlaw32.AuditWhole', WHERE WHAT IT READS IS OF BULK AT MOST 1048576: true; the input reads as it did. -/
def auditWholeUptoRow : OpenClaim := { program := "ythjnknpgcmmapaa", sum := "a6cc1c07f4df48c1b342c1ed3711dc6d3405ee72d0229d248ed15d85d410b704", func := "qanat/qanatlaw32.AuditWhole", spec := "auditWhole", unfollowed := true, recurses := true, apart := false, narrowed := true }
def AuditWholeUptoSaid : Prop := auditWholeUptoRow.holds Try.pinned (OpenSpec.upto auditWholeSpec)

/-- 'qanatlaw32.AuditChunks', WHERE WHAT IT READS IS OF BULK AT MOST 1048576: true; the input reads as it did. -/
def auditChunksUptoRow : OpenClaim := { program := "ythjnknpgcmmapaa", sum := "a6cc1c07f4df48c1b342c1ed3711dc6d3405ee72d0229d248ed15d85d410b704", func := "qanat/qanatlaw32.AuditChunks", spec := "auditChunks", unfollowed := true, recurses := true, apart := false, narrowed := true }
def AuditChunksUptoSaid : Prop := auditChunksUptoRow.holds Try.pinned (OpenSpec.upto auditChunksSpec)

end Rows
end Go.Proofs.Ythjnknpgcmmapaa
