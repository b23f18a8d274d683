/-
  No cell of these rows narrows 'for every input' (looked for: loops, veiled, ifaces, maps, wideKeys, modest, calm, conditions, laid).
  DERIVED. THE GIVEN ROWS OF THIS SEAT. 8 by the template 'for every input the law returns true; each argument reads behind the call as it read before'; 0 by the template 'total and deterministic' (their statements: YtfenmffiidchcaaGreatTotals.lean).
  GIVEN WITH THE SEED: the statements are not yours to turn. If you find one false, say at which input.
  Laid BY PROGRAM, IN A SANDBOX (cutbox-rows.mjs): the forced cells as the released guide's own fill.sh prints them over the translation 7a2b99cbb468667b… (all of the seat's roots in one cut). By AI agents, Wed Nov 11 2026. No macro, syntax, notation, axiom, sorry.
-/
import Derived.Test.YtfenmffiidchcaaGreatChecked
import GoSem.Claim
import GoSem.ClaimJoined
import GoSem.ClaimMapViews
import Derived.JoinedTies
import Derived.KernelRfl
namespace Go.Proofs.YtfenmffiidchcaaGreat
/- THE CELL 'sum', in the pinned program and in every row, IS THE sha256 OF THE DUMP (.gsa) THAT YtfenmffiidchcaaGreatProg.lean LOADS. Nothing in Lean hashes anything: it is a label: what it is worth is what the hold of that sum in a sandbox is worth. -/
noncomputable def Tryz.pinned : Pinned := { name := "ytfenmffiidchcaagreat", sum := "7a2b99cbb468667bd5c3265969e8c502d4835a8cc56583030321ba478b939ec0", checked := Tryz.checked }
namespace Rows
def none {H : Type} : Left H := { results := [], args := [] }

/-- 'qanatlaw12.SourceKeeps': WHATEVER THE INPUT: true; the input reads as it did. -/
def sourceKeepsSpec : ChangeSpec := { name := "sourceKeeps", fn := fun _ => fun
  | [d1, d2, d3, d4, d5] => { results := [.lit (.bool true)], args := [d1, d2, d3, d4, d5] }
  | _ => none }
def sourceKeepsRow : OpenClaim := { program := "ytfenmffiidchcaagreat", sum := "7a2b99cbb468667bd5c3265969e8c502d4835a8cc56583030321ba478b939ec0", func := "qanat/qanatlaw12.SourceKeeps", spec := "sourceKeeps", inPlace := ["slices.overlaps[qanat/api.Row]"], unfollowed := true, recurses := true, plainKeys := false, apart := false }
def SourceKeepsSaid : Prop := sourceKeepsRow.holds Tryz.pinned (OpenSpec.ofChange sourceKeepsSpec)

/-- ITS FALSE NEIGHBOUR: 'it returns false'. Refute it at one input. -/
def sourceKeepsWrong : ChangeSpec := { name := "sourceKeeps", fn := fun _ => fun
  | [d1, d2, d3, d4, d5] => { results := [.lit (.bool false)], args := [d1, d2, d3, d4, d5] }
  | _ => none }
def SourceKeepsWrongFalsely : Prop := sourceKeepsRow.holds Tryz.pinned (OpenSpec.ofChange sourceKeepsWrong)

/-- 'qanatlaw12.SourceChunks': WHATEVER THE INPUT: true; the input reads as it did. -/
def sourceChunksSpec : ChangeSpec := { name := "sourceChunks", fn := fun _ => fun
  | [d1, d2] => { results := [.lit (.bool true)], args := [d1, d2] }
  | _ => none }
def sourceChunksRow : OpenClaim := { program := "ytfenmffiidchcaagreat", sum := "7a2b99cbb468667bd5c3265969e8c502d4835a8cc56583030321ba478b939ec0", func := "qanat/qanatlaw12.SourceChunks", spec := "sourceChunks", inPlace := ["slices.overlaps[qanat/api.Row]"], unfollowed := true, recurses := true, plainKeys := false, apart := false }
def SourceChunksSaid : Prop := sourceChunksRow.holds Tryz.pinned (OpenSpec.ofChange sourceChunksSpec)

/-- ITS FALSE NEIGHBOUR: 'it returns false'. Refute it at one input. -/
def sourceChunksWrong : ChangeSpec := { name := "sourceChunks", fn := fun _ => fun
  | [d1, d2] => { results := [.lit (.bool false)], args := [d1, d2] }
  | _ => none }
def SourceChunksWrongFalsely : Prop := sourceChunksRow.holds Tryz.pinned (OpenSpec.ofChange sourceChunksWrong)

/-- 'qanatlaw12.SourceImages': WHATEVER THE INPUT: true; the input reads as it did. -/
def sourceImagesSpec : ChangeSpec := { name := "sourceImages", fn := fun _ => fun
  | [d1, d2, d3, d4, d5, d6] => { results := [.lit (.bool true)], args := [d1, d2, d3, d4, d5, d6] }
  | _ => none }
def sourceImagesRow : OpenClaim := { program := "ytfenmffiidchcaagreat", sum := "7a2b99cbb468667bd5c3265969e8c502d4835a8cc56583030321ba478b939ec0", func := "qanat/qanatlaw12.SourceImages", spec := "sourceImages", inPlace := ["slices.overlaps[qanat/api.Row]"], unfollowed := true, recurses := true, plainKeys := false, apart := false }
def SourceImagesSaid : Prop := sourceImagesRow.holds Tryz.pinned (OpenSpec.ofChange sourceImagesSpec)

/-- ITS FALSE NEIGHBOUR: 'it returns false'. Refute it at one input. -/
def sourceImagesWrong : ChangeSpec := { name := "sourceImages", fn := fun _ => fun
  | [d1, d2, d3, d4, d5, d6] => { results := [.lit (.bool false)], args := [d1, d2, d3, d4, d5, d6] }
  | _ => none }
def SourceImagesWrongFalsely : Prop := sourceImagesRow.holds Tryz.pinned (OpenSpec.ofChange sourceImagesWrong)

/-- 'qanatlaw12.SourceFolds': WHATEVER THE INPUT: true; the input reads as it did. -/
def sourceFoldsSpec : ChangeSpec := { name := "sourceFolds", fn := fun _ => fun
  | [d1, d2] => { results := [.lit (.bool true)], args := [d1, d2] }
  | _ => none }
def sourceFoldsRow : OpenClaim := { program := "ytfenmffiidchcaagreat", sum := "7a2b99cbb468667bd5c3265969e8c502d4835a8cc56583030321ba478b939ec0", func := "qanat/qanatlaw12.SourceFolds", spec := "sourceFolds", inPlace := ["slices.overlaps[qanat/api.Row]"], unfollowed := true, recurses := true, plainKeys := false, apart := false }
def SourceFoldsSaid : Prop := sourceFoldsRow.holds Tryz.pinned (OpenSpec.ofChange sourceFoldsSpec)

/-- ITS FALSE NEIGHBOUR: 'it returns false'. Refute it at one input. -/
def sourceFoldsWrong : ChangeSpec := { name := "sourceFolds", fn := fun _ => fun
  | [d1, d2] => { results := [.lit (.bool false)], args := [d1, d2] }
  | _ => none }
def SourceFoldsWrongFalsely : Prop := sourceFoldsRow.holds Tryz.pinned (OpenSpec.ofChange sourceFoldsWrong)

/-- 'qanatlaw28.SnapNews': WHATEVER THE INPUT: true; the input reads as it did. -/
def snapNewsSpec : ChangeSpec := { name := "snapNews", fn := fun _ => fun
  | [d] => { results := [.lit (.bool true)], args := [d] }
  | _ => none }
def snapNewsRow : OpenClaim := { program := "ytfenmffiidchcaagreat", sum := "7a2b99cbb468667bd5c3265969e8c502d4835a8cc56583030321ba478b939ec0", func := "qanat/qanatlaw28.SnapNews", spec := "snapNews", inPlace := ["slices.overlaps[qanat/api.Row]", "internal/bytealg.IndexByteString", "internal/bytealg.IndexString"], unfollowed := true, recurses := true, named := ["internal/bytealg.MaxLen"], plainKeys := false, apart := false }
def SnapNewsSaid : Prop := snapNewsRow.holds Tryz.pinned (OpenSpec.ofChange snapNewsSpec)

/-- ITS FALSE NEIGHBOUR: 'it returns false'. Refute it at one input. -/
def snapNewsWrong : ChangeSpec := { name := "snapNews", fn := fun _ => fun
  | [d] => { results := [.lit (.bool false)], args := [d] }
  | _ => none }
def SnapNewsWrongFalsely : Prop := snapNewsRow.holds Tryz.pinned (OpenSpec.ofChange snapNewsWrong)

/-- 'qanatlaw28.SnapTurns': WHATEVER THE INPUT: true; the input reads as it did. -/
def snapTurnsSpec : ChangeSpec := { name := "snapTurns", fn := fun _ => fun
  | [d1, d2] => { results := [.lit (.bool true)], args := [d1, d2] }
  | _ => none }
def snapTurnsRow : OpenClaim := { program := "ytfenmffiidchcaagreat", sum := "7a2b99cbb468667bd5c3265969e8c502d4835a8cc56583030321ba478b939ec0", func := "qanat/qanatlaw28.SnapTurns", spec := "snapTurns", inPlace := ["slices.overlaps[qanat/api.Row]", "internal/bytealg.IndexByteString", "internal/bytealg.IndexString"], unfollowed := true, recurses := true, named := ["internal/bytealg.MaxLen"], plainKeys := false, apart := false }
def SnapTurnsSaid : Prop := snapTurnsRow.holds Tryz.pinned (OpenSpec.ofChange snapTurnsSpec)

/-- ITS FALSE NEIGHBOUR: 'it returns false'. Refute it at one input. -/
def snapTurnsWrong : ChangeSpec := { name := "snapTurns", fn := fun _ => fun
  | [d1, d2] => { results := [.lit (.bool false)], args := [d1, d2] }
  | _ => none }
def SnapTurnsWrongFalsely : Prop := snapTurnsRow.holds Tryz.pinned (OpenSpec.ofChange snapTurnsWrong)

/-- 'qanatlaw28.SnapPlays': WHATEVER THE INPUT: true; the input reads as it did. -/
def snapPlaysSpec : ChangeSpec := { name := "snapPlays", fn := fun _ => fun
  | [d1, d2] => { results := [.lit (.bool true)], args := [d1, d2] }
  | _ => none }
def snapPlaysRow : OpenClaim := { program := "ytfenmffiidchcaagreat", sum := "7a2b99cbb468667bd5c3265969e8c502d4835a8cc56583030321ba478b939ec0", func := "qanat/qanatlaw28.SnapPlays", spec := "snapPlays", inPlace := ["slices.overlaps[qanat/api.Row]", "internal/bytealg.IndexByteString", "internal/bytealg.IndexString"], unfollowed := true, recurses := true, named := ["internal/bytealg.MaxLen"], plainKeys := false, apart := false }
def SnapPlaysSaid : Prop := snapPlaysRow.holds Tryz.pinned (OpenSpec.ofChange snapPlaysSpec)

/-- ITS FALSE NEIGHBOUR: 'it returns false'. Refute it at one input. -/
def snapPlaysWrong : ChangeSpec := { name := "snapPlays", fn := fun _ => fun
  | [d1, d2] => { results := [.lit (.bool false)], args := [d1, d2] }
  | _ => none }
def SnapPlaysWrongFalsely : Prop := snapPlaysRow.holds Tryz.pinned (OpenSpec.ofChange snapPlaysWrong)

/-- 'qanatlaw28.SnapWhole': WHATEVER THE INPUT: true; the input reads as it did. -/
def snapWholeSpec : ChangeSpec := { name := "snapWhole", fn := fun _ => fun
  | [d1, d2, d3] => { results := [.lit (.bool true)], args := [d1, d2, d3] }
  | _ => none }
def snapWholeRow : OpenClaim := { program := "ytfenmffiidchcaagreat", sum := "7a2b99cbb468667bd5c3265969e8c502d4835a8cc56583030321ba478b939ec0", func := "qanat/qanatlaw28.SnapWhole", spec := "snapWhole", inPlace := ["slices.overlaps[qanat/api.Row]", "internal/bytealg.IndexByteString", "internal/bytealg.IndexString"], unfollowed := true, recurses := true, named := ["internal/bytealg.MaxLen"], plainKeys := false, apart := false }
def SnapWholeSaid : Prop := snapWholeRow.holds Tryz.pinned (OpenSpec.ofChange snapWholeSpec)

/-- ITS FALSE NEIGHBOUR: 'it returns false'. Refute it at one input. -/
def snapWholeWrong : ChangeSpec := { name := "snapWhole", fn := fun _ => fun
  | [d1, d2, d3] => { results := [.lit (.bool false)], args := [d1, d2, d3] }
  | _ => none }
def SnapWholeWrongFalsely : Prop := snapWholeRow.holds Tryz.pinned (OpenSpec.ofChange snapWholeWrong)

/- THE SECOND FORM. 'bulk': how many values and letters a reading holds, each counted each time it is reached (what is shared counts as often as it is met; a slice's spare places count too). A statement '..UptoSaid' is the law's where the arguments, and the package variables that the reading takes, are together of bulk at most 1048576: NARROWER than '..Said'. Prove '..Said' where nothing that the law and all that it calls make is longer than what came in: it says more and counts as full. Else prove '..UptoSaid'. A law counts once. -/
mutual
def uptoBulk {H : Type} : DataW H → Nat
  | .lit (.string bytes) => bytes.length + 1
  | .lit _ => 1
  | .nil => 1
  | .ptr d => uptoBulk d + 1
  | .slice elems spare => uptoBulkAll elems + uptoBulkAll spare + 1
  | .agg parts => uptoBulkAll parts + 1
  | .iface _ d => uptoBulk d + 1
  | .map entries => uptoBulkEntries entries + 1
  | .held _ => 1
def uptoBulkAll {H : Type} : List (DataW H) → Nat
  | [] => 0
  | d :: r => uptoBulk d + uptoBulkAll r
def uptoBulkEntries {H : Type} : List (Lit × DataW H) → Nat
  | [] => 0
  | x :: r => uptoBulkEntry x + uptoBulkEntries r
def uptoBulkEntry {H : Type} : Lit × DataW H → Nat
  | (.string bytes, d) => bytes.length + uptoBulk d + 1
  | (_, d) => uptoBulk d + 1
 end
def uptoSmall : (H : Type) → List (DataW H) → Bool := fun _ ds => decide (uptoBulkAll ds ≤ 1048576)
def OpenSpec.upto (s : _root_.Go.ChangeSpec) : _root_.Go.OpenSpec := { _root_.Go.OpenSpec.ofChange s with cond := some uptoSmall }

/-- 'qanatlaw12.SourceKeeps', WHERE WHAT IT READS IS OF BULK AT MOST 1048576: true; the input reads as it did. -/
def sourceKeepsUptoRow : OpenClaim := { program := "ytfenmffiidchcaagreat", sum := "7a2b99cbb468667bd5c3265969e8c502d4835a8cc56583030321ba478b939ec0", func := "qanat/qanatlaw12.SourceKeeps", spec := "sourceKeeps", inPlace := ["slices.overlaps[qanat/api.Row]"], unfollowed := true, recurses := true, plainKeys := false, apart := false, narrowed := true }
def SourceKeepsUptoSaid : Prop := sourceKeepsUptoRow.holds Tryz.pinned (OpenSpec.upto sourceKeepsSpec)

/-- 'qanatlaw12.SourceChunks', WHERE WHAT IT READS IS OF BULK AT MOST 1048576: true; the input reads as it did. -/
def sourceChunksUptoRow : OpenClaim := { program := "ytfenmffiidchcaagreat", sum := "7a2b99cbb468667bd5c3265969e8c502d4835a8cc56583030321ba478b939ec0", func := "qanat/qanatlaw12.SourceChunks", spec := "sourceChunks", inPlace := ["slices.overlaps[qanat/api.Row]"], unfollowed := true, recurses := true, plainKeys := false, apart := false, narrowed := true }
def SourceChunksUptoSaid : Prop := sourceChunksUptoRow.holds Tryz.pinned (OpenSpec.upto sourceChunksSpec)

/-- 'qanatlaw12.SourceImages', WHERE WHAT IT READS IS OF BULK AT MOST 1048576: true; the input reads as it did. -/
def sourceImagesUptoRow : OpenClaim := { program := "ytfenmffiidchcaagreat", sum := "7a2b99cbb468667bd5c3265969e8c502d4835a8cc56583030321ba478b939ec0", func := "qanat/qanatlaw12.SourceImages", spec := "sourceImages", inPlace := ["slices.overlaps[qanat/api.Row]"], unfollowed := true, recurses := true, plainKeys := false, apart := false, narrowed := true }
def SourceImagesUptoSaid : Prop := sourceImagesUptoRow.holds Tryz.pinned (OpenSpec.upto sourceImagesSpec)

/-- 'qanatlaw12.SourceFolds', WHERE WHAT IT READS IS OF BULK AT MOST 1048576: true; the input reads as it did. -/
def sourceFoldsUptoRow : OpenClaim := { program := "ytfenmffiidchcaagreat", sum := "7a2b99cbb468667bd5c3265969e8c502d4835a8cc56583030321ba478b939ec0", func := "qanat/qanatlaw12.SourceFolds", spec := "sourceFolds", inPlace := ["slices.overlaps[qanat/api.Row]"], unfollowed := true, recurses := true, plainKeys := false, apart := false, narrowed := true }
def SourceFoldsUptoSaid : Prop := sourceFoldsUptoRow.holds Tryz.pinned (OpenSpec.upto sourceFoldsSpec)

/-- 'qanatlaw28.SnapNews', WHERE WHAT IT READS IS OF BULK AT MOST 1048576: true; the input reads as it did. -/
def snapNewsUptoRow : OpenClaim := { program := "ytfenmffiidchcaagreat", sum := "7a2b99cbb468667bd5c3265969e8c502d4835a8cc56583030321ba478b939ec0", func := "qanat/qanatlaw28.SnapNews", spec := "snapNews", inPlace := ["slices.overlaps[qanat/api.Row]", "internal/bytealg.IndexByteString", "internal/bytealg.IndexString"], unfollowed := true, recurses := true, named := ["internal/bytealg.MaxLen"], plainKeys := false, apart := false, narrowed := true }
def SnapNewsUptoSaid : Prop := snapNewsUptoRow.holds Tryz.pinned (OpenSpec.upto snapNewsSpec)

/-- 'qanatlaw28.SnapTurns', WHERE WHAT IT READS IS OF BULK AT MOST 1048576: true; the input reads as it did. -/
def snapTurnsUptoRow : OpenClaim := { program := "ytfenmffiidchcaagreat", sum := "7a2b99cbb468667bd5c3265969e8c502d4835a8cc56583030321ba478b939ec0", func := "qanat/qanatlaw28.SnapTurns", spec := "snapTurns", inPlace := ["slices.overlaps[qanat/api.Row]", "internal/bytealg.IndexByteString", "internal/bytealg.IndexString"], unfollowed := true, recurses := true, named := ["internal/bytealg.MaxLen"], plainKeys := false, apart := false, narrowed := true }
def SnapTurnsUptoSaid : Prop := snapTurnsUptoRow.holds Tryz.pinned (OpenSpec.upto snapTurnsSpec)

/-- 'qanatlaw28.SnapPlays', WHERE WHAT IT READS IS OF BULK AT MOST 1048576: true; the input reads as it did. -/
def snapPlaysUptoRow : OpenClaim := { program := "ytfenmffiidchcaagreat", sum := "7a2b99cbb468667bd5c3265969e8c502d4835a8cc56583030321ba478b939ec0", func := "qanat/qanatlaw28.SnapPlays", spec := "snapPlays", inPlace := ["slices.overlaps[qanat/api.Row]", "internal/bytealg.IndexByteString", "internal/bytealg.IndexString"], unfollowed := true, recurses := true, named := ["internal/bytealg.MaxLen"], plainKeys := false, apart := false, narrowed := true }
def SnapPlaysUptoSaid : Prop := snapPlaysUptoRow.holds Tryz.pinned (OpenSpec.upto snapPlaysSpec)

/-- 'qanatlaw28.SnapWhole', WHERE WHAT IT READS IS OF BULK AT MOST 1048576: true; the input reads as it did. -/
def snapWholeUptoRow : OpenClaim := { program := "ytfenmffiidchcaagreat", sum := "7a2b99cbb468667bd5c3265969e8c502d4835a8cc56583030321ba478b939ec0", func := "qanat/qanatlaw28.SnapWhole", spec := "snapWhole", inPlace := ["slices.overlaps[qanat/api.Row]", "internal/bytealg.IndexByteString", "internal/bytealg.IndexString"], unfollowed := true, recurses := true, named := ["internal/bytealg.MaxLen"], plainKeys := false, apart := false, narrowed := true }
def SnapWholeUptoSaid : Prop := snapWholeUptoRow.holds Tryz.pinned (OpenSpec.upto snapWholeSpec)

end Rows
end Go.Proofs.YtfenmffiidchcaaGreat
