/-
  No cell of these rows narrows 'for every input' (looked for: loops, veiled, ifaces, maps, wideKeys, modest, calm, conditions, laid).
  DERIVED. THE GIVEN ROWS OF THIS SEAT. 9 by the template 'for every input the law returns true; each argument reads behind the call as it read before'; 0 by the template 'total and deterministic' (their statements: YtnmhmnnadkclbaaGreatTotals.lean).
  GIVEN WITH THE SEED: the statements are not yours to turn. If you find one false, say at which input.
  Laid BY PROGRAM, IN A SANDBOX (cutbox-rows.mjs): the forced cells as the released guide's own fill.sh prints them over the translation bc9bcd2a1d558101… (all of the seat's roots in one cut). By AI agents, Wed Nov 11 2026. No macro, syntax, notation, axiom, sorry.
-/
import Derived.Test.YtnmhmnnadkclbaaGreatChecked
import GoSem.Claim
import GoSem.ClaimJoined
import GoSem.ClaimMapViews
import Derived.JoinedTies
import Derived.KernelRfl
namespace Go.Proofs.YtnmhmnnadkclbaaGreat
/- THE CELL 'sum', in the pinned program and in every row, IS THE sha256 OF THE DUMP (.gsa) THAT YtnmhmnnadkclbaaGreatProg.lean LOADS. Nothing in Lean hashes anything: it is a label: what it is worth is what the hold of that sum in a sandbox is worth. -/
noncomputable def Tryz.pinned : Pinned := { name := "ytnmhmnnadkclbaagreat", sum := "bc9bcd2a1d558101b5de0550c6ba1e4e1f06d8d14f41e57739b9720dd0621b23", checked := Tryz.checked }
namespace Rows
def none {H : Type} : Left H := { results := [], args := [] }

/-- 'qanatlaw18.SinkOpens': WHATEVER THE INPUT: true; the input reads as it did. -/
def sinkOpensSpec : ChangeSpec := { name := "sinkOpens", fn := fun _ => fun
  | [d1, d2] => { results := [.lit (.bool true)], args := [d1, d2] }
  | _ => none }
def sinkOpensRow : OpenClaim := { program := "ytnmhmnnadkclbaagreat", sum := "bc9bcd2a1d558101b5de0550c6ba1e4e1f06d8d14f41e57739b9720dd0621b23", func := "qanat/qanatlaw18.SinkOpens", spec := "sinkOpens", unfollowed := true, recurses := true, apart := false }
def SinkOpensSaid : Prop := sinkOpensRow.holds Tryz.pinned (OpenSpec.ofChange sinkOpensSpec)

/-- ITS FALSE NEIGHBOUR: 'it returns false'. Refute it at one input. -/
def sinkOpensWrong : ChangeSpec := { name := "sinkOpens", fn := fun _ => fun
  | [d1, d2] => { results := [.lit (.bool false)], args := [d1, d2] }
  | _ => none }
def SinkOpensWrongFalsely : Prop := sinkOpensRow.holds Tryz.pinned (OpenSpec.ofChange sinkOpensWrong)

/-- 'qanatlaw18.SinkWhole': WHATEVER THE INPUT: true; the input reads as it did. -/
def sinkWholeSpec : ChangeSpec := { name := "sinkWhole", fn := fun _ => fun
  | [d1, d2, d3, d4] => { results := [.lit (.bool true)], args := [d1, d2, d3, d4] }
  | _ => none }
def sinkWholeRow : OpenClaim := { program := "ytnmhmnnadkclbaagreat", sum := "bc9bcd2a1d558101b5de0550c6ba1e4e1f06d8d14f41e57739b9720dd0621b23", func := "qanat/qanatlaw18.SinkWhole", spec := "sinkWhole", unfollowed := true, recurses := true, apart := false }
def SinkWholeSaid : Prop := sinkWholeRow.holds Tryz.pinned (OpenSpec.ofChange sinkWholeSpec)

/-- ITS FALSE NEIGHBOUR: 'it returns false'. Refute it at one input. -/
def sinkWholeWrong : ChangeSpec := { name := "sinkWhole", fn := fun _ => fun
  | [d1, d2, d3, d4] => { results := [.lit (.bool false)], args := [d1, d2, d3, d4] }
  | _ => none }
def SinkWholeWrongFalsely : Prop := sinkWholeRow.holds Tryz.pinned (OpenSpec.ofChange sinkWholeWrong)

/-- 'qanatlaw18.SinkFaults': WHATEVER THE INPUT: true; the input reads as it did. -/
def sinkFaultsSpec : ChangeSpec := { name := "sinkFaults", fn := fun _ => fun
  | [d] => { results := [.lit (.bool true)], args := [d] }
  | _ => none }
def sinkFaultsRow : OpenClaim := { program := "ytnmhmnnadkclbaagreat", sum := "bc9bcd2a1d558101b5de0550c6ba1e4e1f06d8d14f41e57739b9720dd0621b23", func := "qanat/qanatlaw18.SinkFaults", spec := "sinkFaults", unfollowed := true, recurses := true, apart := false }
def SinkFaultsSaid : Prop := sinkFaultsRow.holds Tryz.pinned (OpenSpec.ofChange sinkFaultsSpec)

/-- ITS FALSE NEIGHBOUR: 'it returns false'. Refute it at one input. -/
def sinkFaultsWrong : ChangeSpec := { name := "sinkFaults", fn := fun _ => fun
  | [d] => { results := [.lit (.bool false)], args := [d] }
  | _ => none }
def SinkFaultsWrongFalsely : Prop := sinkFaultsRow.holds Tryz.pinned (OpenSpec.ofChange sinkFaultsWrong)

/-- 'qanatlaw18.SinkRefuses': WHATEVER THE INPUT: true; the input reads as it did. -/
def sinkRefusesSpec : ChangeSpec := { name := "sinkRefuses", fn := fun _ => fun
  | [d1, d2, d3] => { results := [.lit (.bool true)], args := [d1, d2, d3] }
  | _ => none }
def sinkRefusesRow : OpenClaim := { program := "ytnmhmnnadkclbaagreat", sum := "bc9bcd2a1d558101b5de0550c6ba1e4e1f06d8d14f41e57739b9720dd0621b23", func := "qanat/qanatlaw18.SinkRefuses", spec := "sinkRefuses", unfollowed := true, recurses := true, apart := false }
def SinkRefusesSaid : Prop := sinkRefusesRow.holds Tryz.pinned (OpenSpec.ofChange sinkRefusesSpec)

/-- ITS FALSE NEIGHBOUR: 'it returns false'. Refute it at one input. -/
def sinkRefusesWrong : ChangeSpec := { name := "sinkRefuses", fn := fun _ => fun
  | [d1, d2, d3] => { results := [.lit (.bool false)], args := [d1, d2, d3] }
  | _ => none }
def SinkRefusesWrongFalsely : Prop := sinkRefusesRow.holds Tryz.pinned (OpenSpec.ofChange sinkRefusesWrong)

/-- 'qanatlaw18.SinkPlays': WHATEVER THE INPUT: true; the input reads as it did. -/
def sinkPlaysSpec : ChangeSpec := { name := "sinkPlays", fn := fun _ => fun
  | [d1, d2] => { results := [.lit (.bool true)], args := [d1, d2] }
  | _ => none }
def sinkPlaysRow : OpenClaim := { program := "ytnmhmnnadkclbaagreat", sum := "bc9bcd2a1d558101b5de0550c6ba1e4e1f06d8d14f41e57739b9720dd0621b23", func := "qanat/qanatlaw18.SinkPlays", spec := "sinkPlays", unfollowed := true, recurses := true, apart := false }
def SinkPlaysSaid : Prop := sinkPlaysRow.holds Tryz.pinned (OpenSpec.ofChange sinkPlaysSpec)

/-- ITS FALSE NEIGHBOUR: 'it returns false'. Refute it at one input. -/
def sinkPlaysWrong : ChangeSpec := { name := "sinkPlays", fn := fun _ => fun
  | [d1, d2] => { results := [.lit (.bool false)], args := [d1, d2] }
  | _ => none }
def SinkPlaysWrongFalsely : Prop := sinkPlaysRow.holds Tryz.pinned (OpenSpec.ofChange sinkPlaysWrong)

/-- 'qanatlaw29.WriterNews': WHATEVER THE INPUT: true; the input reads as it did. -/
def writerNewsSpec : ChangeSpec := { name := "writerNews", fn := fun _ => fun
  | [d1, d2] => { results := [.lit (.bool true)], args := [d1, d2] }
  | _ => none }
def writerNewsRow : OpenClaim := { program := "ytnmhmnnadkclbaagreat", sum := "bc9bcd2a1d558101b5de0550c6ba1e4e1f06d8d14f41e57739b9720dd0621b23", func := "qanat/qanatlaw29.WriterNews", spec := "writerNews", unfollowed := true, recurses := true, apart := false }
def WriterNewsSaid : Prop := writerNewsRow.holds Tryz.pinned (OpenSpec.ofChange writerNewsSpec)

/-- ITS FALSE NEIGHBOUR: 'it returns false'. Refute it at one input. -/
def writerNewsWrong : ChangeSpec := { name := "writerNews", fn := fun _ => fun
  | [d1, d2] => { results := [.lit (.bool false)], args := [d1, d2] }
  | _ => none }
def WriterNewsWrongFalsely : Prop := writerNewsRow.holds Tryz.pinned (OpenSpec.ofChange writerNewsWrong)

/-- 'qanatlaw29.WriterWaits': WHATEVER THE INPUT: true; the input reads as it did. -/
def writerWaitsSpec : ChangeSpec := { name := "writerWaits", fn := fun _ => fun
  | [d1, d2, d3] => { results := [.lit (.bool true)], args := [d1, d2, d3] }
  | _ => none }
def writerWaitsRow : OpenClaim := { program := "ytnmhmnnadkclbaagreat", sum := "bc9bcd2a1d558101b5de0550c6ba1e4e1f06d8d14f41e57739b9720dd0621b23", func := "qanat/qanatlaw29.WriterWaits", spec := "writerWaits", unfollowed := true, recurses := true, apart := false }
def WriterWaitsSaid : Prop := writerWaitsRow.holds Tryz.pinned (OpenSpec.ofChange writerWaitsSpec)

/-- ITS FALSE NEIGHBOUR: 'it returns false'. Refute it at one input. -/
def writerWaitsWrong : ChangeSpec := { name := "writerWaits", fn := fun _ => fun
  | [d1, d2, d3] => { results := [.lit (.bool false)], args := [d1, d2, d3] }
  | _ => none }
def WriterWaitsWrongFalsely : Prop := writerWaitsRow.holds Tryz.pinned (OpenSpec.ofChange writerWaitsWrong)

/-- 'qanatlaw29.WriterAll': WHATEVER THE INPUT: true; the input reads as it did. -/
def writerAllSpec : ChangeSpec := { name := "writerAll", fn := fun _ => fun
  | [d1, d2, d3, d4] => { results := [.lit (.bool true)], args := [d1, d2, d3, d4] }
  | _ => none }
def writerAllRow : OpenClaim := { program := "ytnmhmnnadkclbaagreat", sum := "bc9bcd2a1d558101b5de0550c6ba1e4e1f06d8d14f41e57739b9720dd0621b23", func := "qanat/qanatlaw29.WriterAll", spec := "writerAll", unfollowed := true, recurses := true, apart := false }
def WriterAllSaid : Prop := writerAllRow.holds Tryz.pinned (OpenSpec.ofChange writerAllSpec)

/-- ITS FALSE NEIGHBOUR: 'it returns false'. Refute it at one input. -/
def writerAllWrong : ChangeSpec := { name := "writerAll", fn := fun _ => fun
  | [d1, d2, d3, d4] => { results := [.lit (.bool false)], args := [d1, d2, d3, d4] }
  | _ => none }
def WriterAllWrongFalsely : Prop := writerAllRow.holds Tryz.pinned (OpenSpec.ofChange writerAllWrong)

/-- 'qanatlaw29.WriterPlays': WHATEVER THE INPUT: true; the input reads as it did. -/
def writerPlaysSpec : ChangeSpec := { name := "writerPlays", fn := fun _ => fun
  | [d1, d2] => { results := [.lit (.bool true)], args := [d1, d2] }
  | _ => none }
def writerPlaysRow : OpenClaim := { program := "ytnmhmnnadkclbaagreat", sum := "bc9bcd2a1d558101b5de0550c6ba1e4e1f06d8d14f41e57739b9720dd0621b23", func := "qanat/qanatlaw29.WriterPlays", spec := "writerPlays", unfollowed := true, recurses := true, apart := false }
def WriterPlaysSaid : Prop := writerPlaysRow.holds Tryz.pinned (OpenSpec.ofChange writerPlaysSpec)

/-- ITS FALSE NEIGHBOUR: 'it returns false'. Refute it at one input. -/
def writerPlaysWrong : ChangeSpec := { name := "writerPlays", fn := fun _ => fun
  | [d1, d2] => { results := [.lit (.bool false)], args := [d1, d2] }
  | _ => none }
def WriterPlaysWrongFalsely : Prop := writerPlaysRow.holds Tryz.pinned (OpenSpec.ofChange writerPlaysWrong)

/- THE SECOND FORM. 'bulk': how many values and letters a reading holds, each counted each time it is reached (what is shared counts as often as it is met; a slice's spare places count too). A statement '..UptoSaid' is the law's where the arguments, and the package variables that the reading takes, are together of bulk at most 1048576: NARROWER than '..Said'. Prove '..Said' where nothing that the law and all that it calls make is longer than what came in: it says more and counts as full. Else prove '..UptoSaid'. A law counts once. -/
mutual
def uptoBulk {H : Type} : DataW H → Nat
  | .lit (.string bytes) => bytes.length + 1
  | .lit _ => 1
  | .nil => 1
  | .ptr d => uptoBulk d + 1
  | .slice elems spare => uptoBulkAll elems + uptoBulkAll spare + 1
  | .agg parts => uptoBulkAll parts + 1
  | .iface _ d => uptoBulk d + 1
  | .map entries => uptoBulkEntries entries + 1
  | .held _ => 1
def uptoBulkAll {H : Type} : List (DataW H) → Nat
  | [] => 0
  | d :: r => uptoBulk d + uptoBulkAll r
def uptoBulkEntries {H : Type} : List (Lit × DataW H) → Nat
  | [] => 0
  | x :: r => uptoBulkEntry x + uptoBulkEntries r
def uptoBulkEntry {H : Type} : Lit × DataW H → Nat
  | (.string bytes, d) => bytes.length + uptoBulk d + 1
  | (_, d) => uptoBulk d + 1
 end
def uptoSmall : (H : Type) → List (DataW H) → Bool := fun _ ds => decide (uptoBulkAll ds ≤ 1048576)
def OpenSpec.upto (s : _root_.Go.ChangeSpec) : _root_.Go.OpenSpec := { _root_.Go.OpenSpec.ofChange s with cond := some uptoSmall }

/-- 'qanatlaw18.SinkOpens', WHERE WHAT IT READS IS OF BULK AT MOST 1048576: true; the input reads as it did. -/
def sinkOpensUptoRow : OpenClaim := { program := "ytnmhmnnadkclbaagreat", sum := "bc9bcd2a1d558101b5de0550c6ba1e4e1f06d8d14f41e57739b9720dd0621b23", func := "qanat/qanatlaw18.SinkOpens", spec := "sinkOpens", unfollowed := true, recurses := true, apart := false, narrowed := true }
def SinkOpensUptoSaid : Prop := sinkOpensUptoRow.holds Tryz.pinned (OpenSpec.upto sinkOpensSpec)

/-- 'qanatlaw18.SinkWhole', WHERE WHAT IT READS IS OF BULK AT MOST 1048576: true; the input reads as it did. -/
def sinkWholeUptoRow : OpenClaim := { program := "ytnmhmnnadkclbaagreat", sum := "bc9bcd2a1d558101b5de0550c6ba1e4e1f06d8d14f41e57739b9720dd0621b23", func := "qanat/qanatlaw18.SinkWhole", spec := "sinkWhole", unfollowed := true, recurses := true, apart := false, narrowed := true }
def SinkWholeUptoSaid : Prop := sinkWholeUptoRow.holds Tryz.pinned (OpenSpec.upto sinkWholeSpec)

/-- 'qanatlaw18.SinkFaults', WHERE WHAT IT READS IS OF BULK AT MOST 1048576: true; the input reads as it did. -/
def sinkFaultsUptoRow : OpenClaim := { program := "ytnmhmnnadkclbaagreat", sum := "bc9bcd2a1d558101b5de0550c6ba1e4e1f06d8d14f41e57739b9720dd0621b23", func := "qanat/qanatlaw18.SinkFaults", spec := "sinkFaults", unfollowed := true, recurses := true, apart := false, narrowed := true }
def SinkFaultsUptoSaid : Prop := sinkFaultsUptoRow.holds Tryz.pinned (OpenSpec.upto sinkFaultsSpec)

/-- 'qanatlaw18.SinkRefuses', WHERE WHAT IT READS IS OF BULK AT MOST 1048576: true; the input reads as it did. -/
def sinkRefusesUptoRow : OpenClaim := { program := "ytnmhmnnadkclbaagreat", sum := "bc9bcd2a1d558101b5de0550c6ba1e4e1f06d8d14f41e57739b9720dd0621b23", func := "qanat/qanatlaw18.SinkRefuses", spec := "sinkRefuses", unfollowed := true, recurses := true, apart := false, narrowed := true }
def SinkRefusesUptoSaid : Prop := sinkRefusesUptoRow.holds Tryz.pinned (OpenSpec.upto sinkRefusesSpec)

/-- 'qanatlaw18.SinkPlays', WHERE WHAT IT READS IS OF BULK AT MOST 1048576: true; the input reads as it did. -/
def sinkPlaysUptoRow : OpenClaim := { program := "ytnmhmnnadkclbaagreat", sum := "bc9bcd2a1d558101b5de0550c6ba1e4e1f06d8d14f41e57739b9720dd0621b23", func := "qanat/qanatlaw18.SinkPlays", spec := "sinkPlays", unfollowed := true, recurses := true, apart := false, narrowed := true }
def SinkPlaysUptoSaid : Prop := sinkPlaysUptoRow.holds Tryz.pinned (OpenSpec.upto sinkPlaysSpec)

/-- 'qanatlaw29.WriterNews', WHERE WHAT IT READS IS OF BULK AT MOST 1048576: true; the input reads as it did. -/
def writerNewsUptoRow : OpenClaim := { program := "ytnmhmnnadkclbaagreat", sum := "bc9bcd2a1d558101b5de0550c6ba1e4e1f06d8d14f41e57739b9720dd0621b23", func := "qanat/qanatlaw29.WriterNews", spec := "writerNews", unfollowed := true, recurses := true, apart := false, narrowed := true }
def WriterNewsUptoSaid : Prop := writerNewsUptoRow.holds Tryz.pinned (OpenSpec.upto writerNewsSpec)

/-- 'qanatlaw29.WriterWaits', WHERE WHAT IT READS IS OF BULK AT MOST 1048576: true; the input reads as it did. -/
def writerWaitsUptoRow : OpenClaim := { program := "ytnmhmnnadkclbaagreat", sum := "bc9bcd2a1d558101b5de0550c6ba1e4e1f06d8d14f41e57739b9720dd0621b23", func := "qanat/qanatlaw29.WriterWaits", spec := "writerWaits", unfollowed := true, recurses := true, apart := false, narrowed := true }
def WriterWaitsUptoSaid : Prop := writerWaitsUptoRow.holds Tryz.pinned (OpenSpec.upto writerWaitsSpec)

/-- 'qanatlaw29.WriterAll', WHERE WHAT IT READS IS OF BULK AT MOST 1048576: true; the input reads as it did. -/
def writerAllUptoRow : OpenClaim := { program := "ytnmhmnnadkclbaagreat", sum := "bc9bcd2a1d558101b5de0550c6ba1e4e1f06d8d14f41e57739b9720dd0621b23", func := "qanat/qanatlaw29.WriterAll", spec := "writerAll", unfollowed := true, recurses := true, apart := false, narrowed := true }
def WriterAllUptoSaid : Prop := writerAllUptoRow.holds Tryz.pinned (OpenSpec.upto writerAllSpec)

/-- 'qanatlaw29.WriterPlays', WHERE WHAT IT READS IS OF BULK AT MOST 1048576: true; the input reads as it did. -/
def writerPlaysUptoRow : OpenClaim := { program := "ytnmhmnnadkclbaagreat", sum := "bc9bcd2a1d558101b5de0550c6ba1e4e1f06d8d14f41e57739b9720dd0621b23", func := "qanat/qanatlaw29.WriterPlays", spec := "writerPlays", unfollowed := true, recurses := true, apart := false, narrowed := true }
def WriterPlaysUptoSaid : Prop := writerPlaysUptoRow.holds Tryz.pinned (OpenSpec.upto writerPlaysSpec)

end Rows
end Go.Proofs.YtnmhmnnadkclbaaGreat
