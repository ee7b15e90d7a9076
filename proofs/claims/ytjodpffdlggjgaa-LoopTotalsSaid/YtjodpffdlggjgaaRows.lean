/-
  No cell of these rows narrows 'for every input' (looked for: loops, veiled, ifaces, maps, wideKeys, modest, calm, conditions, laid).
  DERIVED. THE GIVEN ROWS OF THIS SEAT. 8 by the template 'for every input the law returns true; each argument reads behind the call as it read before'; 0 by the template 'total and deterministic' (their statements: YtjodpffdlggjgaaTotals.lean).
  GIVEN WITH THE SEED: the statements are not yours to turn. If you find one false, say at which input.
  Laid BY PROGRAM, IN A SANDBOX (cutbox-rows.mjs): the forced cells as the released guide's own fill.sh prints them over the translation 9748f9cafb34f2c7… (all of the seat's roots in one cut). By AI agents, Wed Nov 11 2026. No macro, syntax, notation, axiom, sorry.
-/
import Derived.Test.YtjodpffdlggjgaaChecked
import GoSem.Claim
import GoSem.ClaimJoined
import GoSem.ClaimMapViews
import Derived.JoinedTies
import Derived.KernelRfl
namespace Go.Proofs.Ytjodpffdlggjgaa
/- THE CELL 'sum', in the pinned program and in every row, IS THE sha256 OF THE DUMP (.gsa) THAT YtjodpffdlggjgaaProg.lean LOADS. Nothing in Lean hashes anything: it is a label: what it is worth is what the hold of that sum in a sandbox is worth. -/
noncomputable def Try.pinned : Pinned := { name := "ytjodpffdlggjgaa", sum := "9748f9cafb34f2c7d5804b26cd67b3e34ea6740302a66584849edb8f2e89c101", checked := Try.checked }
namespace Rows
def none {H : Type} : Left H := { results := [], args := [] }

/-- 'flywheellaw48.AuditRules': WHATEVER THE INPUT: true; the input reads as it did. -/
def auditRulesSpec : ChangeSpec := { name := "auditRules", fn := fun _ => fun
  | [d1, d2, d3] => { results := [.lit (.bool true)], args := [d1, d2, d3] }
  | _ => none }
def auditRulesRow : OpenClaim := { program := "ytjodpffdlggjgaa", sum := "9748f9cafb34f2c7d5804b26cd67b3e34ea6740302a66584849edb8f2e89c101", func := "flywheel/flywheellaw48.AuditRules", spec := "auditRules", inPlace := ["math/bits.Add64"], apart := false }
def AuditRulesSaid : Prop := auditRulesRow.holds Try.pinned (OpenSpec.ofChange auditRulesSpec)

/-- ITS FALSE NEIGHBOUR: 'it returns false'. Refute it at one input. -/
def auditRulesWrong : ChangeSpec := { name := "auditRules", fn := fun _ => fun
  | [d1, d2, d3] => { results := [.lit (.bool false)], args := [d1, d2, d3] }
  | _ => none }
def AuditRulesWrongFalsely : Prop := auditRulesRow.holds Try.pinned (OpenSpec.ofChange auditRulesWrong)

/-- 'flywheellaw08.SeriesPlays': WHATEVER THE INPUT: true; the input reads as it did. -/
def seriesPlaysSpec : ChangeSpec := { name := "seriesPlays", fn := fun _ => fun
  | [d1, d2] => { results := [.lit (.bool true)], args := [d1, d2] }
  | _ => none }
def seriesPlaysRow : OpenClaim := { program := "ytjodpffdlggjgaa", sum := "9748f9cafb34f2c7d5804b26cd67b3e34ea6740302a66584849edb8f2e89c101", func := "flywheel/flywheellaw08.SeriesPlays", spec := "seriesPlays", inPlace := ["slices.overlaps[flywheel/api.Sample]"], unfollowed := true, recurses := true, apart := false }
def SeriesPlaysSaid : Prop := seriesPlaysRow.holds Try.pinned (OpenSpec.ofChange seriesPlaysSpec)

/-- ITS FALSE NEIGHBOUR: 'it returns false'. Refute it at one input. -/
def seriesPlaysWrong : ChangeSpec := { name := "seriesPlays", fn := fun _ => fun
  | [d1, d2] => { results := [.lit (.bool false)], args := [d1, d2] }
  | _ => none }
def SeriesPlaysWrongFalsely : Prop := seriesPlaysRow.holds Try.pinned (OpenSpec.ofChange seriesPlaysWrong)

/-- 'flywheellaw08.SeriesClones': WHATEVER THE INPUT: true; the input reads as it did. -/
def seriesClonesSpec : ChangeSpec := { name := "seriesClones", fn := fun _ => fun
  | [d1, d2, d3] => { results := [.lit (.bool true)], args := [d1, d2, d3] }
  | _ => none }
def seriesClonesRow : OpenClaim := { program := "ytjodpffdlggjgaa", sum := "9748f9cafb34f2c7d5804b26cd67b3e34ea6740302a66584849edb8f2e89c101", func := "flywheel/flywheellaw08.SeriesClones", spec := "seriesClones", inPlace := ["slices.overlaps[flywheel/api.Sample]"], unfollowed := true, recurses := true, apart := false }
def SeriesClonesSaid : Prop := seriesClonesRow.holds Try.pinned (OpenSpec.ofChange seriesClonesSpec)

/-- ITS FALSE NEIGHBOUR: 'it returns false'. Refute it at one input. -/
def seriesClonesWrong : ChangeSpec := { name := "seriesClones", fn := fun _ => fun
  | [d1, d2, d3] => { results := [.lit (.bool false)], args := [d1, d2, d3] }
  | _ => none }
def SeriesClonesWrongFalsely : Prop := seriesClonesRow.holds Try.pinned (OpenSpec.ofChange seriesClonesWrong)

/-- 'flywheellaw48.AuditChecks': WHATEVER THE INPUT: true; the input reads as it did. -/
def auditChecksSpec : ChangeSpec := { name := "auditChecks", fn := fun _ => fun
  | [d1, d2, d3] => { results := [.lit (.bool true)], args := [d1, d2, d3] }
  | _ => none }
def auditChecksRow : OpenClaim := { program := "ytjodpffdlggjgaa", sum := "9748f9cafb34f2c7d5804b26cd67b3e34ea6740302a66584849edb8f2e89c101", func := "flywheel/flywheellaw48.AuditChecks", spec := "auditChecks", inPlace := ["math/bits.Add64"], unfollowed := true, recurses := true, apart := false }
def AuditChecksSaid : Prop := auditChecksRow.holds Try.pinned (OpenSpec.ofChange auditChecksSpec)

/-- ITS FALSE NEIGHBOUR: 'it returns false'. Refute it at one input. -/
def auditChecksWrong : ChangeSpec := { name := "auditChecks", fn := fun _ => fun
  | [d1, d2, d3] => { results := [.lit (.bool false)], args := [d1, d2, d3] }
  | _ => none }
def AuditChecksWrongFalsely : Prop := auditChecksRow.holds Try.pinned (OpenSpec.ofChange auditChecksWrong)

/-- 'flywheellaw16.DecideFollows': WHATEVER THE INPUT: true; the input reads as it did. -/
def decideFollowsSpec : ChangeSpec := { name := "decideFollows", fn := fun _ => fun
  | [d1, d2, d3, d4] => { results := [.lit (.bool true)], args := [d1, d2, d3, d4] }
  | _ => none }
def decideFollowsRow : OpenClaim := { program := "ytjodpffdlggjgaa", sum := "9748f9cafb34f2c7d5804b26cd67b3e34ea6740302a66584849edb8f2e89c101", func := "flywheel/flywheellaw16.DecideFollows", spec := "decideFollows", inPlace := ["math/bits.Add64", "slices.overlaps[flywheel/api.Sample]"], unfollowed := true, recurses := true, apart := false }
def DecideFollowsSaid : Prop := decideFollowsRow.holds Try.pinned (OpenSpec.ofChange decideFollowsSpec)

/-- ITS FALSE NEIGHBOUR: 'it returns false'. Refute it at one input. -/
def decideFollowsWrong : ChangeSpec := { name := "decideFollows", fn := fun _ => fun
  | [d1, d2, d3, d4] => { results := [.lit (.bool false)], args := [d1, d2, d3, d4] }
  | _ => none }
def DecideFollowsWrongFalsely : Prop := decideFollowsRow.holds Try.pinned (OpenSpec.ofChange decideFollowsWrong)

/-- 'flywheellaw48.AuditFine': WHATEVER THE INPUT: true; the input reads as it did. -/
def auditFineSpec : ChangeSpec := { name := "auditFine", fn := fun _ => fun
  | [d1, d2, d3, d4] => { results := [.lit (.bool true)], args := [d1, d2, d3, d4] }
  | _ => none }
def auditFineRow : OpenClaim := { program := "ytjodpffdlggjgaa", sum := "9748f9cafb34f2c7d5804b26cd67b3e34ea6740302a66584849edb8f2e89c101", func := "flywheel/flywheellaw48.AuditFine", spec := "auditFine", inPlace := ["math/bits.Add64", "slices.overlaps[flywheel/api.Sample]"], unfollowed := true, recurses := true, apart := false }
def AuditFineSaid : Prop := auditFineRow.holds Try.pinned (OpenSpec.ofChange auditFineSpec)

/-- ITS FALSE NEIGHBOUR: 'it returns false'. Refute it at one input. -/
def auditFineWrong : ChangeSpec := { name := "auditFine", fn := fun _ => fun
  | [d1, d2, d3, d4] => { results := [.lit (.bool false)], args := [d1, d2, d3, d4] }
  | _ => none }
def AuditFineWrongFalsely : Prop := auditFineRow.holds Try.pinned (OpenSpec.ofChange auditFineWrong)

/-- 'flywheellaw55.LoopKeeps': WHATEVER THE INPUT: true; the input reads as it did. -/
def loopKeepsSpec : ChangeSpec := { name := "loopKeeps", fn := fun _ => fun
  | [d1, d2, d3] => { results := [.lit (.bool true)], args := [d1, d2, d3] }
  | _ => none }
def loopKeepsRow : OpenClaim := { program := "ytjodpffdlggjgaa", sum := "9748f9cafb34f2c7d5804b26cd67b3e34ea6740302a66584849edb8f2e89c101", func := "flywheel/flywheellaw55.LoopKeeps", spec := "loopKeeps", inPlace := ["slices.overlaps[flywheel/api.Sample]", "math/bits.Add64"], unfollowed := true, recurses := true, apart := false }
def LoopKeepsSaid : Prop := loopKeepsRow.holds Try.pinned (OpenSpec.ofChange loopKeepsSpec)

/-- ITS FALSE NEIGHBOUR: 'it returns false'. Refute it at one input. -/
def loopKeepsWrong : ChangeSpec := { name := "loopKeeps", fn := fun _ => fun
  | [d1, d2, d3] => { results := [.lit (.bool false)], args := [d1, d2, d3] }
  | _ => none }
def LoopKeepsWrongFalsely : Prop := loopKeepsRow.holds Try.pinned (OpenSpec.ofChange loopKeepsWrong)

/-- 'flywheellaw55.LoopTotals': WHATEVER THE INPUT: true; the input reads as it did. -/
def loopTotalsSpec : ChangeSpec := { name := "loopTotals", fn := fun _ => fun
  | [d] => { results := [.lit (.bool true)], args := [d] }
  | _ => none }
def loopTotalsRow : OpenClaim := { program := "ytjodpffdlggjgaa", sum := "9748f9cafb34f2c7d5804b26cd67b3e34ea6740302a66584849edb8f2e89c101", func := "flywheel/flywheellaw55.LoopTotals", spec := "loopTotals", inPlace := ["slices.overlaps[flywheel/api.Sample]", "math/bits.Add64"], unfollowed := true, recurses := true, apart := false }
def LoopTotalsSaid : Prop := loopTotalsRow.holds Try.pinned (OpenSpec.ofChange loopTotalsSpec)

/-- ITS FALSE NEIGHBOUR: 'it returns false'. Refute it at one input. -/
def loopTotalsWrong : ChangeSpec := { name := "loopTotals", fn := fun _ => fun
  | [d] => { results := [.lit (.bool false)], args := [d] }
  | _ => none }
def LoopTotalsWrongFalsely : Prop := loopTotalsRow.holds Try.pinned (OpenSpec.ofChange loopTotalsWrong)

/- THE SECOND FORM. 'bulk': how many values and letters a reading holds, each counted each time it is reached (what is shared counts as often as it is met; a slice's spare places count too). A statement '..UptoSaid' is the law's where the arguments, and the package variables that the reading takes, are together of bulk at most 1048576: NARROWER than '..Said'. Prove '..Said' where nothing that the law and all that it calls make is longer than what came in: it says more and counts as full. Else prove '..UptoSaid'. A law counts once. -/
mutual
def uptoBulk {H : Type} : DataW H → Nat
  | .lit (.string bytes) => bytes.length + 1
  | .lit _ => 1
  | .nil => 1
  | .ptr d => uptoBulk d + 1
  | .slice elems spare => uptoBulkAll elems + uptoBulkAll spare + 1
  | .agg parts => uptoBulkAll parts + 1
  | .iface _ d => uptoBulk d + 1
  | .map entries => uptoBulkEntries entries + 1
  | .held _ => 1
def uptoBulkAll {H : Type} : List (DataW H) → Nat
  | [] => 0
  | d :: r => uptoBulk d + uptoBulkAll r
def uptoBulkEntries {H : Type} : List (Lit × DataW H) → Nat
  | [] => 0
  | x :: r => uptoBulkEntry x + uptoBulkEntries r
def uptoBulkEntry {H : Type} : Lit × DataW H → Nat
  | (.string bytes, d) => bytes.length + uptoBulk d + 1
  | (_, d) => uptoBulk d + 1
 end
def uptoSmall : (H : Type) → List (DataW H) → Bool := fun _ ds => decide (uptoBulkAll ds ≤ 1048576)
def OpenSpec.upto (s : _root_.Go.ChangeSpec) : _root_.Go.OpenSpec := { _root_.Go.OpenSpec.ofChange s with cond := some uptoSmall }

/-- 'flywheellaw48.AuditRules', WHERE WHAT IT READS IS OF BULK AT MOST 1048576: true; the input reads as it did. -/
def auditRulesUptoRow : OpenClaim := { program := "ytjodpffdlggjgaa", sum := "9748f9cafb34f2c7d5804b26cd67b3e34ea6740302a66584849edb8f2e89c101", func := "flywheel/flywheellaw48.AuditRules", spec := "auditRules", inPlace := ["math/bits.Add64"], apart := false, narrowed := true }
def AuditRulesUptoSaid : Prop := auditRulesUptoRow.holds Try.pinned (OpenSpec.upto auditRulesSpec)

/-- 'flywheellaw08.SeriesPlays', WHERE WHAT IT READS IS OF BULK AT MOST 1048576: true; the input reads as it did. -/
def seriesPlaysUptoRow : OpenClaim := { program := "ytjodpffdlggjgaa", sum := "9748f9cafb34f2c7d5804b26cd67b3e34ea6740302a66584849edb8f2e89c101", func := "flywheel/flywheellaw08.SeriesPlays", spec := "seriesPlays", inPlace := ["slices.overlaps[flywheel/api.Sample]"], unfollowed := true, recurses := true, apart := false, narrowed := true }
def SeriesPlaysUptoSaid : Prop := seriesPlaysUptoRow.holds Try.pinned (OpenSpec.upto seriesPlaysSpec)

/-- 'flywheellaw08.SeriesClones', WHERE WHAT IT READS IS OF BULK AT MOST 1048576: true; the input reads as it did. -/
def seriesClonesUptoRow : OpenClaim := { program := "ytjodpffdlggjgaa", sum := "9748f9cafb34f2c7d5804b26cd67b3e34ea6740302a66584849edb8f2e89c101", func := "flywheel/flywheellaw08.SeriesClones", spec := "seriesClones", inPlace := ["slices.overlaps[flywheel/api.Sample]"], unfollowed := true, recurses := true, apart := false, narrowed := true }
def SeriesClonesUptoSaid : Prop := seriesClonesUptoRow.holds Try.pinned (OpenSpec.upto seriesClonesSpec)

/-- 'flywheellaw48.AuditChecks', WHERE WHAT IT READS IS OF BULK AT MOST 1048576: true; the input reads as it did. -/
def auditChecksUptoRow : OpenClaim := { program := "ytjodpffdlggjgaa", sum := "9748f9cafb34f2c7d5804b26cd67b3e34ea6740302a66584849edb8f2e89c101", func := "flywheel/flywheellaw48.AuditChecks", spec := "auditChecks", inPlace := ["math/bits.Add64"], unfollowed := true, recurses := true, apart := false, narrowed := true }
def AuditChecksUptoSaid : Prop := auditChecksUptoRow.holds Try.pinned (OpenSpec.upto auditChecksSpec)

/-- 'flywheellaw16.DecideFollows', WHERE WHAT IT READS IS OF BULK AT MOST 1048576: true; the input reads as it did. -/
def decideFollowsUptoRow : OpenClaim := { program := "ytjodpffdlggjgaa", sum := "9748f9cafb34f2c7d5804b26cd67b3e34ea6740302a66584849edb8f2e89c101", func := "flywheel/flywheellaw16.DecideFollows", spec := "decideFollows", inPlace := ["math/bits.Add64", "slices.overlaps[flywheel/api.Sample]"], unfollowed := true, recurses := true, apart := false, narrowed := true }
def DecideFollowsUptoSaid : Prop := decideFollowsUptoRow.holds Try.pinned (OpenSpec.upto decideFollowsSpec)

/-- 'flywheellaw48.AuditFine', WHERE WHAT IT READS IS OF BULK AT MOST 1048576: true; the input reads as it did. -/
def auditFineUptoRow : OpenClaim := { program := "ytjodpffdlggjgaa", sum := "9748f9cafb34f2c7d5804b26cd67b3e34ea6740302a66584849edb8f2e89c101", func := "flywheel/flywheellaw48.AuditFine", spec := "auditFine", inPlace := ["math/bits.Add64", "slices.overlaps[flywheel/api.Sample]"], unfollowed := true, recurses := true, apart := false, narrowed := true }
def AuditFineUptoSaid : Prop := auditFineUptoRow.holds Try.pinned (OpenSpec.upto auditFineSpec)

/-- 'flywheellaw55.LoopKeeps', WHERE WHAT IT READS IS OF BULK AT MOST 1048576: true; the input reads as it did. -/
def loopKeepsUptoRow : OpenClaim := { program := "ytjodpffdlggjgaa", sum := "9748f9cafb34f2c7d5804b26cd67b3e34ea6740302a66584849edb8f2e89c101", func := "flywheel/flywheellaw55.LoopKeeps", spec := "loopKeeps", inPlace := ["slices.overlaps[flywheel/api.Sample]", "math/bits.Add64"], unfollowed := true, recurses := true, apart := false, narrowed := true }
def LoopKeepsUptoSaid : Prop := loopKeepsUptoRow.holds Try.pinned (OpenSpec.upto loopKeepsSpec)

/-- 'flywheellaw55.LoopTotals', WHERE WHAT IT READS IS OF BULK AT MOST 1048576: true; the input reads as it did. -/
def loopTotalsUptoRow : OpenClaim := { program := "ytjodpffdlggjgaa", sum := "9748f9cafb34f2c7d5804b26cd67b3e34ea6740302a66584849edb8f2e89c101", func := "flywheel/flywheellaw55.LoopTotals", spec := "loopTotals", inPlace := ["slices.overlaps[flywheel/api.Sample]", "math/bits.Add64"], unfollowed := true, recurses := true, apart := false, narrowed := true }
def LoopTotalsUptoSaid : Prop := loopTotalsUptoRow.holds Try.pinned (OpenSpec.upto loopTotalsSpec)

end Rows
end Go.Proofs.Ytjodpffdlggjgaa
