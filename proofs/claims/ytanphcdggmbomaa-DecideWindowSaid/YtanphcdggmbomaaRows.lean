/-
  No cell of these rows narrows 'for every input' (looked for: loops, veiled, ifaces, maps, wideKeys, modest, calm, conditions, laid).
  DERIVED. THE GIVEN ROWS OF THIS SEAT. 7 by the template 'for every input the law returns true; each argument reads behind the call as it read before'; 0 by the template 'total and deterministic' (their statements: YtanphcdggmbomaaTotals.lean).
  GIVEN WITH THE SEED: the statements are not yours to turn. If you find one false, say at which input.
  Laid BY PROGRAM, IN A SANDBOX (cutbox-rows.mjs): the forced cells as the released guide's own fill.sh prints them over the translation e5434ed5d7b77df5… (all of the seat's roots in one cut). By AI agents, Wed Nov 11 2026. No macro, syntax, notation, axiom, sorry.
-/
import Derived.Test.YtanphcdggmbomaaChecked
import GoSem.Claim
import GoSem.ClaimJoined
import GoSem.ClaimMapViews
import Derived.JoinedTies
import Derived.KernelRfl
namespace Go.Proofs.Ytanphcdggmbomaa
/- THE CELL 'sum', in the pinned program and in every row, IS THE sha256 OF THE DUMP (.gsa) THAT YtanphcdggmbomaaProg.lean LOADS. Nothing in Lean hashes anything: it is a label: what it is worth is what the hold of that sum in a sandbox is worth. -/
noncomputable def Try.pinned : Pinned := { name := "ytanphcdggmbomaa", sum := "e5434ed5d7b77df5eba2d950535aaa5d3c45d58d9f71de446ba279dc9e1bb8e8", checked := Try.checked }
namespace Rows
def none {H : Type} : Left H := { results := [], args := [] }

/-- 'flywheellaw16.DecideTells': WHATEVER THE INPUT: true; the input reads as it did. -/
def decideTellsSpec : ChangeSpec := { name := "decideTells", fn := fun _ => fun
  | [d1, d2, d3] => { results := [.lit (.bool true)], args := [d1, d2, d3] }
  | _ => none }
def decideTellsRow : OpenClaim := { program := "ytanphcdggmbomaa", sum := "e5434ed5d7b77df5eba2d950535aaa5d3c45d58d9f71de446ba279dc9e1bb8e8", func := "flywheel/flywheellaw16.DecideTells", spec := "decideTells", inPlace := ["math/bits.Add64"], apart := false }
def DecideTellsSaid : Prop := decideTellsRow.holds Try.pinned (OpenSpec.ofChange decideTellsSpec)

/-- ITS FALSE NEIGHBOUR: 'it returns false'. Refute it at one input. -/
def decideTellsWrong : ChangeSpec := { name := "decideTells", fn := fun _ => fun
  | [d1, d2, d3] => { results := [.lit (.bool false)], args := [d1, d2, d3] }
  | _ => none }
def DecideTellsWrongFalsely : Prop := decideTellsRow.holds Try.pinned (OpenSpec.ofChange decideTellsWrong)

/-- 'flywheellaw16.DecideWindow': WHATEVER THE INPUT: true; the input reads as it did. -/
def decideWindowSpec : ChangeSpec := { name := "decideWindow", fn := fun _ => fun
  | [d1, d2, d3] => { results := [.lit (.bool true)], args := [d1, d2, d3] }
  | _ => none }
def decideWindowRow : OpenClaim := { program := "ytanphcdggmbomaa", sum := "e5434ed5d7b77df5eba2d950535aaa5d3c45d58d9f71de446ba279dc9e1bb8e8", func := "flywheel/flywheellaw16.DecideWindow", spec := "decideWindow", inPlace := ["math/bits.Add64"], apart := false }
def DecideWindowSaid : Prop := decideWindowRow.holds Try.pinned (OpenSpec.ofChange decideWindowSpec)

/-- ITS FALSE NEIGHBOUR: 'it returns false'. Refute it at one input. -/
def decideWindowWrong : ChangeSpec := { name := "decideWindow", fn := fun _ => fun
  | [d1, d2, d3] => { results := [.lit (.bool false)], args := [d1, d2, d3] }
  | _ => none }
def DecideWindowWrongFalsely : Prop := decideWindowRow.holds Try.pinned (OpenSpec.ofChange decideWindowWrong)

/-- 'flywheellaw16.DecideFalls': WHATEVER THE INPUT: true; the input reads as it did. -/
def decideFallsSpec : ChangeSpec := { name := "decideFalls", fn := fun _ => fun
  | [d1, d2, d3] => { results := [.lit (.bool true)], args := [d1, d2, d3] }
  | _ => none }
def decideFallsRow : OpenClaim := { program := "ytanphcdggmbomaa", sum := "e5434ed5d7b77df5eba2d950535aaa5d3c45d58d9f71de446ba279dc9e1bb8e8", func := "flywheel/flywheellaw16.DecideFalls", spec := "decideFalls", inPlace := ["math/bits.Add64"], apart := false }
def DecideFallsSaid : Prop := decideFallsRow.holds Try.pinned (OpenSpec.ofChange decideFallsSpec)

/-- ITS FALSE NEIGHBOUR: 'it returns false'. Refute it at one input. -/
def decideFallsWrong : ChangeSpec := { name := "decideFalls", fn := fun _ => fun
  | [d1, d2, d3] => { results := [.lit (.bool false)], args := [d1, d2, d3] }
  | _ => none }
def DecideFallsWrongFalsely : Prop := decideFallsRow.holds Try.pinned (OpenSpec.ofChange decideFallsWrong)

/-- 'flywheellaw16.DecideFollows': WHATEVER THE INPUT: true; the input reads as it did. -/
def decideFollowsSpec : ChangeSpec := { name := "decideFollows", fn := fun _ => fun
  | [d1, d2, d3, d4] => { results := [.lit (.bool true)], args := [d1, d2, d3, d4] }
  | _ => none }
def decideFollowsRow : OpenClaim := { program := "ytanphcdggmbomaa", sum := "e5434ed5d7b77df5eba2d950535aaa5d3c45d58d9f71de446ba279dc9e1bb8e8", func := "flywheel/flywheellaw16.DecideFollows", spec := "decideFollows", inPlace := ["math/bits.Add64", "slices.overlaps[flywheel/api.Sample]"], unfollowed := true, recurses := true, apart := false }
def DecideFollowsSaid : Prop := decideFollowsRow.holds Try.pinned (OpenSpec.ofChange decideFollowsSpec)

/-- ITS FALSE NEIGHBOUR: 'it returns false'. Refute it at one input. -/
def decideFollowsWrong : ChangeSpec := { name := "decideFollows", fn := fun _ => fun
  | [d1, d2, d3, d4] => { results := [.lit (.bool false)], args := [d1, d2, d3, d4] }
  | _ => none }
def DecideFollowsWrongFalsely : Prop := decideFollowsRow.holds Try.pinned (OpenSpec.ofChange decideFollowsWrong)

/-- 'flywheellaw48.AuditFine': WHATEVER THE INPUT: true; the input reads as it did. -/
def auditFineSpec : ChangeSpec := { name := "auditFine", fn := fun _ => fun
  | [d1, d2, d3, d4] => { results := [.lit (.bool true)], args := [d1, d2, d3, d4] }
  | _ => none }
def auditFineRow : OpenClaim := { program := "ytanphcdggmbomaa", sum := "e5434ed5d7b77df5eba2d950535aaa5d3c45d58d9f71de446ba279dc9e1bb8e8", func := "flywheel/flywheellaw48.AuditFine", spec := "auditFine", inPlace := ["math/bits.Add64", "slices.overlaps[flywheel/api.Sample]"], unfollowed := true, recurses := true, apart := false }
def AuditFineSaid : Prop := auditFineRow.holds Try.pinned (OpenSpec.ofChange auditFineSpec)

/-- ITS FALSE NEIGHBOUR: 'it returns false'. Refute it at one input. -/
def auditFineWrong : ChangeSpec := { name := "auditFine", fn := fun _ => fun
  | [d1, d2, d3, d4] => { results := [.lit (.bool false)], args := [d1, d2, d3, d4] }
  | _ => none }
def AuditFineWrongFalsely : Prop := auditFineRow.holds Try.pinned (OpenSpec.ofChange auditFineWrong)

/-- 'flywheellaw55.LoopKeeps': WHATEVER THE INPUT: true; the input reads as it did. -/
def loopKeepsSpec : ChangeSpec := { name := "loopKeeps", fn := fun _ => fun
  | [d1, d2, d3] => { results := [.lit (.bool true)], args := [d1, d2, d3] }
  | _ => none }
def loopKeepsRow : OpenClaim := { program := "ytanphcdggmbomaa", sum := "e5434ed5d7b77df5eba2d950535aaa5d3c45d58d9f71de446ba279dc9e1bb8e8", func := "flywheel/flywheellaw55.LoopKeeps", spec := "loopKeeps", inPlace := ["slices.overlaps[flywheel/api.Sample]", "math/bits.Add64"], unfollowed := true, recurses := true, apart := false }
def LoopKeepsSaid : Prop := loopKeepsRow.holds Try.pinned (OpenSpec.ofChange loopKeepsSpec)

/-- ITS FALSE NEIGHBOUR: 'it returns false'. Refute it at one input. -/
def loopKeepsWrong : ChangeSpec := { name := "loopKeeps", fn := fun _ => fun
  | [d1, d2, d3] => { results := [.lit (.bool false)], args := [d1, d2, d3] }
  | _ => none }
def LoopKeepsWrongFalsely : Prop := loopKeepsRow.holds Try.pinned (OpenSpec.ofChange loopKeepsWrong)

/-- 'flywheellaw55.LoopTotals': WHATEVER THE INPUT: true; the input reads as it did. -/
def loopTotalsSpec : ChangeSpec := { name := "loopTotals", fn := fun _ => fun
  | [d] => { results := [.lit (.bool true)], args := [d] }
  | _ => none }
def loopTotalsRow : OpenClaim := { program := "ytanphcdggmbomaa", sum := "e5434ed5d7b77df5eba2d950535aaa5d3c45d58d9f71de446ba279dc9e1bb8e8", func := "flywheel/flywheellaw55.LoopTotals", spec := "loopTotals", inPlace := ["slices.overlaps[flywheel/api.Sample]", "math/bits.Add64"], unfollowed := true, recurses := true, apart := false }
def LoopTotalsSaid : Prop := loopTotalsRow.holds Try.pinned (OpenSpec.ofChange loopTotalsSpec)

/-- ITS FALSE NEIGHBOUR: 'it returns false'. Refute it at one input. -/
def loopTotalsWrong : ChangeSpec := { name := "loopTotals", fn := fun _ => fun
  | [d] => { results := [.lit (.bool false)], args := [d] }
  | _ => none }
def LoopTotalsWrongFalsely : Prop := loopTotalsRow.holds Try.pinned (OpenSpec.ofChange loopTotalsWrong)

/- THE SECOND FORM. 'bulk': how many values and letters a reading holds, each counted each time it is reached (what is shared counts as often as it is met; a slice's spare places count too). A statement '..UptoSaid' is the law's where the arguments, and the package variables that the reading takes, are together of bulk at most 1048576: NARROWER than '..Said'. Prove '..Said' where nothing that the law and all that it calls make is longer than what came in: it says more and counts as full. Else prove '..UptoSaid'. A law counts once. -/
mutual
def uptoBulk {H : Type} : DataW H → Nat
  | .lit (.string bytes) => bytes.length + 1
  | .lit _ => 1
  | .nil => 1
  | .ptr d => uptoBulk d + 1
  | .slice elems spare => uptoBulkAll elems + uptoBulkAll spare + 1
  | .agg parts => uptoBulkAll parts + 1
  | .iface _ d => uptoBulk d + 1
  | .map entries => uptoBulkEntries entries + 1
  | .held _ => 1
def uptoBulkAll {H : Type} : List (DataW H) → Nat
  | [] => 0
  | d :: r => uptoBulk d + uptoBulkAll r
def uptoBulkEntries {H : Type} : List (Lit × DataW H) → Nat
  | [] => 0
  | x :: r => uptoBulkEntry x + uptoBulkEntries r
def uptoBulkEntry {H : Type} : Lit × DataW H → Nat
  | (.string bytes, d) => bytes.length + uptoBulk d + 1
  | (_, d) => uptoBulk d + 1
 end
def uptoSmall : (H : Type) → List (DataW H) → Bool := fun _ ds => decide (uptoBulkAll ds ≤ 1048576)
def OpenSpec.upto (s : _root_.Go.ChangeSpec) : _root_.Go.OpenSpec := { _root_.Go.OpenSpec.ofChange s with cond := some uptoSmall }

/-- 'flywheellaw16.DecideTells', WHERE WHAT IT READS IS OF BULK AT MOST 1048576: true; the input reads as it did. -/
def decideTellsUptoRow : OpenClaim := { program := "ytanphcdggmbomaa", sum := "e5434ed5d7b77df5eba2d950535aaa5d3c45d58d9f71de446ba279dc9e1bb8e8", func := "flywheel/flywheellaw16.DecideTells", spec := "decideTells", inPlace := ["math/bits.Add64"], apart := false, narrowed := true }
def DecideTellsUptoSaid : Prop := decideTellsUptoRow.holds Try.pinned (OpenSpec.upto decideTellsSpec)

/-- 'flywheellaw16.DecideWindow', WHERE WHAT IT READS IS OF BULK AT MOST 1048576: true; the input reads as it did. -/
def decideWindowUptoRow : OpenClaim := { program := "ytanphcdggmbomaa", sum := "e5434ed5d7b77df5eba2d950535aaa5d3c45d58d9f71de446ba279dc9e1bb8e8", func := "flywheel/flywheellaw16.DecideWindow", spec := "decideWindow", inPlace := ["math/bits.Add64"], apart := false, narrowed := true }
def DecideWindowUptoSaid : Prop := decideWindowUptoRow.holds Try.pinned (OpenSpec.upto decideWindowSpec)

/-- 'flywheellaw16.DecideFalls', WHERE WHAT IT READS IS OF BULK AT MOST 1048576: true; the input reads as it did. -/
def decideFallsUptoRow : OpenClaim := { program := "ytanphcdggmbomaa", sum := "e5434ed5d7b77df5eba2d950535aaa5d3c45d58d9f71de446ba279dc9e1bb8e8", func := "flywheel/flywheellaw16.DecideFalls", spec := "decideFalls", inPlace := ["math/bits.Add64"], apart := false, narrowed := true }
def DecideFallsUptoSaid : Prop := decideFallsUptoRow.holds Try.pinned (OpenSpec.upto decideFallsSpec)

/-- 'flywheellaw16.DecideFollows', WHERE WHAT IT READS IS OF BULK AT MOST 1048576: true; the input reads as it did. -/
def decideFollowsUptoRow : OpenClaim := { program := "ytanphcdggmbomaa", sum := "e5434ed5d7b77df5eba2d950535aaa5d3c45d58d9f71de446ba279dc9e1bb8e8", func := "flywheel/flywheellaw16.DecideFollows", spec := "decideFollows", inPlace := ["math/bits.Add64", "slices.overlaps[flywheel/api.Sample]"], unfollowed := true, recurses := true, apart := false, narrowed := true }
def DecideFollowsUptoSaid : Prop := decideFollowsUptoRow.holds Try.pinned (OpenSpec.upto decideFollowsSpec)

/-- 'flywheellaw48.AuditFine', WHERE WHAT IT READS IS OF BULK AT MOST 1048576: true; the input reads as it did. -/
def auditFineUptoRow : OpenClaim := { program := "ytanphcdggmbomaa", sum := "e5434ed5d7b77df5eba2d950535aaa5d3c45d58d9f71de446ba279dc9e1bb8e8", func := "flywheel/flywheellaw48.AuditFine", spec := "auditFine", inPlace := ["math/bits.Add64", "slices.overlaps[flywheel/api.Sample]"], unfollowed := true, recurses := true, apart := false, narrowed := true }
def AuditFineUptoSaid : Prop := auditFineUptoRow.holds Try.pinned (OpenSpec.upto auditFineSpec)

/-- 'flywheellaw55.LoopKeeps', WHERE WHAT IT READS IS OF BULK AT MOST 1048576: true; the input reads as it did. -/
def loopKeepsUptoRow : OpenClaim := { program := "ytanphcdggmbomaa", sum := "e5434ed5d7b77df5eba2d950535aaa5d3c45d58d9f71de446ba279dc9e1bb8e8", func := "flywheel/flywheellaw55.LoopKeeps", spec := "loopKeeps", inPlace := ["slices.overlaps[flywheel/api.Sample]", "math/bits.Add64"], unfollowed := true, recurses := true, apart := false, narrowed := true }
def LoopKeepsUptoSaid : Prop := loopKeepsUptoRow.holds Try.pinned (OpenSpec.upto loopKeepsSpec)

/-- 'flywheellaw55.LoopTotals', WHERE WHAT IT READS IS OF BULK AT MOST 1048576: true; the input reads as it did. -/
def loopTotalsUptoRow : OpenClaim := { program := "ytanphcdggmbomaa", sum := "e5434ed5d7b77df5eba2d950535aaa5d3c45d58d9f71de446ba279dc9e1bb8e8", func := "flywheel/flywheellaw55.LoopTotals", spec := "loopTotals", inPlace := ["slices.overlaps[flywheel/api.Sample]", "math/bits.Add64"], unfollowed := true, recurses := true, apart := false, narrowed := true }
def LoopTotalsUptoSaid : Prop := loopTotalsUptoRow.holds Try.pinned (OpenSpec.upto loopTotalsSpec)

end Rows
end Go.Proofs.Ytanphcdggmbomaa
