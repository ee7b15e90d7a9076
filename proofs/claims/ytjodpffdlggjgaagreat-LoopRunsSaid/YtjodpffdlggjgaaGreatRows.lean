/-
  No cell of these rows narrows 'for every input' (looked for: loops, veiled, ifaces, maps, wideKeys, modest, calm, conditions, laid).
  DERIVED. THE GIVEN ROWS OF THIS SEAT. 4 by the template 'for every input the law returns true; each argument reads behind the call as it read before'; 0 by the template 'total and deterministic' (their statements: YtjodpffdlggjgaaGreatTotals.lean).
  GIVEN WITH THE SEED: the statements are not yours to turn. If you find one false, say at which input.
  Laid BY PROGRAM, IN A SANDBOX (cutbox-rows.mjs): the forced cells as the released guide's own fill.sh prints them over the translation 9f238fa3a28958fb… (all of the seat's roots in one cut). By AI agents, Wed Nov 11 2026. No macro, syntax, notation, axiom, sorry.
-/
import Derived.Test.YtjodpffdlggjgaaGreatChecked
import GoSem.Claim
import GoSem.ClaimJoined
import GoSem.ClaimMapViews
import Derived.JoinedTies
import Derived.KernelRfl
namespace Go.Proofs.YtjodpffdlggjgaaGreat
/- THE CELL 'sum', in the pinned program and in every row, IS THE sha256 OF THE DUMP (.gsa) THAT YtjodpffdlggjgaaGreatProg.lean LOADS. Nothing in Lean hashes anything: it is a label: what it is worth is what the hold of that sum in a sandbox is worth. -/
noncomputable def Tryz.pinned : Pinned := { name := "ytjodpffdlggjgaagreat", sum := "9f238fa3a28958fbfe17ddd12939992856215ecfbb31e3294531ccc7c5191fad", checked := Tryz.checked }
namespace Rows
def none {H : Type} : Left H := { results := [], args := [] }

/-- 'flywheellaw44.TrialRuns': WHATEVER THE INPUT: true; the input reads as it did. -/
def trialRunsSpec : ChangeSpec := { name := "trialRuns", fn := fun _ => fun
  | [d1, d2, d3, d4] => { results := [.lit (.bool true)], args := [d1, d2, d3, d4] }
  | _ => none }
def trialRunsRow : OpenClaim := { program := "ytjodpffdlggjgaagreat", sum := "9f238fa3a28958fbfe17ddd12939992856215ecfbb31e3294531ccc7c5191fad", func := "flywheel/flywheellaw44.TrialRuns", spec := "trialRuns", inPlace := ["slices.overlaps[flywheel/api.Sample]", "math/bits.Add64"], unfollowed := true, recurses := true, apart := false }
def TrialRunsSaid : Prop := trialRunsRow.holds Tryz.pinned (OpenSpec.ofChange trialRunsSpec)

/-- ITS FALSE NEIGHBOUR: 'it returns false'. Refute it at one input. -/
def trialRunsWrong : ChangeSpec := { name := "trialRuns", fn := fun _ => fun
  | [d1, d2, d3, d4] => { results := [.lit (.bool false)], args := [d1, d2, d3, d4] }
  | _ => none }
def TrialRunsWrongFalsely : Prop := trialRunsRow.holds Tryz.pinned (OpenSpec.ofChange trialRunsWrong)

/-- 'flywheellaw55.LoopRuns': WHATEVER THE INPUT: true; the input reads as it did. -/
def loopRunsSpec : ChangeSpec := { name := "loopRuns", fn := fun _ => fun
  | [d1, d2, d3] => { results := [.lit (.bool true)], args := [d1, d2, d3] }
  | _ => none }
def loopRunsRow : OpenClaim := { program := "ytjodpffdlggjgaagreat", sum := "9f238fa3a28958fbfe17ddd12939992856215ecfbb31e3294531ccc7c5191fad", func := "flywheel/flywheellaw55.LoopRuns", spec := "loopRuns", inPlace := ["slices.overlaps[flywheel/api.Sample]", "math/bits.Add64"], unfollowed := true, recurses := true, apart := false }
def LoopRunsSaid : Prop := loopRunsRow.holds Tryz.pinned (OpenSpec.ofChange loopRunsSpec)

/-- ITS FALSE NEIGHBOUR: 'it returns false'. Refute it at one input. -/
def loopRunsWrong : ChangeSpec := { name := "loopRuns", fn := fun _ => fun
  | [d1, d2, d3] => { results := [.lit (.bool false)], args := [d1, d2, d3] }
  | _ => none }
def LoopRunsWrongFalsely : Prop := loopRunsRow.holds Tryz.pinned (OpenSpec.ofChange loopRunsWrong)

/-- 'flywheellaw45.TuneCheapest': WHATEVER THE INPUT: true; the input reads as it did. -/
def tuneCheapestSpec : ChangeSpec := { name := "tuneCheapest", fn := fun _ => fun
  | [d1, d2, d3, d4, d5] => { results := [.lit (.bool true)], args := [d1, d2, d3, d4, d5] }
  | _ => none }
def tuneCheapestRow : OpenClaim := { program := "ytjodpffdlggjgaagreat", sum := "9f238fa3a28958fbfe17ddd12939992856215ecfbb31e3294531ccc7c5191fad", func := "flywheel/flywheellaw45.TuneCheapest", spec := "tuneCheapest", inPlace := ["slices.overlaps[flywheel/api.Sample]", "math/bits.Add64"], unfollowed := true, recurses := true, apart := false }
def TuneCheapestSaid : Prop := tuneCheapestRow.holds Tryz.pinned (OpenSpec.ofChange tuneCheapestSpec)

/-- ITS FALSE NEIGHBOUR: 'it returns false'. Refute it at one input. -/
def tuneCheapestWrong : ChangeSpec := { name := "tuneCheapest", fn := fun _ => fun
  | [d1, d2, d3, d4, d5] => { results := [.lit (.bool false)], args := [d1, d2, d3, d4, d5] }
  | _ => none }
def TuneCheapestWrongFalsely : Prop := tuneCheapestRow.holds Tryz.pinned (OpenSpec.ofChange tuneCheapestWrong)

/-- 'flywheellaw45.TuneBest': WHATEVER THE INPUT: true; the input reads as it did. -/
def tuneBestSpec : ChangeSpec := { name := "tuneBest", fn := fun _ => fun
  | [d1, d2, d3, d4, d5, d6] => { results := [.lit (.bool true)], args := [d1, d2, d3, d4, d5, d6] }
  | _ => none }
def tuneBestRow : OpenClaim := { program := "ytjodpffdlggjgaagreat", sum := "9f238fa3a28958fbfe17ddd12939992856215ecfbb31e3294531ccc7c5191fad", func := "flywheel/flywheellaw45.TuneBest", spec := "tuneBest", inPlace := ["slices.overlaps[flywheel/api.Sample]", "math/bits.Add64"], unfollowed := true, recurses := true, apart := false }
def TuneBestSaid : Prop := tuneBestRow.holds Tryz.pinned (OpenSpec.ofChange tuneBestSpec)

/-- ITS FALSE NEIGHBOUR: 'it returns false'. Refute it at one input. -/
def tuneBestWrong : ChangeSpec := { name := "tuneBest", fn := fun _ => fun
  | [d1, d2, d3, d4, d5, d6] => { results := [.lit (.bool false)], args := [d1, d2, d3, d4, d5, d6] }
  | _ => none }
def TuneBestWrongFalsely : Prop := tuneBestRow.holds Tryz.pinned (OpenSpec.ofChange tuneBestWrong)

/- THE SECOND FORM. 'bulk': how many values and letters a reading holds, each counted each time it is reached (what is shared counts as often as it is met; a slice's spare places count too). A statement '..UptoSaid' is the law's where the arguments, and the package variables that the reading takes, are together of bulk at most 1048576: NARROWER than '..Said'. Prove '..Said' where nothing that the law and all that it calls make is longer than what came in: it says more and counts as full. Else prove '..UptoSaid'. A law counts once. -/
mutual
def uptoBulk {H : Type} : DataW H → Nat
  | .lit (.string bytes) => bytes.length + 1
  | .lit _ => 1
  | .nil => 1
  | .ptr d => uptoBulk d + 1
  | .slice elems spare => uptoBulkAll elems + uptoBulkAll spare + 1
  | .agg parts => uptoBulkAll parts + 1
  | .iface _ d => uptoBulk d + 1
  | .map entries => uptoBulkEntries entries + 1
  | .held _ => 1
def uptoBulkAll {H : Type} : List (DataW H) → Nat
  | [] => 0
  | d :: r => uptoBulk d + uptoBulkAll r
def uptoBulkEntries {H : Type} : List (Lit × DataW H) → Nat
  | [] => 0
  | x :: r => uptoBulkEntry x + uptoBulkEntries r
def uptoBulkEntry {H : Type} : Lit × DataW H → Nat
  | (.string bytes, d) => bytes.length + uptoBulk d + 1
  | (_, d) => uptoBulk d + 1
 end
def uptoSmall : (H : Type) → List (DataW H) → Bool := fun _ ds => decide (uptoBulkAll ds ≤ 1048576)
def OpenSpec.upto (s : _root_.Go.ChangeSpec) : _root_.Go.OpenSpec := { _root_.Go.OpenSpec.ofChange s with cond := some uptoSmall }

/-- 'flywheellaw44.TrialRuns', WHERE WHAT IT READS IS OF BULK AT MOST 1048576: true; the input reads as it did. -/
def trialRunsUptoRow : OpenClaim := { program := "ytjodpffdlggjgaagreat", sum := "9f238fa3a28958fbfe17ddd12939992856215ecfbb31e3294531ccc7c5191fad", func := "flywheel/flywheellaw44.TrialRuns", spec := "trialRuns", inPlace := ["slices.overlaps[flywheel/api.Sample]", "math/bits.Add64"], unfollowed := true, recurses := true, apart := false, narrowed := true }
def TrialRunsUptoSaid : Prop := trialRunsUptoRow.holds Tryz.pinned (OpenSpec.upto trialRunsSpec)

/-- 'flywheellaw55.LoopRuns', WHERE WHAT IT READS IS OF BULK AT MOST 1048576: true; the input reads as it did. -/
def loopRunsUptoRow : OpenClaim := { program := "ytjodpffdlggjgaagreat", sum := "9f238fa3a28958fbfe17ddd12939992856215ecfbb31e3294531ccc7c5191fad", func := "flywheel/flywheellaw55.LoopRuns", spec := "loopRuns", inPlace := ["slices.overlaps[flywheel/api.Sample]", "math/bits.Add64"], unfollowed := true, recurses := true, apart := false, narrowed := true }
def LoopRunsUptoSaid : Prop := loopRunsUptoRow.holds Tryz.pinned (OpenSpec.upto loopRunsSpec)

/-- 'flywheellaw45.TuneCheapest', WHERE WHAT IT READS IS OF BULK AT MOST 1048576: true; the input reads as it did. -/
def tuneCheapestUptoRow : OpenClaim := { program := "ytjodpffdlggjgaagreat", sum := "9f238fa3a28958fbfe17ddd12939992856215ecfbb31e3294531ccc7c5191fad", func := "flywheel/flywheellaw45.TuneCheapest", spec := "tuneCheapest", inPlace := ["slices.overlaps[flywheel/api.Sample]", "math/bits.Add64"], unfollowed := true, recurses := true, apart := false, narrowed := true }
def TuneCheapestUptoSaid : Prop := tuneCheapestUptoRow.holds Tryz.pinned (OpenSpec.upto tuneCheapestSpec)

/-- 'flywheellaw45.TuneBest', WHERE WHAT IT READS IS OF BULK AT MOST 1048576: true; the input reads as it did. -/
def tuneBestUptoRow : OpenClaim := { program := "ytjodpffdlggjgaagreat", sum := "9f238fa3a28958fbfe17ddd12939992856215ecfbb31e3294531ccc7c5191fad", func := "flywheel/flywheellaw45.TuneBest", spec := "tuneBest", inPlace := ["slices.overlaps[flywheel/api.Sample]", "math/bits.Add64"], unfollowed := true, recurses := true, apart := false, narrowed := true }
def TuneBestUptoSaid : Prop := tuneBestUptoRow.holds Tryz.pinned (OpenSpec.upto tuneBestSpec)

end Rows
end Go.Proofs.YtjodpffdlggjgaaGreat
