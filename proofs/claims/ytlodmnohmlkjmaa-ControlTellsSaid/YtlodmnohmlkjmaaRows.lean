/-
  No cell of these rows narrows 'for every input' (looked for: loops, veiled, ifaces, maps, wideKeys, modest, calm, conditions, laid).
  DERIVED. THE GIVEN ROWS OF THIS SEAT. 10 by the template 'for every input the law returns true; each argument reads behind the call as it read before'; 0 by the template 'total and deterministic' (their statements: YtlodmnohmlkjmaaTotals.lean).
  GIVEN WITH THE SEED: the statements are not yours to turn. If you find one false, say at which input.
  Laid BY PROGRAM, IN A SANDBOX (cutbox-rows.mjs): the forced cells as the released guide's own fill.sh prints them over the translation 418d243beffe32cb… (all of the seat's roots in one cut). By AI agents, Wed Nov 11 2026. No macro, syntax, notation, axiom, sorry.
-/
import Derived.Test.YtlodmnohmlkjmaaChecked
import GoSem.Claim
import GoSem.ClaimJoined
import GoSem.ClaimMapViews
import Derived.JoinedTies
import Derived.KernelRfl
namespace Go.Proofs.Ytlodmnohmlkjmaa
/- THE CELL 'sum', in the pinned program and in every row, IS THE sha256 OF THE DUMP (.gsa) THAT YtlodmnohmlkjmaaProg.lean LOADS. Nothing in Lean hashes anything: it is a label: what it is worth is what the hold of that sum in a sandbox is worth. -/
noncomputable def Try.pinned : Pinned := { name := "ytlodmnohmlkjmaa", sum := "418d243beffe32cb89b36dfda0c3e5d659a5c1b07e128e192f464bc0fa864f84", checked := Try.checked }
namespace Rows
def none {H : Type} : Left H := { results := [], args := [] }

/-- 'flywheellaw13.ControlMore': WHATEVER THE INPUT: true; the input reads as it did. -/
def controlMoreSpec : ChangeSpec := { name := "controlMore", fn := fun _ => fun
  | [d1, d2, d3, d4] => { results := [.lit (.bool true)], args := [d1, d2, d3, d4] }
  | _ => none }
def controlMoreRow : OpenClaim := { program := "ytlodmnohmlkjmaa", sum := "418d243beffe32cb89b36dfda0c3e5d659a5c1b07e128e192f464bc0fa864f84", func := "flywheel/flywheellaw13.ControlMore", spec := "controlMore", inPlace := ["math/bits.Add64"], apart := false }
def ControlMoreSaid : Prop := controlMoreRow.holds Try.pinned (OpenSpec.ofChange controlMoreSpec)

/-- ITS FALSE NEIGHBOUR: 'it returns false'. Refute it at one input. -/
def controlMoreWrong : ChangeSpec := { name := "controlMore", fn := fun _ => fun
  | [d1, d2, d3, d4] => { results := [.lit (.bool false)], args := [d1, d2, d3, d4] }
  | _ => none }
def ControlMoreWrongFalsely : Prop := controlMoreRow.holds Try.pinned (OpenSpec.ofChange controlMoreWrong)

/-- 'flywheellaw02.WideDivides': WHATEVER THE INPUT: true; the input reads as it did. -/
def wideDividesSpec : ChangeSpec := { name := "wideDivides", fn := fun _ => fun
  | [d1, d2] => { results := [.lit (.bool true)], args := [d1, d2] }
  | _ => none }
def wideDividesRow : OpenClaim := { program := "ytlodmnohmlkjmaa", sum := "418d243beffe32cb89b36dfda0c3e5d659a5c1b07e128e192f464bc0fa864f84", func := "flywheel/flywheellaw02.WideDivides", spec := "wideDivides", inPlace := ["math/bits.Add64"], apart := false }
def WideDividesSaid : Prop := wideDividesRow.holds Try.pinned (OpenSpec.ofChange wideDividesSpec)

/-- ITS FALSE NEIGHBOUR: 'it returns false'. Refute it at one input. -/
def wideDividesWrong : ChangeSpec := { name := "wideDivides", fn := fun _ => fun
  | [d1, d2] => { results := [.lit (.bool false)], args := [d1, d2] }
  | _ => none }
def WideDividesWrongFalsely : Prop := wideDividesRow.holds Try.pinned (OpenSpec.ofChange wideDividesWrong)

/-- 'flywheellaw02.WideScales': WHATEVER THE INPUT: true; the input reads as it did. -/
def wideScalesSpec : ChangeSpec := { name := "wideScales", fn := fun _ => fun
  | [d1, d2, d3, d4] => { results := [.lit (.bool true)], args := [d1, d2, d3, d4] }
  | _ => none }
def wideScalesRow : OpenClaim := { program := "ytlodmnohmlkjmaa", sum := "418d243beffe32cb89b36dfda0c3e5d659a5c1b07e128e192f464bc0fa864f84", func := "flywheel/flywheellaw02.WideScales", spec := "wideScales", inPlace := ["math/bits.Add64"], apart := false }
def WideScalesSaid : Prop := wideScalesRow.holds Try.pinned (OpenSpec.ofChange wideScalesSpec)

/-- ITS FALSE NEIGHBOUR: 'it returns false'. Refute it at one input. -/
def wideScalesWrong : ChangeSpec := { name := "wideScales", fn := fun _ => fun
  | [d1, d2, d3, d4] => { results := [.lit (.bool false)], args := [d1, d2, d3, d4] }
  | _ => none }
def WideScalesWrongFalsely : Prop := wideScalesRow.holds Try.pinned (OpenSpec.ofChange wideScalesWrong)

/-- 'flywheellaw02.WideMeans': WHATEVER THE INPUT: true; the input reads as it did. -/
def wideMeansSpec : ChangeSpec := { name := "wideMeans", fn := fun _ => fun
  | [d] => { results := [.lit (.bool true)], args := [d] }
  | _ => none }
def wideMeansRow : OpenClaim := { program := "ytlodmnohmlkjmaa", sum := "418d243beffe32cb89b36dfda0c3e5d659a5c1b07e128e192f464bc0fa864f84", func := "flywheel/flywheellaw02.WideMeans", spec := "wideMeans", inPlace := ["math/bits.Add64"], apart := false }
def WideMeansSaid : Prop := wideMeansRow.holds Try.pinned (OpenSpec.ofChange wideMeansSpec)

/-- ITS FALSE NEIGHBOUR: 'it returns false'. Refute it at one input. -/
def wideMeansWrong : ChangeSpec := { name := "wideMeans", fn := fun _ => fun
  | [d] => { results := [.lit (.bool false)], args := [d] }
  | _ => none }
def WideMeansWrongFalsely : Prop := wideMeansRow.holds Try.pinned (OpenSpec.ofChange wideMeansWrong)

/-- 'flywheellaw45.TuneWith': WHATEVER THE INPUT: true; the input reads as it did. -/
def tuneWithSpec : ChangeSpec := { name := "tuneWith", fn := fun _ => fun
  | [d1, d2, d3, d4, d5, d6] => { results := [.lit (.bool true)], args := [d1, d2, d3, d4, d5, d6] }
  | _ => none }
def tuneWithRow : OpenClaim := { program := "ytlodmnohmlkjmaa", sum := "418d243beffe32cb89b36dfda0c3e5d659a5c1b07e128e192f464bc0fa864f84", func := "flywheel/flywheellaw45.TuneWith", spec := "tuneWith", apart := false }
def TuneWithSaid : Prop := tuneWithRow.holds Try.pinned (OpenSpec.ofChange tuneWithSpec)

/-- ITS FALSE NEIGHBOUR: 'it returns false'. Refute it at one input. -/
def tuneWithWrong : ChangeSpec := { name := "tuneWith", fn := fun _ => fun
  | [d1, d2, d3, d4, d5, d6] => { results := [.lit (.bool false)], args := [d1, d2, d3, d4, d5, d6] }
  | _ => none }
def TuneWithWrongFalsely : Prop := tuneWithRow.holds Try.pinned (OpenSpec.ofChange tuneWithWrong)

/-- 'flywheellaw44.TrialJudges': WHATEVER THE INPUT: true; the input reads as it did. -/
def trialJudgesSpec : ChangeSpec := { name := "trialJudges", fn := fun _ => fun
  | [d1, d2] => { results := [.lit (.bool true)], args := [d1, d2] }
  | _ => none }
def trialJudgesRow : OpenClaim := { program := "ytlodmnohmlkjmaa", sum := "418d243beffe32cb89b36dfda0c3e5d659a5c1b07e128e192f464bc0fa864f84", func := "flywheel/flywheellaw44.TrialJudges", spec := "trialJudges", apart := false }
def TrialJudgesSaid : Prop := trialJudgesRow.holds Try.pinned (OpenSpec.ofChange trialJudgesSpec)

/-- ITS FALSE NEIGHBOUR: 'it returns false'. Refute it at one input. -/
def trialJudgesWrong : ChangeSpec := { name := "trialJudges", fn := fun _ => fun
  | [d1, d2] => { results := [.lit (.bool false)], args := [d1, d2] }
  | _ => none }
def TrialJudgesWrongFalsely : Prop := trialJudgesRow.holds Try.pinned (OpenSpec.ofChange trialJudgesWrong)

/-- 'flywheellaw02.WideAdds': WHATEVER THE INPUT: true; the input reads as it did. -/
def wideAddsSpec : ChangeSpec := { name := "wideAdds", fn := fun _ => fun
  | [d1, d2, d3, d4] => { results := [.lit (.bool true)], args := [d1, d2, d3, d4] }
  | _ => none }
def wideAddsRow : OpenClaim := { program := "ytlodmnohmlkjmaa", sum := "418d243beffe32cb89b36dfda0c3e5d659a5c1b07e128e192f464bc0fa864f84", func := "flywheel/flywheellaw02.WideAdds", spec := "wideAdds", inPlace := ["math/bits.Add64"], apart := false }
def WideAddsSaid : Prop := wideAddsRow.holds Try.pinned (OpenSpec.ofChange wideAddsSpec)

/-- ITS FALSE NEIGHBOUR: 'it returns false'. Refute it at one input. -/
def wideAddsWrong : ChangeSpec := { name := "wideAdds", fn := fun _ => fun
  | [d1, d2, d3, d4] => { results := [.lit (.bool false)], args := [d1, d2, d3, d4] }
  | _ => none }
def WideAddsWrongFalsely : Prop := wideAddsRow.holds Try.pinned (OpenSpec.ofChange wideAddsWrong)

/-- 'flywheellaw13.ControlTells': WHATEVER THE INPUT: true; the input reads as it did. -/
def controlTellsSpec : ChangeSpec := { name := "controlTells", fn := fun _ => fun
  | [d1, d2, d3, d4] => { results := [.lit (.bool true)], args := [d1, d2, d3, d4] }
  | _ => none }
def controlTellsRow : OpenClaim := { program := "ytlodmnohmlkjmaa", sum := "418d243beffe32cb89b36dfda0c3e5d659a5c1b07e128e192f464bc0fa864f84", func := "flywheel/flywheellaw13.ControlTells", spec := "controlTells", inPlace := ["math/bits.Add64"], apart := false }
def ControlTellsSaid : Prop := controlTellsRow.holds Try.pinned (OpenSpec.ofChange controlTellsSpec)

/-- ITS FALSE NEIGHBOUR: 'it returns false'. Refute it at one input. -/
def controlTellsWrong : ChangeSpec := { name := "controlTells", fn := fun _ => fun
  | [d1, d2, d3, d4] => { results := [.lit (.bool false)], args := [d1, d2, d3, d4] }
  | _ => none }
def ControlTellsWrongFalsely : Prop := controlTellsRow.holds Try.pinned (OpenSpec.ofChange controlTellsWrong)

/-- 'flywheellaw44.TrialOrders': WHATEVER THE INPUT: true; the input reads as it did. -/
def trialOrdersSpec : ChangeSpec := { name := "trialOrders", fn := fun _ => fun
  | [d1, d2, d3] => { results := [.lit (.bool true)], args := [d1, d2, d3] }
  | _ => none }
def trialOrdersRow : OpenClaim := { program := "ytlodmnohmlkjmaa", sum := "418d243beffe32cb89b36dfda0c3e5d659a5c1b07e128e192f464bc0fa864f84", func := "flywheel/flywheellaw44.TrialOrders", spec := "trialOrders", apart := false }
def TrialOrdersSaid : Prop := trialOrdersRow.holds Try.pinned (OpenSpec.ofChange trialOrdersSpec)

/-- ITS FALSE NEIGHBOUR: 'it returns false'. Refute it at one input. -/
def trialOrdersWrong : ChangeSpec := { name := "trialOrders", fn := fun _ => fun
  | [d1, d2, d3] => { results := [.lit (.bool false)], args := [d1, d2, d3] }
  | _ => none }
def TrialOrdersWrongFalsely : Prop := trialOrdersRow.holds Try.pinned (OpenSpec.ofChange trialOrdersWrong)

/-- 'flywheellaw13.ControlEnds': WHATEVER THE INPUT: true; the input reads as it did. -/
def controlEndsSpec : ChangeSpec := { name := "controlEnds", fn := fun _ => fun
  | [d1, d2] => { results := [.lit (.bool true)], args := [d1, d2] }
  | _ => none }
def controlEndsRow : OpenClaim := { program := "ytlodmnohmlkjmaa", sum := "418d243beffe32cb89b36dfda0c3e5d659a5c1b07e128e192f464bc0fa864f84", func := "flywheel/flywheellaw13.ControlEnds", spec := "controlEnds", inPlace := ["math/bits.Add64"], apart := false }
def ControlEndsSaid : Prop := controlEndsRow.holds Try.pinned (OpenSpec.ofChange controlEndsSpec)

/-- ITS FALSE NEIGHBOUR: 'it returns false'. Refute it at one input. -/
def controlEndsWrong : ChangeSpec := { name := "controlEnds", fn := fun _ => fun
  | [d1, d2] => { results := [.lit (.bool false)], args := [d1, d2] }
  | _ => none }
def ControlEndsWrongFalsely : Prop := controlEndsRow.holds Try.pinned (OpenSpec.ofChange controlEndsWrong)

/- THE SECOND FORM. 'bulk': how many values and letters a reading holds, each counted each time it is reached (what is shared counts as often as it is met; a slice's spare places count too). A statement '..UptoSaid' is the law's where the arguments, and the package variables that the reading takes, are together of bulk at most 1048576: NARROWER than '..Said'. Prove '..Said' where nothing that the law and all that it calls make is longer than what came in: it says more and counts as full. Else prove '..UptoSaid'. A law counts once. -/
mutual
def uptoBulk {H : Type} : DataW H → Nat
  | .lit (.string bytes) => bytes.length + 1
  | .lit _ => 1
  | .nil => 1
  | .ptr d => uptoBulk d + 1
  | .slice elems spare => uptoBulkAll elems + uptoBulkAll spare + 1
  | .agg parts => uptoBulkAll parts + 1
  | .iface _ d => uptoBulk d + 1
  | .map entries => uptoBulkEntries entries + 1
  | .held _ => 1
def uptoBulkAll {H : Type} : List (DataW H) → Nat
  | [] => 0
  | d :: r => uptoBulk d + uptoBulkAll r
def uptoBulkEntries {H : Type} : List (Lit × DataW H) → Nat
  | [] => 0
  | x :: r => uptoBulkEntry x + uptoBulkEntries r
def uptoBulkEntry {H : Type} : Lit × DataW H → Nat
  | (.string bytes, d) => bytes.length + uptoBulk d + 1
  | (_, d) => uptoBulk d + 1
 end
def uptoSmall : (H : Type) → List (DataW H) → Bool := fun _ ds => decide (uptoBulkAll ds ≤ 1048576)
def OpenSpec.upto (s : _root_.Go.ChangeSpec) : _root_.Go.OpenSpec := { _root_.Go.OpenSpec.ofChange s with cond := some uptoSmall }

/-- 'flywheellaw13.ControlMore', WHERE WHAT IT READS IS OF BULK AT MOST 1048576: true; the input reads as it did. -/
def controlMoreUptoRow : OpenClaim := { program := "ytlodmnohmlkjmaa", sum := "418d243beffe32cb89b36dfda0c3e5d659a5c1b07e128e192f464bc0fa864f84", func := "flywheel/flywheellaw13.ControlMore", spec := "controlMore", inPlace := ["math/bits.Add64"], apart := false, narrowed := true }
def ControlMoreUptoSaid : Prop := controlMoreUptoRow.holds Try.pinned (OpenSpec.upto controlMoreSpec)

/-- 'flywheellaw02.WideDivides', WHERE WHAT IT READS IS OF BULK AT MOST 1048576: true; the input reads as it did. -/
def wideDividesUptoRow : OpenClaim := { program := "ytlodmnohmlkjmaa", sum := "418d243beffe32cb89b36dfda0c3e5d659a5c1b07e128e192f464bc0fa864f84", func := "flywheel/flywheellaw02.WideDivides", spec := "wideDivides", inPlace := ["math/bits.Add64"], apart := false, narrowed := true }
def WideDividesUptoSaid : Prop := wideDividesUptoRow.holds Try.pinned (OpenSpec.upto wideDividesSpec)

/-- 'flywheellaw02.WideScales', WHERE WHAT IT READS IS OF BULK AT MOST 1048576: true; the input reads as it did. -/
def wideScalesUptoRow : OpenClaim := { program := "ytlodmnohmlkjmaa", sum := "418d243beffe32cb89b36dfda0c3e5d659a5c1b07e128e192f464bc0fa864f84", func := "flywheel/flywheellaw02.WideScales", spec := "wideScales", inPlace := ["math/bits.Add64"], apart := false, narrowed := true }
def WideScalesUptoSaid : Prop := wideScalesUptoRow.holds Try.pinned (OpenSpec.upto wideScalesSpec)

/-- 'flywheellaw02.WideMeans', WHERE WHAT IT READS IS OF BULK AT MOST 1048576: true; the input reads as it did. -/
def wideMeansUptoRow : OpenClaim := { program := "ytlodmnohmlkjmaa", sum := "418d243beffe32cb89b36dfda0c3e5d659a5c1b07e128e192f464bc0fa864f84", func := "flywheel/flywheellaw02.WideMeans", spec := "wideMeans", inPlace := ["math/bits.Add64"], apart := false, narrowed := true }
def WideMeansUptoSaid : Prop := wideMeansUptoRow.holds Try.pinned (OpenSpec.upto wideMeansSpec)

/-- 'flywheellaw45.TuneWith', WHERE WHAT IT READS IS OF BULK AT MOST 1048576: true; the input reads as it did. -/
def tuneWithUptoRow : OpenClaim := { program := "ytlodmnohmlkjmaa", sum := "418d243beffe32cb89b36dfda0c3e5d659a5c1b07e128e192f464bc0fa864f84", func := "flywheel/flywheellaw45.TuneWith", spec := "tuneWith", apart := false, narrowed := true }
def TuneWithUptoSaid : Prop := tuneWithUptoRow.holds Try.pinned (OpenSpec.upto tuneWithSpec)

/-- 'flywheellaw44.TrialJudges', WHERE WHAT IT READS IS OF BULK AT MOST 1048576: true; the input reads as it did. -/
def trialJudgesUptoRow : OpenClaim := { program := "ytlodmnohmlkjmaa", sum := "418d243beffe32cb89b36dfda0c3e5d659a5c1b07e128e192f464bc0fa864f84", func := "flywheel/flywheellaw44.TrialJudges", spec := "trialJudges", apart := false, narrowed := true }
def TrialJudgesUptoSaid : Prop := trialJudgesUptoRow.holds Try.pinned (OpenSpec.upto trialJudgesSpec)

/-- 'flywheellaw02.WideAdds', WHERE WHAT IT READS IS OF BULK AT MOST 1048576: true; the input reads as it did. -/
def wideAddsUptoRow : OpenClaim := { program := "ytlodmnohmlkjmaa", sum := "418d243beffe32cb89b36dfda0c3e5d659a5c1b07e128e192f464bc0fa864f84", func := "flywheel/flywheellaw02.WideAdds", spec := "wideAdds", inPlace := ["math/bits.Add64"], apart := false, narrowed := true }
def WideAddsUptoSaid : Prop := wideAddsUptoRow.holds Try.pinned (OpenSpec.upto wideAddsSpec)

/-- 'flywheellaw13.ControlTells', WHERE WHAT IT READS IS OF BULK AT MOST 1048576: true; the input reads as it did. -/
def controlTellsUptoRow : OpenClaim := { program := "ytlodmnohmlkjmaa", sum := "418d243beffe32cb89b36dfda0c3e5d659a5c1b07e128e192f464bc0fa864f84", func := "flywheel/flywheellaw13.ControlTells", spec := "controlTells", inPlace := ["math/bits.Add64"], apart := false, narrowed := true }
def ControlTellsUptoSaid : Prop := controlTellsUptoRow.holds Try.pinned (OpenSpec.upto controlTellsSpec)

/-- 'flywheellaw44.TrialOrders', WHERE WHAT IT READS IS OF BULK AT MOST 1048576: true; the input reads as it did. -/
def trialOrdersUptoRow : OpenClaim := { program := "ytlodmnohmlkjmaa", sum := "418d243beffe32cb89b36dfda0c3e5d659a5c1b07e128e192f464bc0fa864f84", func := "flywheel/flywheellaw44.TrialOrders", spec := "trialOrders", apart := false, narrowed := true }
def TrialOrdersUptoSaid : Prop := trialOrdersUptoRow.holds Try.pinned (OpenSpec.upto trialOrdersSpec)

/-- 'flywheellaw13.ControlEnds', WHERE WHAT IT READS IS OF BULK AT MOST 1048576: true; the input reads as it did. -/
def controlEndsUptoRow : OpenClaim := { program := "ytlodmnohmlkjmaa", sum := "418d243beffe32cb89b36dfda0c3e5d659a5c1b07e128e192f464bc0fa864f84", func := "flywheel/flywheellaw13.ControlEnds", spec := "controlEnds", inPlace := ["math/bits.Add64"], apart := false, narrowed := true }
def ControlEndsUptoSaid : Prop := controlEndsUptoRow.holds Try.pinned (OpenSpec.upto controlEndsSpec)

end Rows
end Go.Proofs.Ytlodmnohmlkjmaa
