/-
  No cell of these rows narrows 'for every input' (looked for: loops, veiled, ifaces, maps, wideKeys, modest, calm, conditions, laid).
  DERIVED. THE GIVEN ROWS OF THIS SEAT. 7 by the template 'for every input the law returns true; each argument reads behind the call as it read before'; 0 by the template 'total and deterministic' (their statements: YtnkefjliafadpaaTotals.lean).
  GIVEN WITH THE SEED: the statements are not yours to turn. If you find one false, say at which input.
  Laid BY PROGRAM, IN A SANDBOX (cutbox-rows.mjs): the forced cells as the released guide's own fill.sh prints them over the translation 23869bcba0b09168… (all of the seat's roots in one cut). By AI agents, Wed Nov 11 2026. No macro, syntax, notation, axiom, sorry.
-/
import Derived.Test.YtnkefjliafadpaaChecked
import GoSem.Claim
import GoSem.ClaimJoined
import GoSem.ClaimMapViews
import Derived.JoinedTies
import Derived.KernelRfl
namespace Go.Proofs.Ytnkefjliafadpaa
/- THE CELL 'sum', in the pinned program and in every row, IS THE sha256 OF THE DUMP (.gsa) THAT YtnkefjliafadpaaProg.lean LOADS. Nothing in Lean hashes anything: it is a label: what it is worth is what the hold of that sum in a sandbox is worth. -/
noncomputable def Try.pinned : Pinned := { name := "ytnkefjliafadpaa", sum := "23869bcba0b0916806a4ecb3db831fa4ff7b6d1f61018ad11377cbf5d70fa56f", checked := Try.checked }
namespace Rows
def none {H : Type} : Left H := { results := [], args := [] }

/-- 'flywheellaw09.WindowTells': WHATEVER THE INPUT: true; the input reads as it did. -/
def windowTellsSpec : ChangeSpec := { name := "windowTells", fn := fun _ => fun
  | [d1, d2, d3, d4] => { results := [.lit (.bool true)], args := [d1, d2, d3, d4] }
  | _ => none }
def windowTellsRow : OpenClaim := { program := "ytnkefjliafadpaa", sum := "23869bcba0b0916806a4ecb3db831fa4ff7b6d1f61018ad11377cbf5d70fa56f", func := "flywheel/flywheellaw09.WindowTells", spec := "windowTells", inPlace := ["math/bits.Add64"], apart := false }
def WindowTellsSaid : Prop := windowTellsRow.holds Try.pinned (OpenSpec.ofChange windowTellsSpec)

/-- ITS FALSE NEIGHBOUR: 'it returns false'. Refute it at one input. -/
def windowTellsWrong : ChangeSpec := { name := "windowTells", fn := fun _ => fun
  | [d1, d2, d3, d4] => { results := [.lit (.bool false)], args := [d1, d2, d3, d4] }
  | _ => none }
def WindowTellsWrongFalsely : Prop := windowTellsRow.holds Try.pinned (OpenSpec.ofChange windowTellsWrong)

/-- 'flywheellaw09.WindowOrder': WHATEVER THE INPUT: true; the input reads as it did. -/
def windowOrderSpec : ChangeSpec := { name := "windowOrder", fn := fun _ => fun
  | [d1, d2] => { results := [.lit (.bool true)], args := [d1, d2] }
  | _ => none }
def windowOrderRow : OpenClaim := { program := "ytnkefjliafadpaa", sum := "23869bcba0b0916806a4ecb3db831fa4ff7b6d1f61018ad11377cbf5d70fa56f", func := "flywheel/flywheellaw09.WindowOrder", spec := "windowOrder", inPlace := ["math/bits.Add64"], apart := false }
def WindowOrderSaid : Prop := windowOrderRow.holds Try.pinned (OpenSpec.ofChange windowOrderSpec)

/-- ITS FALSE NEIGHBOUR: 'it returns false'. Refute it at one input. -/
def windowOrderWrong : ChangeSpec := { name := "windowOrder", fn := fun _ => fun
  | [d1, d2] => { results := [.lit (.bool false)], args := [d1, d2] }
  | _ => none }
def WindowOrderWrongFalsely : Prop := windowOrderRow.holds Try.pinned (OpenSpec.ofChange windowOrderWrong)

/-- 'flywheellaw09.WindowEach': WHATEVER THE INPUT: true; the input reads as it did. -/
def windowEachSpec : ChangeSpec := { name := "windowEach", fn := fun _ => fun
  | [d1, d2, d3, d4] => { results := [.lit (.bool true)], args := [d1, d2, d3, d4] }
  | _ => none }
def windowEachRow : OpenClaim := { program := "ytnkefjliafadpaa", sum := "23869bcba0b0916806a4ecb3db831fa4ff7b6d1f61018ad11377cbf5d70fa56f", func := "flywheel/flywheellaw09.WindowEach", spec := "windowEach", inPlace := ["math/bits.Add64"], apart := false }
def WindowEachSaid : Prop := windowEachRow.holds Try.pinned (OpenSpec.ofChange windowEachSpec)

/-- ITS FALSE NEIGHBOUR: 'it returns false'. Refute it at one input. -/
def windowEachWrong : ChangeSpec := { name := "windowEach", fn := fun _ => fun
  | [d1, d2, d3, d4] => { results := [.lit (.bool false)], args := [d1, d2, d3, d4] }
  | _ => none }
def WindowEachWrongFalsely : Prop := windowEachRow.holds Try.pinned (OpenSpec.ofChange windowEachWrong)

/-- 'flywheellaw09.WindowMerges': WHATEVER THE INPUT: true; the input reads as it did. -/
def windowMergesSpec : ChangeSpec := { name := "windowMerges", fn := fun _ => fun
  | [d1, d2] => { results := [.lit (.bool true)], args := [d1, d2] }
  | _ => none }
def windowMergesRow : OpenClaim := { program := "ytnkefjliafadpaa", sum := "23869bcba0b0916806a4ecb3db831fa4ff7b6d1f61018ad11377cbf5d70fa56f", func := "flywheel/flywheellaw09.WindowMerges", spec := "windowMerges", inPlace := ["math/bits.Add64"], apart := false }
def WindowMergesSaid : Prop := windowMergesRow.holds Try.pinned (OpenSpec.ofChange windowMergesSpec)

/-- ITS FALSE NEIGHBOUR: 'it returns false'. Refute it at one input. -/
def windowMergesWrong : ChangeSpec := { name := "windowMerges", fn := fun _ => fun
  | [d1, d2] => { results := [.lit (.bool false)], args := [d1, d2] }
  | _ => none }
def WindowMergesWrongFalsely : Prop := windowMergesRow.holds Try.pinned (OpenSpec.ofChange windowMergesWrong)

/-- 'flywheellaw08.SeriesAnyOrder': WHATEVER THE INPUT: true; the input reads as it did. -/
def seriesAnyOrderSpec : ChangeSpec := { name := "seriesAnyOrder", fn := fun _ => fun
  | [d1, d2, d3] => { results := [.lit (.bool true)], args := [d1, d2, d3] }
  | _ => none }
def seriesAnyOrderRow : OpenClaim := { program := "ytnkefjliafadpaa", sum := "23869bcba0b0916806a4ecb3db831fa4ff7b6d1f61018ad11377cbf5d70fa56f", func := "flywheel/flywheellaw08.SeriesAnyOrder", spec := "seriesAnyOrder", inPlace := ["slices.overlaps[flywheel/api.Sample]"], unfollowed := true, recurses := true, apart := false }
def SeriesAnyOrderSaid : Prop := seriesAnyOrderRow.holds Try.pinned (OpenSpec.ofChange seriesAnyOrderSpec)

/-- ITS FALSE NEIGHBOUR: 'it returns false'. Refute it at one input. -/
def seriesAnyOrderWrong : ChangeSpec := { name := "seriesAnyOrder", fn := fun _ => fun
  | [d1, d2, d3] => { results := [.lit (.bool false)], args := [d1, d2, d3] }
  | _ => none }
def SeriesAnyOrderWrongFalsely : Prop := seriesAnyOrderRow.holds Try.pinned (OpenSpec.ofChange seriesAnyOrderWrong)

/-- 'flywheellaw08.SeriesPlays': WHATEVER THE INPUT: true; the input reads as it did. -/
def seriesPlaysSpec : ChangeSpec := { name := "seriesPlays", fn := fun _ => fun
  | [d1, d2] => { results := [.lit (.bool true)], args := [d1, d2] }
  | _ => none }
def seriesPlaysRow : OpenClaim := { program := "ytnkefjliafadpaa", sum := "23869bcba0b0916806a4ecb3db831fa4ff7b6d1f61018ad11377cbf5d70fa56f", func := "flywheel/flywheellaw08.SeriesPlays", spec := "seriesPlays", inPlace := ["slices.overlaps[flywheel/api.Sample]"], unfollowed := true, recurses := true, apart := false }
def SeriesPlaysSaid : Prop := seriesPlaysRow.holds Try.pinned (OpenSpec.ofChange seriesPlaysSpec)

/-- ITS FALSE NEIGHBOUR: 'it returns false'. Refute it at one input. -/
def seriesPlaysWrong : ChangeSpec := { name := "seriesPlays", fn := fun _ => fun
  | [d1, d2] => { results := [.lit (.bool false)], args := [d1, d2] }
  | _ => none }
def SeriesPlaysWrongFalsely : Prop := seriesPlaysRow.holds Try.pinned (OpenSpec.ofChange seriesPlaysWrong)

/-- 'flywheellaw08.SeriesClones': WHATEVER THE INPUT: true; the input reads as it did. -/
def seriesClonesSpec : ChangeSpec := { name := "seriesClones", fn := fun _ => fun
  | [d1, d2, d3] => { results := [.lit (.bool true)], args := [d1, d2, d3] }
  | _ => none }
def seriesClonesRow : OpenClaim := { program := "ytnkefjliafadpaa", sum := "23869bcba0b0916806a4ecb3db831fa4ff7b6d1f61018ad11377cbf5d70fa56f", func := "flywheel/flywheellaw08.SeriesClones", spec := "seriesClones", inPlace := ["slices.overlaps[flywheel/api.Sample]"], unfollowed := true, recurses := true, apart := false }
def SeriesClonesSaid : Prop := seriesClonesRow.holds Try.pinned (OpenSpec.ofChange seriesClonesSpec)

/-- ITS FALSE NEIGHBOUR: 'it returns false'. Refute it at one input. -/
def seriesClonesWrong : ChangeSpec := { name := "seriesClones", fn := fun _ => fun
  | [d1, d2, d3] => { results := [.lit (.bool false)], args := [d1, d2, d3] }
  | _ => none }
def SeriesClonesWrongFalsely : Prop := seriesClonesRow.holds Try.pinned (OpenSpec.ofChange seriesClonesWrong)

/- THE SECOND FORM. 'bulk': how many values and letters a reading holds, each counted each time it is reached (what is shared counts as often as it is met; a slice's spare places count too). A statement '..UptoSaid' is the law's where the arguments, and the package variables that the reading takes, are together of bulk at most 1048576: NARROWER than '..Said'. Prove '..Said' where nothing that the law and all that it calls make is longer than what came in: it says more and counts as full. Else prove '..UptoSaid'. A law counts once. -/
mutual
def uptoBulk {H : Type} : DataW H → Nat
  | .lit (.string bytes) => bytes.length + 1
  | .lit _ => 1
  | .nil => 1
  | .ptr d => uptoBulk d + 1
  | .slice elems spare => uptoBulkAll elems + uptoBulkAll spare + 1
  | .agg parts => uptoBulkAll parts + 1
  | .iface _ d => uptoBulk d + 1
  | .map entries => uptoBulkEntries entries + 1
  | .held _ => 1
def uptoBulkAll {H : Type} : List (DataW H) → Nat
  | [] => 0
  | d :: r => uptoBulk d + uptoBulkAll r
def uptoBulkEntries {H : Type} : List (Lit × DataW H) → Nat
  | [] => 0
  | x :: r => uptoBulkEntry x + uptoBulkEntries r
def uptoBulkEntry {H : Type} : Lit × DataW H → Nat
  | (.string bytes, d) => bytes.length + uptoBulk d + 1
  | (_, d) => uptoBulk d + 1
 end
def uptoSmall : (H : Type) → List (DataW H) → Bool := fun _ ds => decide (uptoBulkAll ds ≤ 1048576)
def OpenSpec.upto (s : _root_.Go.ChangeSpec) : _root_.Go.OpenSpec := { _root_.Go.OpenSpec.ofChange s with cond := some uptoSmall }

/-- 'flywheellaw09.WindowTells', WHERE WHAT IT READS IS OF BULK AT MOST 1048576: true; the input reads as it did. -/
def windowTellsUptoRow : OpenClaim := { program := "ytnkefjliafadpaa", sum := "23869bcba0b0916806a4ecb3db831fa4ff7b6d1f61018ad11377cbf5d70fa56f", func := "flywheel/flywheellaw09.WindowTells", spec := "windowTells", inPlace := ["math/bits.Add64"], apart := false, narrowed := true }
def WindowTellsUptoSaid : Prop := windowTellsUptoRow.holds Try.pinned (OpenSpec.upto windowTellsSpec)

/-- 'flywheellaw09.WindowOrder', WHERE WHAT IT READS IS OF BULK AT MOST 1048576: true; the input reads as it did. -/
def windowOrderUptoRow : OpenClaim := { program := "ytnkefjliafadpaa", sum := "23869bcba0b0916806a4ecb3db831fa4ff7b6d1f61018ad11377cbf5d70fa56f", func := "flywheel/flywheellaw09.WindowOrder", spec := "windowOrder", inPlace := ["math/bits.Add64"], apart := false, narrowed := true }
def WindowOrderUptoSaid : Prop := windowOrderUptoRow.holds Try.pinned (OpenSpec.upto windowOrderSpec)

/-- 'flywheellaw09.WindowEach', WHERE WHAT IT READS IS OF BULK AT MOST 1048576: true; the input reads as it did. -/
def windowEachUptoRow : OpenClaim := { program := "ytnkefjliafadpaa", sum := "23869bcba0b0916806a4ecb3db831fa4ff7b6d1f61018ad11377cbf5d70fa56f", func := "flywheel/flywheellaw09.WindowEach", spec := "windowEach", inPlace := ["math/bits.Add64"], apart := false, narrowed := true }
def WindowEachUptoSaid : Prop := windowEachUptoRow.holds Try.pinned (OpenSpec.upto windowEachSpec)

/-- 'flywheellaw09.WindowMerges', WHERE WHAT IT READS IS OF BULK AT MOST 1048576: true; the input reads as it did. -/
def windowMergesUptoRow : OpenClaim := { program := "ytnkefjliafadpaa", sum := "23869bcba0b0916806a4ecb3db831fa4ff7b6d1f61018ad11377cbf5d70fa56f", func := "flywheel/flywheellaw09.WindowMerges", spec := "windowMerges", inPlace := ["math/bits.Add64"], apart := false, narrowed := true }
def WindowMergesUptoSaid : Prop := windowMergesUptoRow.holds Try.pinned (OpenSpec.upto windowMergesSpec)

/-- 'flywheellaw08.SeriesAnyOrder', WHERE WHAT IT READS IS OF BULK AT MOST 1048576: true; the input reads as it did. -/
def seriesAnyOrderUptoRow : OpenClaim := { program := "ytnkefjliafadpaa", sum := "23869bcba0b0916806a4ecb3db831fa4ff7b6d1f61018ad11377cbf5d70fa56f", func := "flywheel/flywheellaw08.SeriesAnyOrder", spec := "seriesAnyOrder", inPlace := ["slices.overlaps[flywheel/api.Sample]"], unfollowed := true, recurses := true, apart := false, narrowed := true }
def SeriesAnyOrderUptoSaid : Prop := seriesAnyOrderUptoRow.holds Try.pinned (OpenSpec.upto seriesAnyOrderSpec)

/-- 'flywheellaw08.SeriesPlays', WHERE WHAT IT READS IS OF BULK AT MOST 1048576: true; the input reads as it did. -/
def seriesPlaysUptoRow : OpenClaim := { program := "ytnkefjliafadpaa", sum := "23869bcba0b0916806a4ecb3db831fa4ff7b6d1f61018ad11377cbf5d70fa56f", func := "flywheel/flywheellaw08.SeriesPlays", spec := "seriesPlays", inPlace := ["slices.overlaps[flywheel/api.Sample]"], unfollowed := true, recurses := true, apart := false, narrowed := true }
def SeriesPlaysUptoSaid : Prop := seriesPlaysUptoRow.holds Try.pinned (OpenSpec.upto seriesPlaysSpec)

/-- 'flywheellaw08.SeriesClones', WHERE WHAT IT READS IS OF BULK AT MOST 1048576: true; the input reads as it did. -/
def seriesClonesUptoRow : OpenClaim := { program := "ytnkefjliafadpaa", sum := "23869bcba0b0916806a4ecb3db831fa4ff7b6d1f61018ad11377cbf5d70fa56f", func := "flywheel/flywheellaw08.SeriesClones", spec := "seriesClones", inPlace := ["slices.overlaps[flywheel/api.Sample]"], unfollowed := true, recurses := true, apart := false, narrowed := true }
def SeriesClonesUptoSaid : Prop := seriesClonesUptoRow.holds Try.pinned (OpenSpec.upto seriesClonesSpec)

end Rows
end Go.Proofs.Ytnkefjliafadpaa
