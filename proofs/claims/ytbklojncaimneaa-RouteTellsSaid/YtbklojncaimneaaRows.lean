/-
  No cell of these rows narrows 'for every input' (looked for: loops, veiled, ifaces, maps, wideKeys, modest, calm, conditions, laid).
  DERIVED. THE GIVEN ROWS OF THIS SEAT. 10 by the template 'for every input the law returns true; each argument reads behind the call as it read before'; 0 by the template 'total and deterministic' (their statements: YtbklojncaimneaaTotals.lean).
  GIVEN WITH THE SEED: the statements are not yours to turn. If you find one false, say at which input.
  Laid BY PROGRAM, IN A SANDBOX (cutbox-rows.mjs): the forced cells as the released guide's own fill.sh prints them over the translation e5ab901e80bcbe7b… (all of the seat's roots in one cut). By AI agents, Wed Nov 11 2026. No macro, syntax, notation, axiom, sorry.
-/
import Derived.Test.YtbklojncaimneaaChecked
import GoSem.Claim
import GoSem.ClaimJoined
import GoSem.ClaimMapViews
import Derived.JoinedTies
import Derived.KernelRfl
namespace Go.Proofs.Ytbklojncaimneaa
/- THE CELL 'sum', in the pinned program and in every row, IS THE sha256 OF THE DUMP (.gsa) THAT YtbklojncaimneaaProg.lean LOADS. Nothing in Lean hashes anything: it is a label: what it is worth is what the hold of that sum in a sandbox is worth. -/
noncomputable def Try.pinned : Pinned := { name := "ytbklojncaimneaa", sum := "e5ab901e80bcbe7bc366852582aaebe479b773f2a36fd64e2fc7d4403da77076", checked := Try.checked }
namespace Rows
def none {H : Type} : Left H := { results := [], args := [] }

/-- 'flywheellaw04.FnvSteps': WHATEVER THE INPUT: true; the input reads as it did. -/
def fnvStepsSpec : ChangeSpec := { name := "fnvSteps", fn := fun _ => fun
  | [d1, d2, d3] => { results := [.lit (.bool true)], args := [d1, d2, d3] }
  | _ => none }
def fnvStepsRow : OpenClaim := { program := "ytbklojncaimneaa", sum := "e5ab901e80bcbe7bc366852582aaebe479b773f2a36fd64e2fc7d4403da77076", func := "flywheel/flywheellaw04.FnvSteps", spec := "fnvSteps", apart := false }
def FnvStepsSaid : Prop := fnvStepsRow.holds Try.pinned (OpenSpec.ofChange fnvStepsSpec)

/-- ITS FALSE NEIGHBOUR: 'it returns false'. Refute it at one input. -/
def fnvStepsWrong : ChangeSpec := { name := "fnvSteps", fn := fun _ => fun
  | [d1, d2, d3] => { results := [.lit (.bool false)], args := [d1, d2, d3] }
  | _ => none }
def FnvStepsWrongFalsely : Prop := fnvStepsRow.holds Try.pinned (OpenSpec.ofChange fnvStepsWrong)

/-- 'flywheellaw04.FnvFolds': WHATEVER THE INPUT: true; the input reads as it did. -/
def fnvFoldsSpec : ChangeSpec := { name := "fnvFolds", fn := fun _ => fun
  | [d1, d2] => { results := [.lit (.bool true)], args := [d1, d2] }
  | _ => none }
def fnvFoldsRow : OpenClaim := { program := "ytbklojncaimneaa", sum := "e5ab901e80bcbe7bc366852582aaebe479b773f2a36fd64e2fc7d4403da77076", func := "flywheel/flywheellaw04.FnvFolds", spec := "fnvFolds", apart := false }
def FnvFoldsSaid : Prop := fnvFoldsRow.holds Try.pinned (OpenSpec.ofChange fnvFoldsSpec)

/-- ITS FALSE NEIGHBOUR: 'it returns false'. Refute it at one input. -/
def fnvFoldsWrong : ChangeSpec := { name := "fnvFolds", fn := fun _ => fun
  | [d1, d2] => { results := [.lit (.bool false)], args := [d1, d2] }
  | _ => none }
def FnvFoldsWrongFalsely : Prop := fnvFoldsRow.holds Try.pinned (OpenSpec.ofChange fnvFoldsWrong)

/-- 'flywheellaw01.SatNarrows': WHATEVER THE INPUT: true; the input reads as it did. -/
def satNarrowsSpec : ChangeSpec := { name := "satNarrows", fn := fun _ => fun
  | [d1, d2, d3] => { results := [.lit (.bool true)], args := [d1, d2, d3] }
  | _ => none }
def satNarrowsRow : OpenClaim := { program := "ytbklojncaimneaa", sum := "e5ab901e80bcbe7bc366852582aaebe479b773f2a36fd64e2fc7d4403da77076", func := "flywheel/flywheellaw01.SatNarrows", spec := "satNarrows", apart := false }
def SatNarrowsSaid : Prop := satNarrowsRow.holds Try.pinned (OpenSpec.ofChange satNarrowsSpec)

/-- ITS FALSE NEIGHBOUR: 'it returns false'. Refute it at one input. -/
def satNarrowsWrong : ChangeSpec := { name := "satNarrows", fn := fun _ => fun
  | [d1, d2, d3] => { results := [.lit (.bool false)], args := [d1, d2, d3] }
  | _ => none }
def SatNarrowsWrongFalsely : Prop := satNarrowsRow.holds Try.pinned (OpenSpec.ofChange satNarrowsWrong)

/-- 'flywheellaw04.FnvSums': WHATEVER THE INPUT: true; the input reads as it did. -/
def fnvSumsSpec : ChangeSpec := { name := "fnvSums", fn := fun _ => fun
  | [d1, d2] => { results := [.lit (.bool true)], args := [d1, d2] }
  | _ => none }
def fnvSumsRow : OpenClaim := { program := "ytbklojncaimneaa", sum := "e5ab901e80bcbe7bc366852582aaebe479b773f2a36fd64e2fc7d4403da77076", func := "flywheel/flywheellaw04.FnvSums", spec := "fnvSums", apart := false }
def FnvSumsSaid : Prop := fnvSumsRow.holds Try.pinned (OpenSpec.ofChange fnvSumsSpec)

/-- ITS FALSE NEIGHBOUR: 'it returns false'. Refute it at one input. -/
def fnvSumsWrong : ChangeSpec := { name := "fnvSums", fn := fun _ => fun
  | [d1, d2] => { results := [.lit (.bool false)], args := [d1, d2] }
  | _ => none }
def FnvSumsWrongFalsely : Prop := fnvSumsRow.holds Try.pinned (OpenSpec.ofChange fnvSumsWrong)

/-- 'flywheellaw01.SatDivides': WHATEVER THE INPUT: true; the input reads as it did. -/
def satDividesSpec : ChangeSpec := { name := "satDivides", fn := fun _ => fun
  | [d1, d2] => { results := [.lit (.bool true)], args := [d1, d2] }
  | _ => none }
def satDividesRow : OpenClaim := { program := "ytbklojncaimneaa", sum := "e5ab901e80bcbe7bc366852582aaebe479b773f2a36fd64e2fc7d4403da77076", func := "flywheel/flywheellaw01.SatDivides", spec := "satDivides", apart := false }
def SatDividesSaid : Prop := satDividesRow.holds Try.pinned (OpenSpec.ofChange satDividesSpec)

/-- ITS FALSE NEIGHBOUR: 'it returns false'. Refute it at one input. -/
def satDividesWrong : ChangeSpec := { name := "satDivides", fn := fun _ => fun
  | [d1, d2] => { results := [.lit (.bool false)], args := [d1, d2] }
  | _ => none }
def SatDividesWrongFalsely : Prop := satDividesRow.holds Try.pinned (OpenSpec.ofChange satDividesWrong)

/-- 'flywheellaw01.SatAdds': WHATEVER THE INPUT: true; the input reads as it did. -/
def satAddsSpec : ChangeSpec := { name := "satAdds", fn := fun _ => fun
  | [d1, d2] => { results := [.lit (.bool true)], args := [d1, d2] }
  | _ => none }
def satAddsRow : OpenClaim := { program := "ytbklojncaimneaa", sum := "e5ab901e80bcbe7bc366852582aaebe479b773f2a36fd64e2fc7d4403da77076", func := "flywheel/flywheellaw01.SatAdds", spec := "satAdds", apart := false }
def SatAddsSaid : Prop := satAddsRow.holds Try.pinned (OpenSpec.ofChange satAddsSpec)

/-- ITS FALSE NEIGHBOUR: 'it returns false'. Refute it at one input. -/
def satAddsWrong : ChangeSpec := { name := "satAdds", fn := fun _ => fun
  | [d1, d2] => { results := [.lit (.bool false)], args := [d1, d2] }
  | _ => none }
def SatAddsWrongFalsely : Prop := satAddsRow.holds Try.pinned (OpenSpec.ofChange satAddsWrong)

/-- 'flywheellaw05.RouteTells': WHATEVER THE INPUT: true; the input reads as it did. -/
def routeTellsSpec : ChangeSpec := { name := "routeTells", fn := fun _ => fun
  | [d1, d2] => { results := [.lit (.bool true)], args := [d1, d2] }
  | _ => none }
def routeTellsRow : OpenClaim := { program := "ytbklojncaimneaa", sum := "e5ab901e80bcbe7bc366852582aaebe479b773f2a36fd64e2fc7d4403da77076", func := "flywheel/flywheellaw05.RouteTells", spec := "routeTells", apart := false }
def RouteTellsSaid : Prop := routeTellsRow.holds Try.pinned (OpenSpec.ofChange routeTellsSpec)

/-- ITS FALSE NEIGHBOUR: 'it returns false'. Refute it at one input. -/
def routeTellsWrong : ChangeSpec := { name := "routeTells", fn := fun _ => fun
  | [d1, d2] => { results := [.lit (.bool false)], args := [d1, d2] }
  | _ => none }
def RouteTellsWrongFalsely : Prop := routeTellsRow.holds Try.pinned (OpenSpec.ofChange routeTellsWrong)

/-- 'flywheellaw01.SatSums': WHATEVER THE INPUT: true; the input reads as it did. -/
def satSumsSpec : ChangeSpec := { name := "satSums", fn := fun _ => fun
  | [d1, d2, d3, d4] => { results := [.lit (.bool true)], args := [d1, d2, d3, d4] }
  | _ => none }
def satSumsRow : OpenClaim := { program := "ytbklojncaimneaa", sum := "e5ab901e80bcbe7bc366852582aaebe479b773f2a36fd64e2fc7d4403da77076", func := "flywheel/flywheellaw01.SatSums", spec := "satSums", apart := false }
def SatSumsSaid : Prop := satSumsRow.holds Try.pinned (OpenSpec.ofChange satSumsSpec)

/-- ITS FALSE NEIGHBOUR: 'it returns false'. Refute it at one input. -/
def satSumsWrong : ChangeSpec := { name := "satSums", fn := fun _ => fun
  | [d1, d2, d3, d4] => { results := [.lit (.bool false)], args := [d1, d2, d3, d4] }
  | _ => none }
def SatSumsWrongFalsely : Prop := satSumsRow.holds Try.pinned (OpenSpec.ofChange satSumsWrong)

/-- 'flywheellaw01.SatMuls': WHATEVER THE INPUT: true; the input reads as it did. -/
def satMulsSpec : ChangeSpec := { name := "satMuls", fn := fun _ => fun
  | [d1, d2] => { results := [.lit (.bool true)], args := [d1, d2] }
  | _ => none }
def satMulsRow : OpenClaim := { program := "ytbklojncaimneaa", sum := "e5ab901e80bcbe7bc366852582aaebe479b773f2a36fd64e2fc7d4403da77076", func := "flywheel/flywheellaw01.SatMuls", spec := "satMuls", apart := false }
def SatMulsSaid : Prop := satMulsRow.holds Try.pinned (OpenSpec.ofChange satMulsSpec)

/-- ITS FALSE NEIGHBOUR: 'it returns false'. Refute it at one input. -/
def satMulsWrong : ChangeSpec := { name := "satMuls", fn := fun _ => fun
  | [d1, d2] => { results := [.lit (.bool false)], args := [d1, d2] }
  | _ => none }
def SatMulsWrongFalsely : Prop := satMulsRow.holds Try.pinned (OpenSpec.ofChange satMulsWrong)

/-- 'flywheellaw05.RouteSplits': WHATEVER THE INPUT: true; the input reads as it did. -/
def routeSplitsSpec : ChangeSpec := { name := "routeSplits", fn := fun _ => fun
  | [d1, d2] => { results := [.lit (.bool true)], args := [d1, d2] }
  | _ => none }
def routeSplitsRow : OpenClaim := { program := "ytbklojncaimneaa", sum := "e5ab901e80bcbe7bc366852582aaebe479b773f2a36fd64e2fc7d4403da77076", func := "flywheel/flywheellaw05.RouteSplits", spec := "routeSplits", unfollowed := true, recurses := true, apart := false }
def RouteSplitsSaid : Prop := routeSplitsRow.holds Try.pinned (OpenSpec.ofChange routeSplitsSpec)

/-- ITS FALSE NEIGHBOUR: 'it returns false'. Refute it at one input. -/
def routeSplitsWrong : ChangeSpec := { name := "routeSplits", fn := fun _ => fun
  | [d1, d2] => { results := [.lit (.bool false)], args := [d1, d2] }
  | _ => none }
def RouteSplitsWrongFalsely : Prop := routeSplitsRow.holds Try.pinned (OpenSpec.ofChange routeSplitsWrong)

/- THE SECOND FORM. 'bulk': how many values and letters a reading holds, each counted each time it is reached (what is shared counts as often as it is met; a slice's spare places count too). A statement '..UptoSaid' is the law's where the arguments, and the package variables that the reading takes, are together of bulk at most 1048576: NARROWER than '..Said'. Prove '..Said' where nothing that the law and all that it calls make is longer than what came in: it says more and counts as full. Else prove '..UptoSaid'. A law counts once. -/
mutual
def uptoBulk {H : Type} : DataW H → Nat
  | .lit (.string bytes) => bytes.length + 1
  | .lit _ => 1
  | .nil => 1
  | .ptr d => uptoBulk d + 1
  | .slice elems spare => uptoBulkAll elems + uptoBulkAll spare + 1
  | .agg parts => uptoBulkAll parts + 1
  | .iface _ d => uptoBulk d + 1
  | .map entries => uptoBulkEntries entries + 1
  | .held _ => 1
def uptoBulkAll {H : Type} : List (DataW H) → Nat
  | [] => 0
  | d :: r => uptoBulk d + uptoBulkAll r
def uptoBulkEntries {H : Type} : List (Lit × DataW H) → Nat
  | [] => 0
  | x :: r => uptoBulkEntry x + uptoBulkEntries r
def uptoBulkEntry {H : Type} : Lit × DataW H → Nat
  | (.string bytes, d) => bytes.length + uptoBulk d + 1
  | (_, d) => uptoBulk d + 1
 end
def uptoSmall : (H : Type) → List (DataW H) → Bool := fun _ ds => decide (uptoBulkAll ds ≤ 1048576)
def OpenSpec.upto (s : _root_.Go.ChangeSpec) : _root_.Go.OpenSpec := { _root_.Go.OpenSpec.ofChange s with cond := some uptoSmall }

/-- 'flywheellaw04.FnvSteps', WHERE WHAT IT READS IS OF BULK AT MOST 1048576: true; the input reads as it did. -/
def fnvStepsUptoRow : OpenClaim := { program := "ytbklojncaimneaa", sum := "e5ab901e80bcbe7bc366852582aaebe479b773f2a36fd64e2fc7d4403da77076", func := "flywheel/flywheellaw04.FnvSteps", spec := "fnvSteps", apart := false, narrowed := true }
def FnvStepsUptoSaid : Prop := fnvStepsUptoRow.holds Try.pinned (OpenSpec.upto fnvStepsSpec)

/-- 'flywheellaw04.FnvFolds', WHERE WHAT IT READS IS OF BULK AT MOST 1048576: true; the input reads as it did. -/
def fnvFoldsUptoRow : OpenClaim := { program := "ytbklojncaimneaa", sum := "e5ab901e80bcbe7bc366852582aaebe479b773f2a36fd64e2fc7d4403da77076", func := "flywheel/flywheellaw04.FnvFolds", spec := "fnvFolds", apart := false, narrowed := true }
def FnvFoldsUptoSaid : Prop := fnvFoldsUptoRow.holds Try.pinned (OpenSpec.upto fnvFoldsSpec)

/-- 'flywheellaw01.SatNarrows', WHERE WHAT IT READS IS OF BULK AT MOST 1048576: true; the input reads as it did. -/
def satNarrowsUptoRow : OpenClaim := { program := "ytbklojncaimneaa", sum := "e5ab901e80bcbe7bc366852582aaebe479b773f2a36fd64e2fc7d4403da77076", func := "flywheel/flywheellaw01.SatNarrows", spec := "satNarrows", apart := false, narrowed := true }
def SatNarrowsUptoSaid : Prop := satNarrowsUptoRow.holds Try.pinned (OpenSpec.upto satNarrowsSpec)

/-- 'flywheellaw04.FnvSums', WHERE WHAT IT READS IS OF BULK AT MOST 1048576: true; the input reads as it did. -/
def fnvSumsUptoRow : OpenClaim := { program := "ytbklojncaimneaa", sum := "e5ab901e80bcbe7bc366852582aaebe479b773f2a36fd64e2fc7d4403da77076", func := "flywheel/flywheellaw04.FnvSums", spec := "fnvSums", apart := false, narrowed := true }
def FnvSumsUptoSaid : Prop := fnvSumsUptoRow.holds Try.pinned (OpenSpec.upto fnvSumsSpec)

/-- 'flywheellaw01.SatDivides', WHERE WHAT IT READS IS OF BULK AT MOST 1048576: true; the input reads as it did. -/
def satDividesUptoRow : OpenClaim := { program := "ytbklojncaimneaa", sum := "e5ab901e80bcbe7bc366852582aaebe479b773f2a36fd64e2fc7d4403da77076", func := "flywheel/flywheellaw01.SatDivides", spec := "satDivides", apart := false, narrowed := true }
def SatDividesUptoSaid : Prop := satDividesUptoRow.holds Try.pinned (OpenSpec.upto satDividesSpec)

/-- 'flywheellaw01.SatAdds', WHERE WHAT IT READS IS OF BULK AT MOST 1048576: true; the input reads as it did. -/
def satAddsUptoRow : OpenClaim := { program := "ytbklojncaimneaa", sum := "e5ab901e80bcbe7bc366852582aaebe479b773f2a36fd64e2fc7d4403da77076", func := "flywheel/flywheellaw01.SatAdds", spec := "satAdds", apart := false, narrowed := true }
def SatAddsUptoSaid : Prop := satAddsUptoRow.holds Try.pinned (OpenSpec.upto satAddsSpec)

/-- 'flywheellaw05.RouteTells', WHERE WHAT IT READS IS OF BULK AT MOST 1048576: true; the input reads as it did. -/
def routeTellsUptoRow : OpenClaim := { program := "ytbklojncaimneaa", sum := "e5ab901e80bcbe7bc366852582aaebe479b773f2a36fd64e2fc7d4403da77076", func := "flywheel/flywheellaw05.RouteTells", spec := "routeTells", apart := false, narrowed := true }
def RouteTellsUptoSaid : Prop := routeTellsUptoRow.holds Try.pinned (OpenSpec.upto routeTellsSpec)

/-- 'flywheellaw01.SatSums', WHERE WHAT IT READS IS OF BULK AT MOST 1048576: true; the input reads as it did. -/
def satSumsUptoRow : OpenClaim := { program := "ytbklojncaimneaa", sum := "e5ab901e80bcbe7bc366852582aaebe479b773f2a36fd64e2fc7d4403da77076", func := "flywheel/flywheellaw01.SatSums", spec := "satSums", apart := false, narrowed := true }
def SatSumsUptoSaid : Prop := satSumsUptoRow.holds Try.pinned (OpenSpec.upto satSumsSpec)

/-- 'flywheellaw01.SatMuls', WHERE WHAT IT READS IS OF BULK AT MOST 1048576: true; the input reads as it did. -/
def satMulsUptoRow : OpenClaim := { program := "ytbklojncaimneaa", sum := "e5ab901e80bcbe7bc366852582aaebe479b773f2a36fd64e2fc7d4403da77076", func := "flywheel/flywheellaw01.SatMuls", spec := "satMuls", apart := false, narrowed := true }
def SatMulsUptoSaid : Prop := satMulsUptoRow.holds Try.pinned (OpenSpec.upto satMulsSpec)

/-- 'flywheellaw05.RouteSplits', WHERE WHAT IT READS IS OF BULK AT MOST 1048576: true; the input reads as it did. -/
def routeSplitsUptoRow : OpenClaim := { program := "ytbklojncaimneaa", sum := "e5ab901e80bcbe7bc366852582aaebe479b773f2a36fd64e2fc7d4403da77076", func := "flywheel/flywheellaw05.RouteSplits", spec := "routeSplits", unfollowed := true, recurses := true, apart := false, narrowed := true }
def RouteSplitsUptoSaid : Prop := routeSplitsUptoRow.holds Try.pinned (OpenSpec.upto routeSplitsSpec)

end Rows
end Go.Proofs.Ytbklojncaimneaa
