/-
  No cell of these rows narrows 'for every input' (looked for: loops, veiled, ifaces, maps, wideKeys, modest, calm, conditions, laid).
  DERIVED. THE GIVEN ROWS OF THIS SEAT. 11 by the template 'for every input the law returns true; each argument reads behind the call as it read before'; 0 by the template 'total and deterministic' (their statements: YtkjmacdekfbfhaaTotals.lean).
  GIVEN WITH THE SEED: the statements are not yours to turn. If you find one false, say at which input.
  Laid BY PROGRAM, IN A SANDBOX (cutbox-rows.mjs): the forced cells as the released guide's own fill.sh prints them over the translation a5a3b73c8b04b4c1… (all of the seat's roots in one cut). By AI agents, Wed Nov 11 2026. No macro, syntax, notation, axiom, sorry.
-/
import Derived.Test.YtkjmacdekfbfhaaChecked
import GoSem.Claim
import GoSem.ClaimJoined
import GoSem.ClaimMapViews
import Derived.JoinedTies
import Derived.KernelRfl
namespace Go.Proofs.Ytkjmacdekfbfhaa
/- THE CELL 'sum', in the pinned program and in every row, IS THE sha256 OF THE DUMP (.gsa) THAT YtkjmacdekfbfhaaProg.lean LOADS. Nothing in Lean hashes anything: it is a label: what it is worth is what the hold of that sum in a sandbox is worth. -/
noncomputable def Try.pinned : Pinned := { name := "ytkjmacdekfbfhaa", sum := "a5a3b73c8b04b4c10eb6cf5f7720e56aa40a206d6965fa95942403ff3a884c32", checked := Try.checked }
namespace Rows
def none {H : Type} : Left H := { results := [], args := [] }

/-- 'flywheellaw29.CallsOps': WHATEVER THE INPUT: true; the input reads as it did. -/
def callsOpsSpec : ChangeSpec := { name := "callsOps", fn := fun _ => fun
  | [d1, d2] => { results := [.lit (.bool true)], args := [d1, d2] }
  | _ => none }
def callsOpsRow : OpenClaim := { program := "ytkjmacdekfbfhaa", sum := "a5a3b73c8b04b4c10eb6cf5f7720e56aa40a206d6965fa95942403ff3a884c32", func := "flywheel/flywheellaw29.CallsOps", spec := "callsOps", apart := false }
def CallsOpsSaid : Prop := callsOpsRow.holds Try.pinned (OpenSpec.ofChange callsOpsSpec)

/-- ITS FALSE NEIGHBOUR: 'it returns false'. Refute it at one input. -/
def callsOpsWrong : ChangeSpec := { name := "callsOps", fn := fun _ => fun
  | [d1, d2] => { results := [.lit (.bool false)], args := [d1, d2] }
  | _ => none }
def CallsOpsWrongFalsely : Prop := callsOpsRow.holds Try.pinned (OpenSpec.ofChange callsOpsWrong)

/-- 'flywheellaw29.CallsRising': WHATEVER THE INPUT: true; the input reads as it did. -/
def callsRisingSpec : ChangeSpec := { name := "callsRising", fn := fun _ => fun
  | [d] => { results := [.lit (.bool true)], args := [d] }
  | _ => none }
def callsRisingRow : OpenClaim := { program := "ytkjmacdekfbfhaa", sum := "a5a3b73c8b04b4c10eb6cf5f7720e56aa40a206d6965fa95942403ff3a884c32", func := "flywheel/flywheellaw29.CallsRising", spec := "callsRising", apart := false }
def CallsRisingSaid : Prop := callsRisingRow.holds Try.pinned (OpenSpec.ofChange callsRisingSpec)

/-- ITS FALSE NEIGHBOUR: 'it returns false'. Refute it at one input. -/
def callsRisingWrong : ChangeSpec := { name := "callsRising", fn := fun _ => fun
  | [d] => { results := [.lit (.bool false)], args := [d] }
  | _ => none }
def CallsRisingWrongFalsely : Prop := callsRisingRow.holds Try.pinned (OpenSpec.ofChange callsRisingWrong)

/-- 'flywheellaw29.CallsCheck': WHATEVER THE INPUT: true; the input reads as it did. -/
def callsCheckSpec : ChangeSpec := { name := "callsCheck", fn := fun _ => fun
  | [d1, d2, d3, d4] => { results := [.lit (.bool true)], args := [d1, d2, d3, d4] }
  | _ => none }
def callsCheckRow : OpenClaim := { program := "ytkjmacdekfbfhaa", sum := "a5a3b73c8b04b4c10eb6cf5f7720e56aa40a206d6965fa95942403ff3a884c32", func := "flywheel/flywheellaw29.CallsCheck", spec := "callsCheck", apart := false }
def CallsCheckSaid : Prop := callsCheckRow.holds Try.pinned (OpenSpec.ofChange callsCheckSpec)

/-- ITS FALSE NEIGHBOUR: 'it returns false'. Refute it at one input. -/
def callsCheckWrong : ChangeSpec := { name := "callsCheck", fn := fun _ => fun
  | [d1, d2, d3, d4] => { results := [.lit (.bool false)], args := [d1, d2, d3, d4] }
  | _ => none }
def CallsCheckWrongFalsely : Prop := callsCheckRow.holds Try.pinned (OpenSpec.ofChange callsCheckWrong)

/-- 'flywheellaw10.RankNth': WHATEVER THE INPUT: true; the input reads as it did. -/
def rankNthSpec : ChangeSpec := { name := "rankNth", fn := fun _ => fun
  | [d1, d2, d3] => { results := [.lit (.bool true)], args := [d1, d2, d3] }
  | _ => none }
def rankNthRow : OpenClaim := { program := "ytkjmacdekfbfhaa", sum := "a5a3b73c8b04b4c10eb6cf5f7720e56aa40a206d6965fa95942403ff3a884c32", func := "flywheel/flywheellaw10.RankNth", spec := "rankNth", recurses := true, apart := false }
def RankNthSaid : Prop := rankNthRow.holds Try.pinned (OpenSpec.ofChange rankNthSpec)

/-- ITS FALSE NEIGHBOUR: 'it returns false'. Refute it at one input. -/
def rankNthWrong : ChangeSpec := { name := "rankNth", fn := fun _ => fun
  | [d1, d2, d3] => { results := [.lit (.bool false)], args := [d1, d2, d3] }
  | _ => none }
def RankNthWrongFalsely : Prop := rankNthRow.holds Try.pinned (OpenSpec.ofChange rankNthWrong)

/-- 'flywheellaw10.RankShares': WHATEVER THE INPUT: true; the input reads as it did. -/
def rankSharesSpec : ChangeSpec := { name := "rankShares", fn := fun _ => fun
  | [d1, d2] => { results := [.lit (.bool true)], args := [d1, d2] }
  | _ => none }
def rankSharesRow : OpenClaim := { program := "ytkjmacdekfbfhaa", sum := "a5a3b73c8b04b4c10eb6cf5f7720e56aa40a206d6965fa95942403ff3a884c32", func := "flywheel/flywheellaw10.RankShares", spec := "rankShares", recurses := true, apart := false }
def RankSharesSaid : Prop := rankSharesRow.holds Try.pinned (OpenSpec.ofChange rankSharesSpec)

/-- ITS FALSE NEIGHBOUR: 'it returns false'. Refute it at one input. -/
def rankSharesWrong : ChangeSpec := { name := "rankShares", fn := fun _ => fun
  | [d1, d2] => { results := [.lit (.bool false)], args := [d1, d2] }
  | _ => none }
def RankSharesWrongFalsely : Prop := rankSharesRow.holds Try.pinned (OpenSpec.ofChange rankSharesWrong)

/-- 'flywheellaw46.BlendMerges': WHATEVER THE INPUT: true; the input reads as it did. -/
def blendMergesSpec : ChangeSpec := { name := "blendMerges", fn := fun _ => fun
  | [d1, d2, d3] => { results := [.lit (.bool true)], args := [d1, d2, d3] }
  | _ => none }
def blendMergesRow : OpenClaim := { program := "ytkjmacdekfbfhaa", sum := "a5a3b73c8b04b4c10eb6cf5f7720e56aa40a206d6965fa95942403ff3a884c32", func := "flywheel/flywheellaw46.BlendMerges", spec := "blendMerges", inPlace := ["math/bits.Add64"], unfollowed := true, recurses := true, apart := false }
def BlendMergesSaid : Prop := blendMergesRow.holds Try.pinned (OpenSpec.ofChange blendMergesSpec)

/-- ITS FALSE NEIGHBOUR: 'it returns false'. Refute it at one input. -/
def blendMergesWrong : ChangeSpec := { name := "blendMerges", fn := fun _ => fun
  | [d1, d2, d3] => { results := [.lit (.bool false)], args := [d1, d2, d3] }
  | _ => none }
def BlendMergesWrongFalsely : Prop := blendMergesRow.holds Try.pinned (OpenSpec.ofChange blendMergesWrong)

/-- 'flywheellaw46.BlendThins': WHATEVER THE INPUT: true; the input reads as it did. -/
def blendThinsSpec : ChangeSpec := { name := "blendThins", fn := fun _ => fun
  | [d1, d2, d3] => { results := [.lit (.bool true)], args := [d1, d2, d3] }
  | _ => none }
def blendThinsRow : OpenClaim := { program := "ytkjmacdekfbfhaa", sum := "a5a3b73c8b04b4c10eb6cf5f7720e56aa40a206d6965fa95942403ff3a884c32", func := "flywheel/flywheellaw46.BlendThins", spec := "blendThins", inPlace := ["math/bits.Add64"], unfollowed := true, recurses := true, apart := false }
def BlendThinsSaid : Prop := blendThinsRow.holds Try.pinned (OpenSpec.ofChange blendThinsSpec)

/-- ITS FALSE NEIGHBOUR: 'it returns false'. Refute it at one input. -/
def blendThinsWrong : ChangeSpec := { name := "blendThins", fn := fun _ => fun
  | [d1, d2, d3] => { results := [.lit (.bool false)], args := [d1, d2, d3] }
  | _ => none }
def BlendThinsWrongFalsely : Prop := blendThinsRow.holds Try.pinned (OpenSpec.ofChange blendThinsWrong)

/-- 'flywheellaw10.RankTops': WHATEVER THE INPUT: true; the input reads as it did. -/
def rankTopsSpec : ChangeSpec := { name := "rankTops", fn := fun _ => fun
  | [d1, d2] => { results := [.lit (.bool true)], args := [d1, d2] }
  | _ => none }
def rankTopsRow : OpenClaim := { program := "ytkjmacdekfbfhaa", sum := "a5a3b73c8b04b4c10eb6cf5f7720e56aa40a206d6965fa95942403ff3a884c32", func := "flywheel/flywheellaw10.RankTops", spec := "rankTops", unfollowed := true, recurses := true, apart := false }
def RankTopsSaid : Prop := rankTopsRow.holds Try.pinned (OpenSpec.ofChange rankTopsSpec)

/-- ITS FALSE NEIGHBOUR: 'it returns false'. Refute it at one input. -/
def rankTopsWrong : ChangeSpec := { name := "rankTops", fn := fun _ => fun
  | [d1, d2] => { results := [.lit (.bool false)], args := [d1, d2] }
  | _ => none }
def RankTopsWrongFalsely : Prop := rankTopsRow.holds Try.pinned (OpenSpec.ofChange rankTopsWrong)

/-- 'flywheellaw20.HandleNone': WHATEVER THE INPUT: true; the input reads as it did. -/
def handleNoneSpec : ChangeSpec := { name := "handleNone", fn := fun _ => fun
  | [d] => { results := [.lit (.bool true)], args := [d] }
  | _ => none }
def handleNoneRow : OpenClaim := { program := "ytkjmacdekfbfhaa", sum := "a5a3b73c8b04b4c10eb6cf5f7720e56aa40a206d6965fa95942403ff3a884c32", func := "flywheel/flywheellaw20.HandleNone", spec := "handleNone", unfollowed := true, recurses := true, apart := false }
def HandleNoneSaid : Prop := handleNoneRow.holds Try.pinned (OpenSpec.ofChange handleNoneSpec)

/-- ITS FALSE NEIGHBOUR: 'it returns false'. Refute it at one input. -/
def handleNoneWrong : ChangeSpec := { name := "handleNone", fn := fun _ => fun
  | [d] => { results := [.lit (.bool false)], args := [d] }
  | _ => none }
def HandleNoneWrongFalsely : Prop := handleNoneRow.holds Try.pinned (OpenSpec.ofChange handleNoneWrong)

/-- 'flywheellaw20.HandlePlays': WHATEVER THE INPUT: true; the input reads as it did. -/
def handlePlaysSpec : ChangeSpec := { name := "handlePlays", fn := fun _ => fun
  | [d] => { results := [.lit (.bool true)], args := [d] }
  | _ => none }
def handlePlaysRow : OpenClaim := { program := "ytkjmacdekfbfhaa", sum := "a5a3b73c8b04b4c10eb6cf5f7720e56aa40a206d6965fa95942403ff3a884c32", func := "flywheel/flywheellaw20.HandlePlays", spec := "handlePlays", unfollowed := true, recurses := true, apart := false }
def HandlePlaysSaid : Prop := handlePlaysRow.holds Try.pinned (OpenSpec.ofChange handlePlaysSpec)

/-- ITS FALSE NEIGHBOUR: 'it returns false'. Refute it at one input. -/
def handlePlaysWrong : ChangeSpec := { name := "handlePlays", fn := fun _ => fun
  | [d] => { results := [.lit (.bool false)], args := [d] }
  | _ => none }
def HandlePlaysWrongFalsely : Prop := handlePlaysRow.holds Try.pinned (OpenSpec.ofChange handlePlaysWrong)

/-- 'flywheellaw46.BlendFills': WHATEVER THE INPUT: true; the input reads as it did. -/
def blendFillsSpec : ChangeSpec := { name := "blendFills", fn := fun _ => fun
  | [d1, d2, d3, d4] => { results := [.lit (.bool true)], args := [d1, d2, d3, d4] }
  | _ => none }
def blendFillsRow : OpenClaim := { program := "ytkjmacdekfbfhaa", sum := "a5a3b73c8b04b4c10eb6cf5f7720e56aa40a206d6965fa95942403ff3a884c32", func := "flywheel/flywheellaw46.BlendFills", spec := "blendFills", inPlace := ["math/bits.Add64"], unfollowed := true, recurses := true, apart := false }
def BlendFillsSaid : Prop := blendFillsRow.holds Try.pinned (OpenSpec.ofChange blendFillsSpec)

/-- ITS FALSE NEIGHBOUR: 'it returns false'. Refute it at one input. -/
def blendFillsWrong : ChangeSpec := { name := "blendFills", fn := fun _ => fun
  | [d1, d2, d3, d4] => { results := [.lit (.bool false)], args := [d1, d2, d3, d4] }
  | _ => none }
def BlendFillsWrongFalsely : Prop := blendFillsRow.holds Try.pinned (OpenSpec.ofChange blendFillsWrong)

/- THE SECOND FORM. 'bulk': how many values and letters a reading holds, each counted each time it is reached (what is shared counts as often as it is met; a slice's spare places count too). A statement '..UptoSaid' is the law's where the arguments, and the package variables that the reading takes, are together of bulk at most 1048576: NARROWER than '..Said'. Prove '..Said' where nothing that the law and all that it calls make is longer than what came in: it says more and counts as full. Else prove '..UptoSaid'. A law counts once. -/
mutual
def uptoBulk {H : Type} : DataW H → Nat
  | .lit (.string bytes) => bytes.length + 1
  | .lit _ => 1
  | .nil => 1
  | .ptr d => uptoBulk d + 1
  | .slice elems spare => uptoBulkAll elems + uptoBulkAll spare + 1
  | .agg parts => uptoBulkAll parts + 1
  | .iface _ d => uptoBulk d + 1
  | .map entries => uptoBulkEntries entries + 1
  | .held _ => 1
def uptoBulkAll {H : Type} : List (DataW H) → Nat
  | [] => 0
  | d :: r => uptoBulk d + uptoBulkAll r
def uptoBulkEntries {H : Type} : List (Lit × DataW H) → Nat
  | [] => 0
  | x :: r => uptoBulkEntry x + uptoBulkEntries r
def uptoBulkEntry {H : Type} : Lit × DataW H → Nat
  | (.string bytes, d) => bytes.length + uptoBulk d + 1
  | (_, d) => uptoBulk d + 1
 end
def uptoSmall : (H : Type) → List (DataW H) → Bool := fun _ ds => decide (uptoBulkAll ds ≤ 1048576)
def OpenSpec.upto (s : _root_.Go.ChangeSpec) : _root_.Go.OpenSpec := { _root_.Go.OpenSpec.ofChange s with cond := some uptoSmall }

/-- 'flywheellaw29.CallsOps', WHERE WHAT IT READS IS OF BULK AT MOST 1048576: true; the input reads as it did. -/
def callsOpsUptoRow : OpenClaim := { program := "ytkjmacdekfbfhaa", sum := "a5a3b73c8b04b4c10eb6cf5f7720e56aa40a206d6965fa95942403ff3a884c32", func := "flywheel/flywheellaw29.CallsOps", spec := "callsOps", apart := false, narrowed := true }
def CallsOpsUptoSaid : Prop := callsOpsUptoRow.holds Try.pinned (OpenSpec.upto callsOpsSpec)

/-- 'flywheellaw29.CallsRising', WHERE WHAT IT READS IS OF BULK AT MOST 1048576: true; the input reads as it did. -/
def callsRisingUptoRow : OpenClaim := { program := "ytkjmacdekfbfhaa", sum := "a5a3b73c8b04b4c10eb6cf5f7720e56aa40a206d6965fa95942403ff3a884c32", func := "flywheel/flywheellaw29.CallsRising", spec := "callsRising", apart := false, narrowed := true }
def CallsRisingUptoSaid : Prop := callsRisingUptoRow.holds Try.pinned (OpenSpec.upto callsRisingSpec)

/-- 'flywheellaw29.CallsCheck', WHERE WHAT IT READS IS OF BULK AT MOST 1048576: true; the input reads as it did. -/
def callsCheckUptoRow : OpenClaim := { program := "ytkjmacdekfbfhaa", sum := "a5a3b73c8b04b4c10eb6cf5f7720e56aa40a206d6965fa95942403ff3a884c32", func := "flywheel/flywheellaw29.CallsCheck", spec := "callsCheck", apart := false, narrowed := true }
def CallsCheckUptoSaid : Prop := callsCheckUptoRow.holds Try.pinned (OpenSpec.upto callsCheckSpec)

/-- 'flywheellaw10.RankNth', WHERE WHAT IT READS IS OF BULK AT MOST 1048576: true; the input reads as it did. -/
def rankNthUptoRow : OpenClaim := { program := "ytkjmacdekfbfhaa", sum := "a5a3b73c8b04b4c10eb6cf5f7720e56aa40a206d6965fa95942403ff3a884c32", func := "flywheel/flywheellaw10.RankNth", spec := "rankNth", recurses := true, apart := false, narrowed := true }
def RankNthUptoSaid : Prop := rankNthUptoRow.holds Try.pinned (OpenSpec.upto rankNthSpec)

/-- 'flywheellaw10.RankShares', WHERE WHAT IT READS IS OF BULK AT MOST 1048576: true; the input reads as it did. -/
def rankSharesUptoRow : OpenClaim := { program := "ytkjmacdekfbfhaa", sum := "a5a3b73c8b04b4c10eb6cf5f7720e56aa40a206d6965fa95942403ff3a884c32", func := "flywheel/flywheellaw10.RankShares", spec := "rankShares", recurses := true, apart := false, narrowed := true }
def RankSharesUptoSaid : Prop := rankSharesUptoRow.holds Try.pinned (OpenSpec.upto rankSharesSpec)

/-- 'flywheellaw46.BlendMerges', WHERE WHAT IT READS IS OF BULK AT MOST 1048576: true; the input reads as it did. -/
def blendMergesUptoRow : OpenClaim := { program := "ytkjmacdekfbfhaa", sum := "a5a3b73c8b04b4c10eb6cf5f7720e56aa40a206d6965fa95942403ff3a884c32", func := "flywheel/flywheellaw46.BlendMerges", spec := "blendMerges", inPlace := ["math/bits.Add64"], unfollowed := true, recurses := true, apart := false, narrowed := true }
def BlendMergesUptoSaid : Prop := blendMergesUptoRow.holds Try.pinned (OpenSpec.upto blendMergesSpec)

/-- 'flywheellaw46.BlendThins', WHERE WHAT IT READS IS OF BULK AT MOST 1048576: true; the input reads as it did. -/
def blendThinsUptoRow : OpenClaim := { program := "ytkjmacdekfbfhaa", sum := "a5a3b73c8b04b4c10eb6cf5f7720e56aa40a206d6965fa95942403ff3a884c32", func := "flywheel/flywheellaw46.BlendThins", spec := "blendThins", inPlace := ["math/bits.Add64"], unfollowed := true, recurses := true, apart := false, narrowed := true }
def BlendThinsUptoSaid : Prop := blendThinsUptoRow.holds Try.pinned (OpenSpec.upto blendThinsSpec)

/-- 'flywheellaw10.RankTops', WHERE WHAT IT READS IS OF BULK AT MOST 1048576: true; the input reads as it did. -/
def rankTopsUptoRow : OpenClaim := { program := "ytkjmacdekfbfhaa", sum := "a5a3b73c8b04b4c10eb6cf5f7720e56aa40a206d6965fa95942403ff3a884c32", func := "flywheel/flywheellaw10.RankTops", spec := "rankTops", unfollowed := true, recurses := true, apart := false, narrowed := true }
def RankTopsUptoSaid : Prop := rankTopsUptoRow.holds Try.pinned (OpenSpec.upto rankTopsSpec)

/-- 'flywheellaw20.HandleNone', WHERE WHAT IT READS IS OF BULK AT MOST 1048576: true; the input reads as it did. -/
def handleNoneUptoRow : OpenClaim := { program := "ytkjmacdekfbfhaa", sum := "a5a3b73c8b04b4c10eb6cf5f7720e56aa40a206d6965fa95942403ff3a884c32", func := "flywheel/flywheellaw20.HandleNone", spec := "handleNone", unfollowed := true, recurses := true, apart := false, narrowed := true }
def HandleNoneUptoSaid : Prop := handleNoneUptoRow.holds Try.pinned (OpenSpec.upto handleNoneSpec)

/-- 'flywheellaw20.HandlePlays', WHERE WHAT IT READS IS OF BULK AT MOST 1048576: true; the input reads as it did. -/
def handlePlaysUptoRow : OpenClaim := { program := "ytkjmacdekfbfhaa", sum := "a5a3b73c8b04b4c10eb6cf5f7720e56aa40a206d6965fa95942403ff3a884c32", func := "flywheel/flywheellaw20.HandlePlays", spec := "handlePlays", unfollowed := true, recurses := true, apart := false, narrowed := true }
def HandlePlaysUptoSaid : Prop := handlePlaysUptoRow.holds Try.pinned (OpenSpec.upto handlePlaysSpec)

/-- 'flywheellaw46.BlendFills', WHERE WHAT IT READS IS OF BULK AT MOST 1048576: true; the input reads as it did. -/
def blendFillsUptoRow : OpenClaim := { program := "ytkjmacdekfbfhaa", sum := "a5a3b73c8b04b4c10eb6cf5f7720e56aa40a206d6965fa95942403ff3a884c32", func := "flywheel/flywheellaw46.BlendFills", spec := "blendFills", inPlace := ["math/bits.Add64"], unfollowed := true, recurses := true, apart := false, narrowed := true }
def BlendFillsUptoSaid : Prop := blendFillsUptoRow.holds Try.pinned (OpenSpec.upto blendFillsSpec)

end Rows
end Go.Proofs.Ytkjmacdekfbfhaa
