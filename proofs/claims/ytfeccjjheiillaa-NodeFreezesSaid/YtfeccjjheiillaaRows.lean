/-
  No cell of these rows narrows 'for every input' (looked for: loops, veiled, ifaces, maps, wideKeys, modest, calm, conditions, laid).
  DERIVED. THE GIVEN ROWS OF THIS SEAT. 8 by the template 'for every input the law returns true; each argument reads behind the call as it read before'; 0 by the template 'total and deterministic' (their statements: YtfeccjjheiillaaTotals.lean).
  GIVEN WITH THE SEED: the statements are not yours to turn. If you find one false, say at which input.
  Laid BY PROGRAM, IN A SANDBOX (cutbox-rows.mjs): the forced cells as the released guide's own fill.sh prints them over the translation 0f68bf2804abad51… (all of the seat's roots in one cut). By AI agents, Wed Nov 11 2026. No macro, syntax, notation, axiom, sorry.
-/
import Derived.Test.YtfeccjjheiillaaChecked
import GoSem.Claim
import GoSem.ClaimJoined
import GoSem.ClaimMapViews
import Derived.JoinedTies
import Derived.KernelRfl
namespace Go.Proofs.Ytfeccjjheiillaa
/- THE CELL 'sum', in the pinned program and in every row, IS THE sha256 OF THE DUMP (.gsa) THAT YtfeccjjheiillaaProg.lean LOADS. Nothing in Lean hashes anything: it is a label: what it is worth is what the hold of that sum in a sandbox is worth. -/
noncomputable def Try.pinned : Pinned := { name := "ytfeccjjheiillaa", sum := "0f68bf2804abad51e156de8ef8c87bea586fb3d3800659d71de29f17b51fd8a2", checked := Try.checked }
namespace Rows
def none {H : Type} : Left H := { results := [], args := [] }

/-- 'flywheellaw05.RouteSplits': WHATEVER THE INPUT: true; the input reads as it did. -/
def routeSplitsSpec : ChangeSpec := { name := "routeSplits", fn := fun _ => fun
  | [d1, d2] => { results := [.lit (.bool true)], args := [d1, d2] }
  | _ => none }
def routeSplitsRow : OpenClaim := { program := "ytfeccjjheiillaa", sum := "0f68bf2804abad51e156de8ef8c87bea586fb3d3800659d71de29f17b51fd8a2", func := "flywheel/flywheellaw05.RouteSplits", spec := "routeSplits", unfollowed := true, recurses := true, apart := false }
def RouteSplitsSaid : Prop := routeSplitsRow.holds Try.pinned (OpenSpec.ofChange routeSplitsSpec)

/-- ITS FALSE NEIGHBOUR: 'it returns false'. Refute it at one input. -/
def routeSplitsWrong : ChangeSpec := { name := "routeSplits", fn := fun _ => fun
  | [d1, d2] => { results := [.lit (.bool false)], args := [d1, d2] }
  | _ => none }
def RouteSplitsWrongFalsely : Prop := routeSplitsRow.holds Try.pinned (OpenSpec.ofChange routeSplitsWrong)

/-- 'flywheellaw08.SeriesAnyOrder': WHATEVER THE INPUT: true; the input reads as it did. -/
def seriesAnyOrderSpec : ChangeSpec := { name := "seriesAnyOrder", fn := fun _ => fun
  | [d1, d2, d3] => { results := [.lit (.bool true)], args := [d1, d2, d3] }
  | _ => none }
def seriesAnyOrderRow : OpenClaim := { program := "ytfeccjjheiillaa", sum := "0f68bf2804abad51e156de8ef8c87bea586fb3d3800659d71de29f17b51fd8a2", func := "flywheel/flywheellaw08.SeriesAnyOrder", spec := "seriesAnyOrder", inPlace := ["slices.overlaps[flywheel/api.Sample]"], unfollowed := true, recurses := true, apart := false }
def SeriesAnyOrderSaid : Prop := seriesAnyOrderRow.holds Try.pinned (OpenSpec.ofChange seriesAnyOrderSpec)

/-- ITS FALSE NEIGHBOUR: 'it returns false'. Refute it at one input. -/
def seriesAnyOrderWrong : ChangeSpec := { name := "seriesAnyOrder", fn := fun _ => fun
  | [d1, d2, d3] => { results := [.lit (.bool false)], args := [d1, d2, d3] }
  | _ => none }
def SeriesAnyOrderWrongFalsely : Prop := seriesAnyOrderRow.holds Try.pinned (OpenSpec.ofChange seriesAnyOrderWrong)

/-- 'flywheellaw52.TrendTells': WHATEVER THE INPUT: true; the input reads as it did. -/
def trendTellsSpec : ChangeSpec := { name := "trendTells", fn := fun _ => fun
  | [d1, d2, d3] => { results := [.lit (.bool true)], args := [d1, d2, d3] }
  | _ => none }
def trendTellsRow : OpenClaim := { program := "ytfeccjjheiillaa", sum := "0f68bf2804abad51e156de8ef8c87bea586fb3d3800659d71de29f17b51fd8a2", func := "flywheel/flywheellaw52.TrendTells", spec := "trendTells", inPlace := ["slices.overlaps[flywheel/api.Sample]", "math/bits.Add64"], unfollowed := true, recurses := true, apart := false }
def TrendTellsSaid : Prop := trendTellsRow.holds Try.pinned (OpenSpec.ofChange trendTellsSpec)

/-- ITS FALSE NEIGHBOUR: 'it returns false'. Refute it at one input. -/
def trendTellsWrong : ChangeSpec := { name := "trendTells", fn := fun _ => fun
  | [d1, d2, d3] => { results := [.lit (.bool false)], args := [d1, d2, d3] }
  | _ => none }
def TrendTellsWrongFalsely : Prop := trendTellsRow.holds Try.pinned (OpenSpec.ofChange trendTellsWrong)

/-- 'flywheellaw52.TrendFlat': WHATEVER THE INPUT: true; the input reads as it did. -/
def trendFlatSpec : ChangeSpec := { name := "trendFlat", fn := fun _ => fun
  | [d1, d2, d3] => { results := [.lit (.bool true)], args := [d1, d2, d3] }
  | _ => none }
def trendFlatRow : OpenClaim := { program := "ytfeccjjheiillaa", sum := "0f68bf2804abad51e156de8ef8c87bea586fb3d3800659d71de29f17b51fd8a2", func := "flywheel/flywheellaw52.TrendFlat", spec := "trendFlat", inPlace := ["slices.overlaps[flywheel/api.Sample]", "math/bits.Add64"], unfollowed := true, recurses := true, apart := false }
def TrendFlatSaid : Prop := trendFlatRow.holds Try.pinned (OpenSpec.ofChange trendFlatSpec)

/-- ITS FALSE NEIGHBOUR: 'it returns false'. Refute it at one input. -/
def trendFlatWrong : ChangeSpec := { name := "trendFlat", fn := fun _ => fun
  | [d1, d2, d3] => { results := [.lit (.bool false)], args := [d1, d2, d3] }
  | _ => none }
def TrendFlatWrongFalsely : Prop := trendFlatRow.holds Try.pinned (OpenSpec.ofChange trendFlatWrong)

/-- 'flywheellaw17.NodePlays': WHATEVER THE INPUT: true; the input reads as it did. -/
def nodePlaysSpec : ChangeSpec := { name := "nodePlays", fn := fun _ => fun
  | [d1, d2] => { results := [.lit (.bool true)], args := [d1, d2] }
  | _ => none }
def nodePlaysRow : OpenClaim := { program := "ytfeccjjheiillaa", sum := "0f68bf2804abad51e156de8ef8c87bea586fb3d3800659d71de29f17b51fd8a2", func := "flywheel/flywheellaw17.NodePlays", spec := "nodePlays", inPlace := ["slices.overlaps[flywheel/api.Sample]"], unfollowed := true, recurses := true, apart := false }
def NodePlaysSaid : Prop := nodePlaysRow.holds Try.pinned (OpenSpec.ofChange nodePlaysSpec)

/-- ITS FALSE NEIGHBOUR: 'it returns false'. Refute it at one input. -/
def nodePlaysWrong : ChangeSpec := { name := "nodePlays", fn := fun _ => fun
  | [d1, d2] => { results := [.lit (.bool false)], args := [d1, d2] }
  | _ => none }
def NodePlaysWrongFalsely : Prop := nodePlaysRow.holds Try.pinned (OpenSpec.ofChange nodePlaysWrong)

/-- 'flywheellaw17.NodeFreezes': WHATEVER THE INPUT: true; the input reads as it did. -/
def nodeFreezesSpec : ChangeSpec := { name := "nodeFreezes", fn := fun _ => fun
  | [d1, d2, d3] => { results := [.lit (.bool true)], args := [d1, d2, d3] }
  | _ => none }
def nodeFreezesRow : OpenClaim := { program := "ytfeccjjheiillaa", sum := "0f68bf2804abad51e156de8ef8c87bea586fb3d3800659d71de29f17b51fd8a2", func := "flywheel/flywheellaw17.NodeFreezes", spec := "nodeFreezes", inPlace := ["slices.overlaps[flywheel/api.Sample]"], unfollowed := true, recurses := true, apart := false }
def NodeFreezesSaid : Prop := nodeFreezesRow.holds Try.pinned (OpenSpec.ofChange nodeFreezesSpec)

/-- ITS FALSE NEIGHBOUR: 'it returns false'. Refute it at one input. -/
def nodeFreezesWrong : ChangeSpec := { name := "nodeFreezes", fn := fun _ => fun
  | [d1, d2, d3] => { results := [.lit (.bool false)], args := [d1, d2, d3] }
  | _ => none }
def NodeFreezesWrongFalsely : Prop := nodeFreezesRow.holds Try.pinned (OpenSpec.ofChange nodeFreezesWrong)

/-- 'flywheellaw17.NodeNone': WHATEVER THE INPUT: true; the input reads as it did. -/
def nodeNoneSpec : ChangeSpec := { name := "nodeNone", fn := fun _ => fun
  | [d] => { results := [.lit (.bool true)], args := [d] }
  | _ => none }
def nodeNoneRow : OpenClaim := { program := "ytfeccjjheiillaa", sum := "0f68bf2804abad51e156de8ef8c87bea586fb3d3800659d71de29f17b51fd8a2", func := "flywheel/flywheellaw17.NodeNone", spec := "nodeNone", inPlace := ["slices.overlaps[flywheel/api.Sample]"], unfollowed := true, recurses := true, apart := false }
def NodeNoneSaid : Prop := nodeNoneRow.holds Try.pinned (OpenSpec.ofChange nodeNoneSpec)

/-- ITS FALSE NEIGHBOUR: 'it returns false'. Refute it at one input. -/
def nodeNoneWrong : ChangeSpec := { name := "nodeNone", fn := fun _ => fun
  | [d] => { results := [.lit (.bool false)], args := [d] }
  | _ => none }
def NodeNoneWrongFalsely : Prop := nodeNoneRow.holds Try.pinned (OpenSpec.ofChange nodeNoneWrong)

/-- 'flywheellaw52.TrendAhead': WHATEVER THE INPUT: true; the input reads as it did. -/
def trendAheadSpec : ChangeSpec := { name := "trendAhead", fn := fun _ => fun
  | [d1, d2] => { results := [.lit (.bool true)], args := [d1, d2] }
  | _ => none }
def trendAheadRow : OpenClaim := { program := "ytfeccjjheiillaa", sum := "0f68bf2804abad51e156de8ef8c87bea586fb3d3800659d71de29f17b51fd8a2", func := "flywheel/flywheellaw52.TrendAhead", spec := "trendAhead", inPlace := ["slices.overlaps[flywheel/api.Sample]", "math/bits.Add64"], unfollowed := true, recurses := true, apart := false }
def TrendAheadSaid : Prop := trendAheadRow.holds Try.pinned (OpenSpec.ofChange trendAheadSpec)

/-- ITS FALSE NEIGHBOUR: 'it returns false'. Refute it at one input. -/
def trendAheadWrong : ChangeSpec := { name := "trendAhead", fn := fun _ => fun
  | [d1, d2] => { results := [.lit (.bool false)], args := [d1, d2] }
  | _ => none }
def TrendAheadWrongFalsely : Prop := trendAheadRow.holds Try.pinned (OpenSpec.ofChange trendAheadWrong)

/- THE SECOND FORM. 'bulk': how many values and letters a reading holds, each counted each time it is reached (what is shared counts as often as it is met; a slice's spare places count too). A statement '..UptoSaid' is the law's where the arguments, and the package variables that the reading takes, are together of bulk at most 1048576: NARROWER than '..Said'. Prove '..Said' where nothing that the law and all that it calls make is longer than what came in: it says more and counts as full. Else prove '..UptoSaid'. A law counts once. -/
mutual
def uptoBulk {H : Type} : DataW H → Nat
  | .lit (.string bytes) => bytes.length + 1
  | .lit _ => 1
  | .nil => 1
  | .ptr d => uptoBulk d + 1
  | .slice elems spare => uptoBulkAll elems + uptoBulkAll spare + 1
  | .agg parts => uptoBulkAll parts + 1
  | .iface _ d => uptoBulk d + 1
  | .map entries => uptoBulkEntries entries + 1
  | .held _ => 1
def uptoBulkAll {H : Type} : List (DataW H) → Nat
  | [] => 0
  | d :: r => uptoBulk d + uptoBulkAll r
def uptoBulkEntries {H : Type} : List (Lit × DataW H) → Nat
  | [] => 0
  | x :: r => uptoBulkEntry x + uptoBulkEntries r
def uptoBulkEntry {H : Type} : Lit × DataW H → Nat
  | (.string bytes, d) => bytes.length + uptoBulk d + 1
  | (_, d) => uptoBulk d + 1
 end
def uptoSmall : (H : Type) → List (DataW H) → Bool := fun _ ds => decide (uptoBulkAll ds ≤ 1048576)
def OpenSpec.upto (s : _root_.Go.ChangeSpec) : _root_.Go.OpenSpec := { _root_.Go.OpenSpec.ofChange s with cond := some uptoSmall }

/-- 'flywheellaw05.RouteSplits', WHERE WHAT IT READS IS OF BULK AT MOST 1048576: true; the input reads as it did. -/
def routeSplitsUptoRow : OpenClaim := { program := "ytfeccjjheiillaa", sum := "0f68bf2804abad51e156de8ef8c87bea586fb3d3800659d71de29f17b51fd8a2", func := "flywheel/flywheellaw05.RouteSplits", spec := "routeSplits", unfollowed := true, recurses := true, apart := false, narrowed := true }
def RouteSplitsUptoSaid : Prop := routeSplitsUptoRow.holds Try.pinned (OpenSpec.upto routeSplitsSpec)

/-- 'flywheellaw08.SeriesAnyOrder', WHERE WHAT IT READS IS OF BULK AT MOST 1048576: true; the input reads as it did. -/
def seriesAnyOrderUptoRow : OpenClaim := { program := "ytfeccjjheiillaa", sum := "0f68bf2804abad51e156de8ef8c87bea586fb3d3800659d71de29f17b51fd8a2", func := "flywheel/flywheellaw08.SeriesAnyOrder", spec := "seriesAnyOrder", inPlace := ["slices.overlaps[flywheel/api.Sample]"], unfollowed := true, recurses := true, apart := false, narrowed := true }
def SeriesAnyOrderUptoSaid : Prop := seriesAnyOrderUptoRow.holds Try.pinned (OpenSpec.upto seriesAnyOrderSpec)

/-- 'flywheellaw52.TrendTells', WHERE WHAT IT READS IS OF BULK AT MOST 1048576: true; the input reads as it did. -/
def trendTellsUptoRow : OpenClaim := { program := "ytfeccjjheiillaa", sum := "0f68bf2804abad51e156de8ef8c87bea586fb3d3800659d71de29f17b51fd8a2", func := "flywheel/flywheellaw52.TrendTells", spec := "trendTells", inPlace := ["slices.overlaps[flywheel/api.Sample]", "math/bits.Add64"], unfollowed := true, recurses := true, apart := false, narrowed := true }
def TrendTellsUptoSaid : Prop := trendTellsUptoRow.holds Try.pinned (OpenSpec.upto trendTellsSpec)

/-- 'flywheellaw52.TrendFlat', WHERE WHAT IT READS IS OF BULK AT MOST 1048576: true; the input reads as it did. -/
def trendFlatUptoRow : OpenClaim := { program := "ytfeccjjheiillaa", sum := "0f68bf2804abad51e156de8ef8c87bea586fb3d3800659d71de29f17b51fd8a2", func := "flywheel/flywheellaw52.TrendFlat", spec := "trendFlat", inPlace := ["slices.overlaps[flywheel/api.Sample]", "math/bits.Add64"], unfollowed := true, recurses := true, apart := false, narrowed := true }
def TrendFlatUptoSaid : Prop := trendFlatUptoRow.holds Try.pinned (OpenSpec.upto trendFlatSpec)

/-- 'flywheellaw17.NodePlays', WHERE WHAT IT READS IS OF BULK AT MOST 1048576: true; the input reads as it did. -/
def nodePlaysUptoRow : OpenClaim := { program := "ytfeccjjheiillaa", sum := "0f68bf2804abad51e156de8ef8c87bea586fb3d3800659d71de29f17b51fd8a2", func := "flywheel/flywheellaw17.NodePlays", spec := "nodePlays", inPlace := ["slices.overlaps[flywheel/api.Sample]"], unfollowed := true, recurses := true, apart := false, narrowed := true }
def NodePlaysUptoSaid : Prop := nodePlaysUptoRow.holds Try.pinned (OpenSpec.upto nodePlaysSpec)

/-- 'flywheellaw17.NodeFreezes', WHERE WHAT IT READS IS OF BULK AT MOST 1048576: true; the input reads as it did. -/
def nodeFreezesUptoRow : OpenClaim := { program := "ytfeccjjheiillaa", sum := "0f68bf2804abad51e156de8ef8c87bea586fb3d3800659d71de29f17b51fd8a2", func := "flywheel/flywheellaw17.NodeFreezes", spec := "nodeFreezes", inPlace := ["slices.overlaps[flywheel/api.Sample]"], unfollowed := true, recurses := true, apart := false, narrowed := true }
def NodeFreezesUptoSaid : Prop := nodeFreezesUptoRow.holds Try.pinned (OpenSpec.upto nodeFreezesSpec)

/-- 'flywheellaw17.NodeNone', WHERE WHAT IT READS IS OF BULK AT MOST 1048576: true; the input reads as it did. -/
def nodeNoneUptoRow : OpenClaim := { program := "ytfeccjjheiillaa", sum := "0f68bf2804abad51e156de8ef8c87bea586fb3d3800659d71de29f17b51fd8a2", func := "flywheel/flywheellaw17.NodeNone", spec := "nodeNone", inPlace := ["slices.overlaps[flywheel/api.Sample]"], unfollowed := true, recurses := true, apart := false, narrowed := true }
def NodeNoneUptoSaid : Prop := nodeNoneUptoRow.holds Try.pinned (OpenSpec.upto nodeNoneSpec)

/-- 'flywheellaw52.TrendAhead', WHERE WHAT IT READS IS OF BULK AT MOST 1048576: true; the input reads as it did. -/
def trendAheadUptoRow : OpenClaim := { program := "ytfeccjjheiillaa", sum := "0f68bf2804abad51e156de8ef8c87bea586fb3d3800659d71de29f17b51fd8a2", func := "flywheel/flywheellaw52.TrendAhead", spec := "trendAhead", inPlace := ["slices.overlaps[flywheel/api.Sample]", "math/bits.Add64"], unfollowed := true, recurses := true, apart := false, narrowed := true }
def TrendAheadUptoSaid : Prop := trendAheadUptoRow.holds Try.pinned (OpenSpec.upto trendAheadSpec)

end Rows
end Go.Proofs.Ytfeccjjheiillaa
