/- decide.latest, Now, why; history.Highest; steady.Of; and the reference's. -/
import Derived.Test.YtkjmacdekfbfhaaWin2
import Derived.Test.YtkjmacdekfbfhaaTrial
import Derived.Test.YtkjmacdekfbfhaaNear
namespace Go.Proofs.Ytkjmacdekfbfhaa
open Go.RowKit
set_option linter.unusedSimpArgs false
set_option linter.unusedVariables false
set_option maxHeartbeats 4000000
set_option maxRecDepth 100000
def latestq (l : List Smp) : Int := maxq (l.map Smp.tick)
theorem latest_next {l : List Smp} {k : Nat} {x : Smp} (h : l[k]? = some x) (hk : 1 ≤ k) : latestq (l.take (k + 1)) = max (latestq (l.take k)) x.tick := by
  unfold latestq
  rw [List.map_take, List.map_take]
  exact maxq_next (by rw [List.getElem?_map, h]; rfl) hk
theorem latest_one {l : List Smp} {x : Smp} (h : l[0]? = some x) : latestq (l.take 1) = x.tick := by
  unfold latestq
  rw [List.map_take]
  exact maxq_one (by rw [List.getElem?_map, h]; rfl)
theorem fold_tick {l : List Smp} {k : Nat} {x : Smp} {a : Int} (h : l[k]? = some x) : ((l.take (k + 1)).map Smp.tick).foldl max a = max (((l.take k).map Smp.tick).foldl max a) x.tick := by
  rw [take_next h, List.map_append, List.foldl_append]; rfl
theorem latest_all {l : List Smp} {x : Smp} (h : l[0]? = some x) : (l.map Smp.tick).foldl max x.tick = latestq l := by
  cases l with
  | nil => simp at h
  | cons a l => simp at h; subst h; simp [latestq, maxq]
def nowq (p : Pol) (past : List Adv) : Int := if past.length = 0 then p.min else replAt past (past.length - 1)
def whyq (p : Pol) (held : Bool) (op now th : Int) : Int := if held then 4 else if p.max < op then 6 else if op < p.min then 5 else if now < th then 2 else if th < now then 3 else 1
end Go.Proofs.Ytkjmacdekfbfhaa
