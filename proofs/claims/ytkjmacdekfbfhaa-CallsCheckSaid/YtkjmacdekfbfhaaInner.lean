/- calls.inner: the walk. (fast region) -/
import Derived.Test.YtkjmacdekfbfhaaCOp
import Derived.Test.YtkjmacdekfbfhaaHome
namespace Go.Proofs.Ytkjmacdekfbfhaa
open Go.RowKit
set_option linter.unusedSimpArgs false
set_option linter.unusedVariables false
set_option maxHeartbeats 4000000
set_option maxRecDepth 100000
theorem own_apart {w1 w2 : World} {v1 v2 : Value} {l1 l2 : List COp} {b1 : Nat} (h1 : OwnC w1 b1 v1 l1) (h2 : OwnC w2 w1.heap.size v2 l2) : ∀ k, v1.ownBlock = some k → v2.ownBlock ≠ some k := fun k hk hk2 => by
  have := (h1.base_ k hk).2
  have := (h2.base_ k hk2).1
  omega
theorem own_apart' {w1 w2 : World} {v1 v2 : Value} {l1 l2 : List COp} {b1 : Nat} (h1 : OwnC w1 b1 v1 l1) (h2 : OwnC w2 w1.heap.size v2 l2) : ∀ k, v2.ownBlock = some k → v1.ownBlock ≠ some k := fun k hk hk2 => own_apart h1 h2 k hk2 hk
theorem Own.mono0 {w : World} {b : Nat} {v : Value} {l : List COp} (h : OwnC w b v l) : OwnC w 0 v l := h.mono (Nat.zero_le _)
/-- A list kept while another one is appended to. -/
theorem own_kept {w w' : World} {v v2 : Value} {l : List COp} {b : Nat} (h : OwnC w b v l) (hg : w.grownBy w' v2.ownBlock) (hne : ∀ k, v2.ownBlock = some k → v.ownBlock ≠ some k) : OwnC w' b v l := by
  cases hv : v2.ownBlock with
  | none =>
    rw [hv] at hg
    exact h.call ((Below.refl _ w).grown hg (Nat.le_refl _) (fun k hk => by cases hk))
  | some k =>
    rw [hv] at hg
    exact h.grown hg (fun j hj e => hne k hv (e ▸ hj))
end Go.Proofs.Ytkjmacdekfbfhaa
