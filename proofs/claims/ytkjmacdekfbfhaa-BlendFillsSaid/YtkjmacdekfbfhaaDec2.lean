/- history.Highest, steady.Of, and the reference's. -/
import Derived.Test.YtkjmacdekfbfhaaDec1
namespace Go.Proofs.Ytkjmacdekfbfhaa
open Go.RowKit
set_option linter.unusedSimpArgs false
set_option linter.unusedVariables false
set_option maxHeartbeats 4000000
set_option maxRecDepth 100000
def hstep (f t : Int) (s : Int × Bool) (a : Adv) : Int × Bool := if f < a.tick ∧ a.tick ≤ t ∧ (s.2 = false ∨ s.1 < a.want) then (a.want, true) else s
def highq0 (l : List Adv) (f t : Int) : Int × Bool := l.foldl (hstep f t) (0, false)
def highest (l : List Adv) (tick hold : Int) : Int × Bool := highq0 l (satq (tick - hold)) tick
theorem high_next {l : List Adv} {k : Nat} {x : Adv} {f t : Int} (h : l[k]? = some x) : highq0 (l.take (k + 1)) f t = hstep f t (highq0 (l.take k) f t) x := by
  unfold highq0; rw [take_next h, List.foldl_append]; rfl
theorem hstep_yes {f t bst : Int} {is : Bool} {x : Adv} (h1 : f < x.tick) (h2 : x.tick ≤ t) (h3 : is = false ∨ bst < x.want) : hstep f t (bst, is) x = (x.want, true) := if_pos ⟨h1, h2, h3⟩
theorem hstep_no {f t bst : Int} {is : Bool} {x : Adv} (h : ¬ (f < x.tick ∧ x.tick ≤ t ∧ (is = false ∨ bst < x.want))) : hstep f t (bst, is) x = (bst, is) := if_neg h
theorem highq_I64 {l : List Adv} (hg : ∀ x ∈ l, x.good) (f t : Int) : I64 (highq0 l f t).1 := by
  have key : ∀ (l : List Adv), (∀ x ∈ l, x.good) → ∀ s : Int × Bool, I64 s.1 → I64 (l.foldl (hstep f t) s).1 := by
    intro l
    induction l with
    | nil => intro _ s hs; exact hs
    | cons x l ih =>
      intro hx s hs
      rw [List.foldl_cons]
      refine ih (fun y hy => hx y (by simp [hy])) _ ?_
      unfold hstep
      split
      · exact (hx x (by simp)).2.2.1
      · exact hs
  exact key l hg _ (by unfold I64; simp)
def steadyq (p : Pol) (tick want : Int) (past : List Adv) : Int × Bool := if (highest past tick p.hold).2 = true ∧ want < (highest past tick p.hold).1 then ((highest past tick p.hold).1, true) else (want, false)
end Go.Proofs.Ytkjmacdekfbfhaa
