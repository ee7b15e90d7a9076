/- Package control: what each function gives, as plain numbers. -/
import Derived.Test.YtkjmacdekfbfhaaPolicy
import Derived.Test.YtkjmacdekfbfhaaWide
namespace Go.Proofs.Ytkjmacdekfbfhaa
open Go.RowKit
set_option linter.unusedSimpArgs false
set_option linter.unusedVariables false
set_option maxHeartbeats 400000

def loadq (n : Int) : Int := if n < 0 then 0 else n
theorem loadq_max (n : Int) : max n 0 = loadq n := by unfold loadq; omega
theorem loadq_bd {n : Int} (h : I64 n) : 0 ≤ loadq n ∧ loadq n ≤ 9223372036854775807 := by unfold I64 at h; unfold loadq; omega
theorem loadq_I64 {n : Int} (h : I64 n) : I64 (loadq n) := by unfold I64 at *; unfold loadq; omega
def wantq (p : Pol) (n : Int) : Int := if p.okP then ceilq (loadq n) p.target else 0
def boundq (p : Pol) (n : Int) : Int := if p.okP then clampq n p.min p.max else 0

theorem cmpN_le (X Y : Nat) : decide (cmpN X Y ≤ 0) = decide (X ≤ Y) := by
  rw [Bool.eq_iff_iff, decide_eq_true_iff, decide_eq_true_iff]; unfold cmpN
  split
  · omega
  · split <;> omega
def hasq (load : Int) : Nat := (loadq load).toNat * 1000
def shouldq (p : Pol) (now : Int) : Nat := (now * 1000).toNat * p.target.toNat
def slackq (p : Pol) (now : Int) : Nat := (now * p.tol).toNat * p.target.toNat
def nearq (p : Pol) (load now : Int) : Bool :=
  if p.okP ∧ 1 ≤ now ∧ now ≤ 1073741824 then decide (hasq load ≤ shouldq p now + slackq p now) && decide (shouldq p now ≤ hasq load + slackq p now) else false
theorem near_end (H T K : Nat) (h : H = T) : (decide (H ≤ T + K) && decide (T ≤ H + K)) = true := by subst h; simp
end Go.Proofs.Ytkjmacdekfbfhaa
