/- The reference's rounded quotients of 128 bits. -/
import Derived.Test.YtkjmacdekfbfhaaTotal
namespace Go.Proofs.Ytkjmacdekfbfhaa
open Go.RowKit
set_option linter.unusedSimpArgs false
set_option linter.unusedVariables false
set_option maxHeartbeats 400000
theorem cmpN_lt (X Y : Nat) : decide (cmpN X Y < 0) = decide (X < Y) := by
  unfold cmpN
  rw [Bool.eq_iff_iff]
  simp only [decide_eq_true_eq]
  split <;> (try split) <;> omega
theorem mul_lt128q {a b : Nat} (ha : a < 2 ^ 64) (hb : b < 2 ^ 64) : a * b < 2 ^ 128 := by
  have := Nat.mul_le_mul (show a ≤ 2 ^ 64 - 1 by omega) (show b ≤ 2 ^ 64 - 1 by omega)
  omega
theorem rangeAt_blk {w : World} {g : Nat} {t : TypeId} {cs : Array Value} (h : Blk w g t cs) : w.rangeAt g 0 cs.toList := fun j v hv => by
  rw [Nat.zero_add]; exact h.cellv (by simpa using hv)
theorem heldR {w0 W w1 : World} {g : Nat} {cs : List Value} (hb : Below W.heap.size W w1) (hr : W.rangeAt g 0 cs) (hs : g < W.heap.size) (hB : Below g w0 W) : w1.rangeAt g 0 cs ∧ g < w1.heap.size ∧ Below g w0 w1 :=
  ⟨fun j v hv => (hb.cell (p := ⟨g, 0 + j, none⟩) hs).trans (hr j v hv), Nat.lt_of_lt_of_le hs hb.size, hB.trans (hb.mono (Nat.le_of_lt hs))⟩
theorem info_list (N : Nat) : (Try.prog.info? 201).map (·.size) = some (bitsA N).toList.length := by rw [info_num N]; simp
theorem num_MulM (a b M : Nat) (w : World) (hM : M = a * b) (ha : a < 2 ^ 64) (hb : b < 2 ^ 64) :
    Calls Try.prog 154 #[.int .u64 a, .int .u64 b] w fun e w' => e = .returned (.agg (bitsA M)) ∧ Below w.heap.size w w' := by
  subst hM; exact num_Mul a b w ha hb
def upIs (n d q : Nat) : Bool := decide (n ≤ q * d ∧ (q = 0 ∨ (q - 1) * d < n))
end Go.Proofs.Ytkjmacdekfbfhaa
