/- Plain facts on the mean that is rounded up. -/
import Derived.Test.YtkjmacdekfbfhaaMean
namespace Go.Proofs.Ytkjmacdekfbfhaa
set_option linter.unusedVariables false
theorem tot_low (l : List Int) (a : Int) (h0 : 0 ≤ a) (h : ∀ x ∈ l, a ≤ x) : a.toNat * l.length ≤ totq l := by
  induction l with
  | nil => simp [totq]
  | cons x l ih =>
    have h1 := ih (fun y hy => h y (by simp [hy]))
    have h2 := h x (by simp)
    simp only [totq, List.map_cons, List.sum_cons, List.length_cons, Nat.mul_add, Nat.mul_one] at *
    omega
theorem tot_high (l : List Int) (b : Int) (h : ∀ x ∈ l, x ≤ b) : totq l ≤ b.toNat * l.length := by
  induction l with
  | nil => simp [totq]
  | cons x l ih =>
    have h1 := ih (fun y hy => h y (by simp [hy]))
    have h2 := h x (by simp)
    simp only [totq, List.map_cons, List.sum_cons, List.length_cons, Nat.mul_add, Nat.mul_one] at *
    omega
theorem upq_le {n d q : Nat} (hd : 0 < d) (h : n ≤ q * d) : upq n d ≤ q := by
  have h2 := (upq_spec (n := n) (d := d) (q := upq n d) hd).2 rfl
  rcases Nat.lt_or_ge q (upq n d) with hlt | hge
  · rcases h2.2 with h3 | h3
    · omega
    · have := Nat.mul_le_mul_right d (show q ≤ upq n d - 1 by omega)
      omega
  · exact hge
theorem le_upq {n d q : Nat} (hd : 0 < d) (h : q * d ≤ n) : q ≤ upq n d := by
  have h2 := ((upq_spec (n := n) (d := d) (q := upq n d) hd).2 rfl).1
  exact Nat.le_of_mul_le_mul_right (Nat.le_trans h h2) hd
theorem mean_plain {l : List Int} (hg : ∀ x ∈ l, I64 x) (hl : 0 < l.length) : meanq l = (upq (totq l) l.length : Nat) ∧ upq (totq l) l.length ≤ 9223372036854775807 := by
  have h1 := upq_le (q := 9223372036854775807) (d := l.length) hl (by have := totq_lt l hg; rw [Nat.mul_comm]; exact this)
  refine ⟨?_, h1⟩
  unfold meanq smallQ
  rw [if_neg (by omega), if_pos (by omega)]
end Go.Proofs.Ytkjmacdekfbfhaa
