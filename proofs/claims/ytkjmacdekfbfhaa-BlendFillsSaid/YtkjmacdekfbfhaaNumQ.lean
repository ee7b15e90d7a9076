/- Sums and doubles of rows of bits: plain facts. -/
import Derived.Test.YtkjmacdekfbfhaaNumP
namespace Go.Proofs.Ytkjmacdekfbfhaa
open Go.RowKit
set_option linter.unusedSimpArgs false
set_option linter.unusedVariables false

def carryQ (a b k : Nat) : Nat := (a % 2 ^ k + b % 2 ^ k) / 2 ^ k
theorem nat_pow_pos (k : Nat) : 0 < 2 ^ k := Nat.pow_pos (by decide)
theorem carryQ_le (a b k : Nat) : carryQ a b k ≤ 1 := by
  unfold carryQ
  have p := nat_pow_pos k
  have h1 := Nat.mod_lt a p
  have h2 := Nat.mod_lt b p
  have : (a % 2 ^ k + b % 2 ^ k) / 2 ^ k < 2 := (Nat.div_lt_iff_lt_mul p).2 (by omega)
  omega
theorem carryQ_zero (a b : Nat) : carryQ a b 0 = 0 := by unfold carryQ; simp [Nat.mod_one]
theorem carryQ_end (a b : Nat) (ha : a < 2 ^ 128) (hb : b < 2 ^ 128) : carryQ a b 128 = (a + b) / 2 ^ 128 := by
  unfold carryQ; rw [Nat.mod_eq_of_lt ha, Nat.mod_eq_of_lt hb]
theorem tb_nat (x k : Nat) : (x.testBit k).toNat = x / 2 ^ k % 2 := by
  rw [← tb_mod]
  rcases Nat.mod_two_eq_zero_or_one (x / 2 ^ k) with h | h <;> rw [h] <;> rfl
theorem add_div (a b k : Nat) : (a + b) / 2 ^ k = a / 2 ^ k + b / 2 ^ k + carryQ a b k := by
  unfold carryQ
  have p := nat_pow_pos k
  have h1 := Nat.div_add_mod a (2 ^ k)
  have h2 := Nat.div_add_mod b (2 ^ k)
  have e : a + b = (a % 2 ^ k + b % 2 ^ k) + 2 ^ k * (a / 2 ^ k + b / 2 ^ k) := by rw [Nat.mul_add]; omega
  rw [e, Nat.add_mul_div_left _ _ p]
  have e3 : ((a % 2 ^ k + b % 2 ^ k) + 2 ^ k * (a / 2 ^ k + b / 2 ^ k)) = a + b := e.symm
  omega
theorem add_bit (a b k : Nat) : ((a + b).testBit k).toNat = (carryQ a b k + (a.testBit k).toNat + (b.testBit k).toNat) % 2 := by
  rw [tb_nat, tb_nat, tb_nat, add_div]; omega
theorem carry_step (a b k : Nat) : carryQ a b (k + 1) = (carryQ a b k + (a.testBit k).toNat + (b.testBit k).toNat) / 2 := by
  have h1 := add_div a b k
  have h2 := add_div a b (k + 1)
  rw [tb_nat, tb_nat]
  have d : ∀ x : Nat, x / 2 ^ (k + 1) = x / 2 ^ k / 2 := fun x => by rw [Nat.div_div_eq_div_mul, Nat.pow_succ]
  rw [d, d, d, h1] at h2
  omega
def addF (a b k : Nat) : Nat → Bool := fun i => if i < k then (a + b).testBit i else false
theorem addF_zero (a b : Nat) : arrF (addF a b 0) = bitsA 0 := arrF_congr fun i h => by unfold addF; simp
theorem addF_end (a b : Nat) : arrF (addF a b 128) = bitsA (a + b) := arrF_congr fun i h => by unfold addF; rw [if_pos h]
theorem addF_step (a b k : Nat) (hk : k < 128) : (arrF (addF a b k)).setIfInBounds k (.bool ((a + b).testBit k)) = arrF (addF a b (k + 1)) := by
  rw [arrF_set _ hk]
  refine arrF_congr fun i h => ?_
  unfold addF
  by_cases h1 : i = k
  · subst h1; rw [if_pos rfl, if_pos (by omega)]
  · rw [if_neg h1]
    by_cases h2 : i < k
    · rw [if_pos h2, if_pos (by omega)]
    · rw [if_neg h2, if_neg (by omega)]
/-- What the walk stores: the sum's bit. -/
theorem add_bit_walk (a b k : Nat) (n : Int) (c : Nat) (hc : c = carryQ a b k) (hn : n = (c : Int) + ((a.testBit k).toNat : Int) + ((b.testBit k).toNat : Int)) : (n % 2 == 1) = (a + b).testBit k ∧ n / 2 = ((carryQ a b (k + 1) : Nat) : Int) := by
  have h := add_bit a b k
  have h2 := carry_step a b k
  rw [← hc] at h h2
  refine ⟨?_, by rw [hn, h2]; omega⟩
  cases hb : (a + b).testBit k
  · rw [hb] at h; simp at h ⊢; omega
  · rw [hb] at h; simp at h ⊢; omega
def dblF (a k : Nat) : Nat → Bool := fun i => if i < k ∧ 1 ≤ i then a.testBit (i - 1) else false
theorem dblF_zero (a : Nat) : arrF (dblF a 1) = bitsA 0 := arrF_congr fun i h => by unfold dblF; rw [if_neg (by omega)]; simp
theorem dblF_end (a : Nat) : arrF (dblF a 128) = bitsA (2 * a % 2 ^ 128) := arrF_congr fun i h => by
  unfold dblF
  rw [Nat.testBit_mod_two_pow, decide_eq_true h, Bool.true_and]
  cases i with
  | zero => rw [if_neg (by omega), ← tb_mod]; simp
  | succ i =>
    rw [if_pos (by omega), Nat.mul_comm, show a * 2 = a * 2 ^ 1 by simp, Nat.testBit_mul_two_pow]
    simp
theorem dblF_step (a k : Nat) (h1 : 1 ≤ k) (hk : k < 128) : (arrF (dblF a k)).setIfInBounds k (.bool (a.testBit (k - 1))) = arrF (dblF a (k + 1)) := by
  rw [arrF_set _ hk]
  refine arrF_congr fun i h => ?_
  unfold dblF
  by_cases h1 : i = k
  · subst h1; rw [if_pos rfl, if_pos (by omega)]
  · rw [if_neg h1]
    by_cases h2 : i < k ∧ 1 ≤ i
    · rw [if_pos h2, if_pos (by omega)]
    · rw [if_neg h2, if_neg (by omega)]
end Go.Proofs.Ytkjmacdekfbfhaa
