/- The division of 128 bits, bit by bit, and the sums of products: plain facts. -/
import Derived.Test.YtkjmacdekfbfhaaNumQ
import Derived.Laws.BitsAllLaws
namespace Go.Proofs.Ytkjmacdekfbfhaa
open Go.RowKit
set_option linter.unusedSimpArgs false
set_option linter.unusedVariables false

/-- After k rounds: Q is the quotient so far, r the rest, x what is still to come. -/
structure DivAt (X d k Q r x : Nat) : Prop where
  eq : X * 2 ^ k = (Q * d + r) * 2 ^ 128 + x
  rest : r < d
  low : x < 2 ^ 128
theorem DivAt.start {X d : Nat} (hX : X < 2 ^ 128) (hd : 0 < d) : DivAt X d 0 0 0 X := ⟨by omega, hd, hX⟩
theorem DivAt.step0 {X d k Q r x : Nat} (h : DivAt X d k Q r x) (hlt : 2 * r + x / 2 ^ 127 < d) : DivAt X d (k + 1) (2 * Q) (2 * r + x / 2 ^ 127) (2 * x % 2 ^ 128) := by
  obtain ⟨e, hr, hx⟩ := h
  refine ⟨?_, hlt, Nat.mod_lt _ (by decide)⟩
  rw [Nat.pow_succ, ← Nat.mul_assoc, e, Nat.mul_assoc 2 Q d]
  generalize Q * d = P
  omega
theorem DivAt.step1 {X d k Q r x : Nat} (h : DivAt X d k Q r x) (hge : d ≤ 2 * r + x / 2 ^ 127) : DivAt X d (k + 1) (2 * Q + 1) (2 * r + x / 2 ^ 127 - d) (2 * x % 2 ^ 128) := by
  obtain ⟨e, hr, hx⟩ := h
  refine ⟨?_, by omega, Nat.mod_lt _ (by decide)⟩
  rw [Nat.pow_succ, ← Nat.mul_assoc, e, Nat.add_mul (2 * Q) 1 d, Nat.one_mul, Nat.mul_assoc 2 Q d]
  generalize Q * d = P
  omega
theorem DivAt.done {X d Q r x : Nat} (h : DivAt X d 128 Q r x) : Q = X / d ∧ r = X % d := by
  obtain ⟨e, hr, hx⟩ := h
  have e2 : X = Q * d + r := by
    generalize Q * d + r = S at *
    omega
  subst e2
  rw [Nat.mul_comm Q d, Nat.mul_add_div (by omega), Nat.div_eq_of_lt hr, Nat.mul_add_mod, Nat.mod_eq_of_lt hr]
  exact ⟨by omega, rfl⟩
theorem DivAt.small {X d k Q r x : Nat} (h : DivAt X d k Q r x) (hX : X < 2 ^ 128) (hk : k ≤ 128) : Q < 2 ^ k := by
  obtain ⟨e, hr, hx⟩ := h
  have hd : 0 < d := by omega
  have h1 : Q ≤ Q * d := Nat.le_mul_of_pos_right Q hd
  have h2 : X * 2 ^ k < 2 ^ 128 * 2 ^ k := Nat.mul_lt_mul_of_pos_right hX (Nat.pow_pos (by decide))
  have h3 : Q * 2 ^ 128 ≤ (Q * d + r) * 2 ^ 128 := Nat.mul_le_mul_right _ (by omega)
  have h4 : 2 ^ 128 * Q < 2 ^ 128 * 2 ^ k := by rw [Nat.mul_comm (2 ^ 128) Q]; omega
  exact Nat.lt_of_mul_lt_mul_left h4
/-- The quotient's words. -/
theorem quo_keep {k Q : Nat} (hk : k < 128) : 2 * Q * 2 ^ (128 - (k + 1)) = Q * 2 ^ (128 - k) := by
  rw [show 128 - k = (128 - (k + 1)) + 1 by omega, Nat.pow_succ, Nat.mul_comm 2 Q, Nat.mul_assoc, Nat.mul_comm 2]
theorem quo_high {k Q qh ql : Nat} (hk : k < 64) (hQ : Q < 2 ^ k) (hl : ql < 2 ^ 64) (h : qh * 2 ^ 64 + ql = Q * 2 ^ (128 - k)) :
    (qh ||| 2 ^ (63 - k)) * 2 ^ 64 + ql = (2 * Q + 1) * 2 ^ (128 - (k + 1)) ∧ ql = 0 ∧ qh < 2 ^ 64 ∧ (qh ||| 2 ^ (63 - k)) < 2 ^ 64 := by
  have e1 : Q * 2 ^ (128 - k) = Q * 2 ^ (64 - k) * 2 ^ 64 := by rw [Nat.mul_assoc, ← Nat.pow_add]; congr 2; omega
  rw [e1] at h
  have hql : ql = 0 := by
    generalize Q * 2 ^ (64 - k) = S at h
    omega
  have hqh : qh = Q * 2 ^ (64 - k) := by
    generalize Q * 2 ^ (64 - k) = S at h
    omega
  have hlt : qh < 2 ^ 64 := by
    rw [hqh, show (64 : Nat) = k + (64 - k) by omega]
    rw [show k + (64 - k) - k = 64 - k by omega, Nat.pow_add]
    exact Nat.mul_lt_mul_of_pos_right hQ (Nat.pow_pos (by decide))
  have hm : qh % 2 ^ (64 - k) = 0 := by rw [hqh]; exact Nat.mul_mod_left _ _
  have hor : qh ||| 2 ^ (63 - k) = qh + 2 ^ (63 - k) := nat_join (64 - k) _ _ hm (Nat.pow_lt_pow_right (by decide) (by omega))
  refine ⟨?_, hql, hlt, Nat.or_lt_two_pow hlt (Nat.pow_lt_pow_right (by decide) (by omega))⟩
  rw [hor, hql, hqh, show 64 - k = (63 - k) + 1 by omega, Nat.pow_succ, show 128 - (k + 1) = (63 - k) + 64 by omega, Nat.pow_add (m := 63 - k) (n := 64)]
  generalize 2 ^ (63 - k) = p
  rw [← Nat.mul_assoc, ← Nat.mul_assoc, Nat.add_mul (2 * Q) 1 p, Nat.one_mul, Nat.mul_assoc 2 Q p]
  rw [Nat.add_zero, Nat.mul_comm 2 (Q * p)]
theorem quo_low {k Q qh ql : Nat} (hk : k < 128) (hk2 : 64 ≤ k) (hQ : Q < 2 ^ k) (hl : ql < 2 ^ 64) (h : qh * 2 ^ 64 + ql = Q * 2 ^ (128 - k)) :
    qh * 2 ^ 64 + (ql ||| 2 ^ (127 - k)) = (2 * Q + 1) * 2 ^ (128 - (k + 1)) ∧ qh < 2 ^ 64 ∧ (ql ||| 2 ^ (127 - k)) < 2 ^ 64 := by
  have hm : ql % 2 ^ (128 - k) = 0 := by
    have e : (2 : Nat) ^ 64 = 2 ^ (128 - k) * 2 ^ (k - 64) := by rw [← Nat.pow_add]; congr 1; omega
    have h2 : ql % 2 ^ (128 - k) = (qh * 2 ^ 64 + ql) % 2 ^ (128 - k) := by
      rw [e, ← Nat.mul_assoc, Nat.mul_comm qh, Nat.mul_assoc, Nat.mul_add_mod]
    rw [h2, h]; exact Nat.mul_mod_left _ _
  have hor : ql ||| 2 ^ (127 - k) = ql + 2 ^ (127 - k) := nat_join (128 - k) _ _ hm (Nat.pow_lt_pow_right (by decide) (by omega))
  have hlt : qh * 2 ^ 64 < 2 ^ 128 := by
    have : Q * 2 ^ (128 - k) < 2 ^ k * 2 ^ (128 - k) := Nat.mul_lt_mul_of_pos_right hQ (Nat.pow_pos (by decide))
    rw [← Nat.pow_add, show k + (128 - k) = 128 by omega] at this
    omega
  refine ⟨?_, by omega, Nat.or_lt_two_pow hl (Nat.pow_lt_pow_right (by decide) (by omega))⟩
  rw [hor, ← Nat.add_assoc, h, show 128 - k = (127 - k) + 1 by omega, Nat.pow_succ, show 128 - (k + 1) = 127 - k by omega]
  generalize 2 ^ (127 - k) = p
  rw [Nat.add_mul, Nat.one_mul, Nat.mul_comm 2 Q, Nat.mul_assoc, Nat.mul_comm 2 p]

/-- The product, bit by bit. -/
theorem mul_round (a b k : Nat) : a * (b % 2 ^ k) + (if b.testBit k then a * 2 ^ k else 0) = a * (b % 2 ^ (k + 1)) := by
  rw [lowmod_bit, Nat.mul_add]
  split <;> simp
theorem mul_small {a b k : Nat} (ha : a < 2 ^ 64) (hk : k ≤ 64) : a * (b % 2 ^ k) < 2 ^ 128 := by
  have h1 := Nat.mod_lt b (show 0 < 2 ^ k from Nat.pow_pos (by decide))
  have h2 : (2 : Nat) ^ k ≤ 2 ^ 64 := Nat.pow_le_pow_right (by decide) hk
  have h3 := Nat.mul_le_mul (show a ≤ 2 ^ 64 - 1 by omega) (show b % 2 ^ k ≤ 2 ^ 64 by omega)
  omega
theorem shl_small {a k : Nat} (ha : a < 2 ^ 64) (hk : k ≤ 63) : a * 2 ^ k < 2 ^ 127 := by
  have h2 : (2 : Nat) ^ k ≤ 2 ^ 63 := Nat.pow_le_pow_right (by decide) hk
  have h3 := Nat.mul_le_mul (show a ≤ 2 ^ 64 - 1 by omega) h2
  omega
/-- Numbers whose bits from 'i' on are alike. -/
theorem tops_step {a b k : Nat} (h : a / 2 ^ (k + 1) = b / 2 ^ (k + 1)) (hb : a.testBit k = b.testBit k) : a / 2 ^ k = b / 2 ^ k := by
  rw [div_bit a k, div_bit b k, h, hb]
theorem tops_less {a b k : Nat} (h : a / 2 ^ (k + 1) = b / 2 ^ (k + 1)) (ha : a.testBit k = false) (hb : b.testBit k = true) : a < b := by
  have h1 := div_bit a k
  have h2 := div_bit b k
  rw [ha] at h1; rw [hb] at h2
  simp only [if_true, Bool.false_eq_true, if_false] at h1 h2
  have h3 : a / 2 ^ k < b / 2 ^ k := by omega
  rcases Nat.lt_or_ge a b with h | h
  · exact h
  · have := Nat.div_le_div_right (c := 2 ^ k) h
    omega
theorem bits_low {a k : Nat} (h : a < 2 ^ (k + 1)) (hb : a.testBit k = false) : a < 2 ^ k := by
  have h1 := div_bit a k
  rw [hb, Nat.div_eq_of_lt h] at h1
  simp only [Bool.false_eq_true, if_false] at h1
  exact Nat.lt_of_div_eq_zero (Nat.pow_pos (by decide)) (by omega)
/-- Rounded up. -/
def upq (n d : Nat) : Nat := (n + d - 1) / d
theorem upq_spec {n d q : Nat} (hd : 0 < d) : (n ≤ q * d ∧ (q = 0 ∨ (q - 1) * d < n)) ↔ q = upq n d := by
  unfold upq
  have hdm := Nat.div_add_mod (n + d - 1) d
  have hlt := Nat.mod_lt (n + d - 1) hd
  generalize (n + d - 1) / d = c at *
  generalize (n + d - 1) % d = r at *
  constructor
  · rintro ⟨h1, h2⟩
    rcases Nat.lt_trichotomy q c with h | h | h
    · exfalso
      have := Nat.mul_le_mul_right d (show q + 1 ≤ c from h)
      rw [Nat.add_mul, Nat.mul_comm c d] at this
      omega
    · exact h
    · exfalso
      rcases h2 with h2 | h2
      · omega
      · have := Nat.mul_le_mul_right d (show c ≤ q - 1 by omega)
        rw [Nat.mul_comm c d] at this
        omega
  · rintro rfl
    rw [Nat.mul_comm]
    refine ⟨by omega, ?_⟩
    rcases Nat.eq_zero_or_pos q with h | h
    · exact .inl h
    · right
      obtain ⟨m, rfl⟩ : ∃ m, q = m + 1 := ⟨q - 1, by omega⟩
      rw [Nat.add_sub_cancel, Nat.mul_comm m]
      rw [Nat.mul_add] at hdm
      omega
end Go.Proofs.Ytkjmacdekfbfhaa
