/- Letters' codes and packed keys: plain facts, no program in sight. -/
import Derived.Test.YtkjmacdekfbfhaaBase
namespace Go.Proofs.Ytkjmacdekfbfhaa
set_option linter.unusedSimpArgs false
set_option linter.unusedVariables false

/-- Digits to the base 64, the first one the highest. -/
def hq (l : List Nat) : Nat := l.foldl (fun h c => h * 64 + c) 0
theorem hq_snoc (l : List Nat) (c : Nat) : hq (l ++ [c]) = hq l * 64 + c := by simp [hq]
theorem hq_lt : ∀ (n : Nat) (l : List Nat), l.length = n → (∀ c ∈ l, c < 64) → hq l < 64 ^ n := by
  intro n
  induction n with
  | zero => intro l hl _; rw [List.eq_nil_of_length_eq_zero hl]; decide
  | succ n ih =>
    intro l hl hc
    rcases List.eq_nil_or_concat l with rfl | ⟨m, c, rfl⟩
    · simp at hl
    · rw [List.concat_eq_append] at *
      rw [hq_snoc]
      have h1 := ih m (by simpa using hl) (fun x hx => hc x (by simp [hx]))
      have h2 := hc c (by simp)
      rw [Nat.pow_succ]; omega
theorem hq_zeros (l : List Nat) : ∀ n, hq (l ++ List.replicate n 0) = hq l * 64 ^ n
  | 0 => by simp
  | n + 1 => by rw [List.replicate_succ', ← List.append_assoc, hq_snoc, hq_zeros l n, Nat.pow_succ]; simp [Nat.mul_assoc]
/-- A word of ten letters, the lacking ones 0. -/
def wordq (l : List Nat) : Nat := hq l * 64 ^ (10 - l.length)
def kHi (l : List Nat) : Nat := wordq (l.take 10)
def kLo (l : List Nat) : Nat := wordq (l.drop 10)
theorem wordq_lt {l : List Nat} (hl : l.length ≤ 10) (hc : ∀ c ∈ l, c < 64) : wordq l < 1152921504606846976 := by
  have h := hq_lt _ l rfl hc
  unfold wordq
  have : hq l * 64 ^ (10 - l.length) < 64 ^ l.length * 64 ^ (10 - l.length) := Nat.mul_lt_mul_of_pos_right h (Nat.pow_pos (by decide))
  rw [← Nat.pow_add, show l.length + (10 - l.length) = 10 by omega] at this
  exact this
theorem wordq_snoc {l : List Nat} {c : Nat} (hl : l.length < 10) (hc : c < 64) : wordq (l ++ [c]) = wordq l ||| c <<< (6 * (9 - l.length)) := by
  unfold wordq
  rw [hq_snoc, List.length_append, List.length_singleton, show 10 - (l.length + 1) = 9 - l.length by omega, show 10 - l.length = (9 - l.length) + 1 by omega]
  generalize 9 - l.length = d
  rw [Nat.shiftLeft_eq, Nat.pow_mul, show (2 ^ 6 : Nat) = 64 from rfl]
  have e : hq l * 64 ^ (d + 1) = 2 ^ (6 * (d + 1)) * hq l := by rw [Nat.pow_mul, Nat.mul_comm]
  have lt : c * 64 ^ d < 2 ^ (6 * (d + 1)) := by
    rw [Nat.pow_mul, show (2 ^ 6 : Nat) = 64 from rfl, Nat.pow_succ, Nat.mul_comm _ 64]
    exact Nat.mul_lt_mul_of_pos_right hc (Nat.pow_pos (by decide))
  rw [e, ← Nat.two_pow_add_eq_or_of_lt lt, Nat.pow_mul, show (2 ^ 6 : Nat) = 64 from rfl, Nat.add_mul, Nat.pow_succ, Nat.mul_comm (64 ^ d * 64), Nat.mul_assoc, Nat.mul_comm 64 (64 ^ d)]
theorem take_cons_snoc {α : Type} {l : List α} {i : Nat} {c : α} (h : l[i]? = some c) : l.take (i + 1) = l.take i ++ [c] := by
  rw [List.take_add_one, h]; rfl
theorem kHi_snoc {l : List Nat} {i c : Nat} (h : l[i]? = some c) (hc : c < 64) (hi : i < 10) : kHi (l.take (i + 1)) = kHi (l.take i) ||| c <<< (6 * (9 - i)) := by
  have hl := (List.getElem?_eq_some_iff.1 h).1
  unfold kHi
  rw [List.take_take, List.take_take, show min 10 (i + 1) = i + 1 by omega, show min 10 i = i by omega, take_cons_snoc h, wordq_snoc (by simp; omega) hc]
  simp [show min i l.length = i by omega]
theorem kLo_low {l : List Nat} {i : Nat} (hi : i ≤ 10) : kLo (l.take i) = 0 := by
  unfold kLo
  rw [List.drop_eq_nil_of_le (by simp; omega)]; rfl
theorem kHi_high {l : List Nat} {i : Nat} (hi : 10 ≤ i) : kHi (l.take i) = kHi l := by
  unfold kHi
  rw [List.take_take, show min 10 i = 10 by omega]
theorem kLo_snoc {l : List Nat} {i c : Nat} (h : l[i]? = some c) (hc : c < 64) (h1 : 10 ≤ i) (h2 : i < 20) : kLo (l.take (i + 1)) = kLo (l.take i) ||| c <<< (6 * (19 - i)) := by
  have hl := (List.getElem?_eq_some_iff.1 h).1
  unfold kLo
  rw [take_cons_snoc h, List.drop_append_of_le_length (by simp; omega), wordq_snoc (by simp; omega) hc]
  simp [show min i l.length = i by omega, show 9 - (i - 10) = 19 - i by omega]
theorem kHi_lt {l : List Nat} (hc : ∀ c ∈ l, c < 64) : kHi l < 1152921504606846976 := wordq_lt (by simp; omega) (fun c h => hc c (List.mem_of_mem_take h))
theorem kLo_lt {l : List Nat} (hl : l.length ≤ 20) (hc : ∀ c ∈ l, c < 64) : kLo l < 1152921504606846976 := wordq_lt (by simp; omega) (fun c h => hc c (List.mem_of_mem_drop h))
/-- The reference's way: twenty digits, the lacking ones 0. -/
def padq (l : List Nat) : List Nat := l ++ List.replicate (20 - l.length) 0
def rHi (l : List Nat) (i : Nat) : Nat := hq ((padq l).take (min i 10))
def rLo (l : List Nat) (i : Nat) : Nat := hq (((padq l).drop 10).take (i - 10))
theorem padq_len {l : List Nat} (h : l.length ≤ 20) : (padq l).length = 20 := by simp [padq]; omega
theorem padq_lt {l : List Nat} (hc : ∀ c ∈ l, c < 64) : ∀ c ∈ padq l, c < 64 := by
  intro c h
  unfold padq at h
  rcases List.mem_append.1 h with h | h
  · exact hc c h
  · rw [(List.mem_replicate.1 h).2]; decide
theorem padq_in {l : List Nat} {i c : Nat} (h : l[i]? = some c) : (padq l)[i]? = some c := by
  unfold padq
  rw [List.getElem?_append_left (List.getElem?_eq_some_iff.1 h).1, h]
theorem padq_out {l : List Nat} {i : Nat} (h : l.length ≤ i) (hi : i < 20) : (padq l)[i]? = some 0 := by
  unfold padq
  rw [List.getElem?_append_right h, List.getElem?_replicate, if_pos (by omega)]
theorem rHi_snoc {l : List Nat} {i c : Nat} (h : (padq l)[i]? = some c) (hi : i < 10) : rHi l (i + 1) = rHi l i * 64 + c := by
  unfold rHi
  rw [show min (i + 1) 10 = i + 1 by omega, show min i 10 = i by omega, take_cons_snoc h, hq_snoc]
theorem rLo_low {l : List Nat} {i : Nat} (hi : i ≤ 10) : rLo l i = 0 := by
  unfold rLo
  rw [show i - 10 = 0 by omega]; rfl
theorem rHi_high {l : List Nat} {i : Nat} (hi : 10 ≤ i) : rHi l i = rHi l 10 := by
  unfold rHi
  rw [show min i 10 = 10 by omega]; rfl
theorem rLo_snoc {l : List Nat} {i c : Nat} (h : (padq l)[i]? = some c) (hi : 10 ≤ i) : rLo l (i + 1) = rLo l i * 64 + c := by
  unfold rLo
  rw [show i + 1 - 10 = (i - 10) + 1 by omega, take_cons_snoc (c := c) (by rw [List.getElem?_drop, show 10 + (i - 10) = i by omega]; exact h), hq_snoc]
theorem r_lt {l : List Nat} (hl : l.length ≤ 20) (hc : ∀ c ∈ l, c < 64) (i : Nat) (hi : i ≤ 20) : rHi l i < 1152921504606846976 ∧ rLo l i < 1152921504606846976 := by
  have hp : ∀ n, n ≤ 10 → 64 ^ n ≤ 1152921504606846976 := fun n hn => Nat.pow_le_pow_right (n := 64) (by decide) hn
  constructor
  · have h := hq_lt _ ((padq l).take (min i 10)) rfl (fun c h => padq_lt hc c (List.mem_of_mem_take h))
    exact Nat.lt_of_lt_of_le h (hp _ (by simp; omega))
  · have h := hq_lt _ (((padq l).drop 10).take (i - 10)) rfl (fun c h => padq_lt hc c (List.mem_of_mem_drop (List.mem_of_mem_take h)))
    exact Nat.lt_of_lt_of_le h (hp _ (by simp; omega))
theorem rHi_end {l : List Nat} (hl : l.length ≤ 20) : rHi l 20 = kHi l := by
  unfold rHi kHi wordq
  rw [show min 20 10 = 10 from rfl, ← hq_zeros]
  congr 1
  unfold padq
  rw [List.take_append]
  congr 1
  simp [List.take_replicate]
  omega
theorem rLo_end {l : List Nat} (hl : l.length ≤ 20) : rLo l 20 = kLo l := by
  unfold rLo kLo wordq
  rw [← hq_zeros, List.take_of_length_le (by rw [List.length_drop, padq_len hl]; exact Nat.le_refl _)]
  congr 1
  unfold padq
  rw [List.drop_append]
  congr 1
  simp [List.drop_replicate]
  omega
end Go.Proofs.Ytkjmacdekfbfhaa
