/- A number of 128 bits as a row of bools: plain facts. -/
import Derived.Test.YtkjmacdekfbfhaaBase
import Derived.Test.YtkjmacdekfbfhaaInt
namespace Go.Proofs.Ytkjmacdekfbfhaa
open Go.RowKit
set_option linter.unusedSimpArgs false
set_option linter.unusedVariables false

def arrF (f : Nat → Bool) : Array Value := ((List.range 128).map fun i => Value.bool (f i)).toArray
theorem arrF_size (f : Nat → Bool) : (arrF f).size = 128 := by simp [arrF]
theorem arrF_get (f : Nat → Bool) {i : Nat} (h : i < 128) : (arrF f)[i]? = some (.bool (f i)) := by simp [arrF, h]
theorem arrF_congr {f g : Nat → Bool} (h : ∀ i, i < 128 → f i = g i) : arrF f = arrF g := by
  unfold arrF
  congr 1
  exact List.map_congr_left fun i hi => by rw [h i (List.mem_range.1 hi)]
theorem arrF_set (f : Nat → Bool) {k : Nat} (hk : k < 128) (b : Bool) : (arrF f).setIfInBounds k (.bool b) = arrF fun i => if i = k then b else f i := by
  apply Array.ext_getElem?
  intro i
  rw [Array.getElem?_setIfInBounds, arrF_size]
  by_cases hi : i < 128
  · rw [arrF_get _ hi]
    by_cases hik : k = i
    · subst hik; rw [arrF_get _ hi]; simp [hk]
    · rw [if_neg hik, arrF_get _ hi, if_neg (fun e => hik e.symm)]
  · rw [Array.getElem?_eq_none (by rw [arrF_size]; omega)]
    by_cases hik : k = i
    · omega
    · rw [if_neg hik, Array.getElem?_eq_none (by rw [arrF_size]; omega)]
theorem arrF_one (f : Nat → Bool) : (arrF f).all (·.oneCell') = true := by
  rw [Array.all_eq_true_iff_forall_mem]
  intro v hv
  simp only [arrF, List.mem_toArray, List.mem_map] at hv
  obtain ⟨i, _, rfl⟩ := hv
  rfl
/-- The row of a number's bits. -/
def bitsA (N : Nat) : Array Value := arrF N.testBit
theorem bitsA_size (N : Nat) : (bitsA N).size = 128 := arrF_size _
theorem bitsA_get (N : Nat) {i : Nat} (h : i < 128) : (bitsA N)[i]? = some (.bool (N.testBit i)) := arrF_get _ h
theorem bitsA_one (N : Nat) : (bitsA N).all (·.oneCell') = true := arrF_one _
theorem bitsA_inj {M N : Nat} (hM : M < 2 ^ 128) (hN : N < 2 ^ 128) (h : bitsA M = bitsA N) : M = N := by
  apply Nat.eq_of_testBit_eq
  intro i
  rcases Nat.lt_or_ge i 128 with hi | hi
  · have := bitsA_get M hi
    rw [h, bitsA_get N hi] at this
    simpa using this.symm
  · rw [Nat.testBit_lt_two_pow (Nat.lt_of_lt_of_le hM (Nat.pow_le_pow_right (by decide) hi)), Nat.testBit_lt_two_pow (Nat.lt_of_lt_of_le hN (Nat.pow_le_pow_right (by decide) hi))]
theorem zero_row : (List.replicate 128 (Value.bool false)).toArray = bitsA 0 := by
  unfold bitsA arrF
  congr 1
theorem tb_mod (x i : Nat) : (x / 2 ^ i % 2 == 1) = x.testBit i := by rw [Nat.testBit_eq_decide_div_mod_eq]; rfl
theorem tb_join (hi lo i : Nat) (hl : lo < 2 ^ 64) : (hi * 2 ^ 64 + lo).testBit i = if i < 64 then lo.testBit i else hi.testBit (i - 64) := by
  rw [Nat.mul_comm]
  split
  · rename_i h; rw [Nat.testBit_two_pow_mul_add _ hl, if_pos h]
  · rename_i h; rw [Nat.testBit_two_pow_mul_add _ hl, if_neg h]
/-- The higher and the lower word. -/
def hiQ (N : Nat) : Nat := N / 2 ^ 64
def loQ (N : Nat) : Nat := N % 2 ^ 64
theorem hiQ_lt {N : Nat} (h : N < 2 ^ 128) : hiQ N < 2 ^ 64 := by unfold hiQ; omega
theorem loQ_lt (N : Nat) : loQ N < 2 ^ 64 := by unfold loQ; omega
theorem hilo_eq (N : Nat) : hiQ N * 2 ^ 64 + loQ N = N := by unfold hiQ loQ; omega
theorem bit_walk (x k : Nat) : (((x : Int) / 2 ^ k).tmod 2 == 1) = x.testBit k := by
  have e : (x : Int) / 2 ^ k = ((x / 2 ^ k : Nat) : Int) := by
    rw [show (2 : Int) ^ k = ((2 ^ k : Nat) : Int) by simp]; exact (Int.natCast_ediv _ _).symm
  rw [e, ← tb_mod]
  generalize x / 2 ^ k = q
  rw [Int.tmod_eq_emod_of_nonneg (by omega), Bool.eq_iff_iff]; simp; omega
theorem div_bit (x m : Nat) : x / 2 ^ m = 2 * (x / 2 ^ (m + 1)) + if x.testBit m then 1 else 0 := by
  have e : x / 2 ^ (m + 1) = x / 2 ^ m / 2 := by rw [Nat.div_div_eq_div_mul, Nat.pow_succ]
  have h := tb_mod x m
  rw [e]
  cases hb : x.testBit m
  · rw [hb] at h
    have : x / 2 ^ m % 2 ≠ 1 := by simpa using h
    simp; omega
  · rw [hb] at h
    have : x / 2 ^ m % 2 = 1 := by simpa using h
    simp; omega
theorem lowmod_bit (x k : Nat) : x % 2 ^ (k + 1) = x % 2 ^ k + if x.testBit k then 2 ^ k else 0 := by
  have h := tb_mod x k
  rw [Nat.mod_pow_succ]
  cases hb : x.testBit k
  · rw [hb] at h
    have : x / 2 ^ k % 2 = 0 := by have : x / 2 ^ k % 2 ≠ 1 := by simpa using h
                                   omega
    rw [this]; simp
  · rw [hb] at h
    have : x / 2 ^ k % 2 = 1 := by simpa using h
    rw [this]; simp
/-- The row after k rounds of 'Of'. -/
def ofF (hi lo k : Nat) : Nat → Bool := fun i => if i < k then lo.testBit i else if 64 ≤ i ∧ i < 64 + k then hi.testBit (i - 64) else false
theorem ofF_zero (hi lo : Nat) : arrF (ofF hi lo 0) = bitsA 0 := arrF_congr fun i h => by unfold ofF; simp; omega
theorem ofF_end (hi lo : Nat) (hl : lo < 2 ^ 64) : arrF (ofF hi lo 64) = bitsA (hi * 2 ^ 64 + lo) := arrF_congr fun i h => by
  rw [tb_join hi lo i hl]
  unfold ofF
  split
  · rfl
  · rw [if_pos (by omega)]
theorem ofF_step (hi lo k : Nat) (hk : k < 64) : ((arrF (ofF hi lo k)).setIfInBounds k (.bool (lo.testBit k))).setIfInBounds (64 + k) (.bool (hi.testBit k)) = arrF (ofF hi lo (k + 1)) := by
  rw [arrF_set _ (by omega), arrF_set _ (by omega)]
  refine arrF_congr fun i h => ?_
  unfold ofF
  by_cases h1 : i = 64 + k
  · subst h1; rw [if_pos rfl, if_neg (by omega), if_pos (by omega)]; congr 1; omega
  · rw [if_neg h1]
    by_cases h2 : i = k
    · subst h2; rw [if_pos rfl, if_pos (by omega)]
    · rw [if_neg h2]
      by_cases h3 : i < k
      · rw [if_pos h3, if_pos (by omega)]
      · rw [if_neg h3, if_neg (show ¬ i < k + 1 by omega)]
        by_cases h4 : 64 ≤ i ∧ i < 64 + k
        · rw [if_pos h4, if_pos (by omega)]
        · rw [if_neg h4, if_neg (by omega)]
end Go.Proofs.Ytkjmacdekfbfhaa
