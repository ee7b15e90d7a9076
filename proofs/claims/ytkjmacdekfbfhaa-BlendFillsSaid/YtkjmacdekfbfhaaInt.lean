/- Plain facts on whole numbers: quotients rounded down, up and towards zero. -/
namespace Go.Proofs.Ytkjmacdekfbfhaa
theorem fl_uniq {a b q r : Int} (hb : 0 < b) (h : r + b * q = a) (h0 : 0 ≤ r) (h1 : r < b) : a / b = q ∧ a % b = r :=
  (Int.ediv_emod_unique hb).2 ⟨h, h0, h1⟩
theorem fl_tdiv (a b : Int) (hb : 1 ≤ b) : a.tdiv b = a / b + if 0 ≤ a ∨ a % b = 0 then 0 else 1 := by
  rw [Int.tdiv_eq_ediv, Int.sign_eq_one_of_pos (by omega)]
  by_cases h0 : 0 ≤ a <;> by_cases h1 : a % b = 0
  · rw [if_pos (.inl h0), if_pos (.inl h0)]
  · rw [if_pos (.inl h0), if_pos (.inl h0)]
  · rw [if_pos (.inr (Int.dvd_of_emod_eq_zero h1)), if_pos (.inr h1)]
  · rw [if_neg (fun h => h.elim h0 fun h => h1 (Int.emod_eq_zero_of_dvd h)), if_neg (fun h => h.elim h0 h1)]
theorem fl_tmod (a b : Int) (hb : 1 ≤ b) : a.tmod b = a % b - if 0 ≤ a ∨ a % b = 0 then 0 else b := by
  rw [Int.tmod_eq_emod]
  by_cases h0 : 0 ≤ a <;> by_cases h1 : a % b = 0
  · rw [if_pos (.inl h0), if_pos (.inl h0)]; omega
  · rw [if_pos (.inl h0), if_pos (.inl h0)]; omega
  · rw [if_pos (.inr (Int.dvd_of_emod_eq_zero h1)), if_pos (.inr h1)]; omega
  · rw [if_neg (fun h => h.elim h0 fun h => h1 (Int.emod_eq_zero_of_dvd h)), if_neg (fun h => h.elim h0 h1)]; omega
theorem fl_bd (a b : Int) (hb : 1 ≤ b) : (a % b + b * (a / b) = a ∧ 0 ≤ a % b ∧ a % b < b) ∧ (0 ≤ a → 0 ≤ a / b ∧ a / b ≤ a) ∧ (a < 0 → a ≤ a / b ∧ a / b ≤ -1) := by
  have e := Int.emod_add_mul_ediv a b
  have r0 := Int.emod_nonneg a (show b ≠ 0 by omega)
  have r1 := Int.emod_lt_of_pos a (show 0 < b by omega)
  refine ⟨⟨e, r0, r1⟩, fun h => ⟨Int.ediv_nonneg h (by omega), Int.ediv_le_self _ h⟩, fun h => ⟨?_, ?_⟩⟩
  · exact (Int.le_ediv_iff_mul_le (by omega)).2 (by have := Int.mul_le_mul_of_nonpos_left (a := a) (by omega) hb; omega)
  · have := (Int.ediv_lt_iff_lt_mul (a := a) (b := 0) (c := b) (by omega)).2 (by omega)
    omega
theorem fl_neg (a b : Int) (hb : 1 ≤ b) : -((-a) / b) = a / b + if a % b = 0 then 0 else 1 := by
  have h := (fl_bd a b hb).1
  by_cases h0 : a % b = 0
  · have := (fl_uniq (a := -a) (b := b) (q := -(a / b)) (r := 0) (by omega) (by rw [Int.mul_neg]; omega) (by omega) (by omega)).1
    rw [if_pos h0]; omega
  · have := (fl_uniq (a := -a) (b := b) (q := -(a / b) - 1) (r := b - a % b) (by omega) (by rw [Int.mul_sub, Int.mul_neg]; omega) (by omega) (by omega)).1
    rw [if_neg h0]; omega
theorem fl_not (a b : Int) (hb : 1 ≤ b) : (-1 - a) / b = -1 - a / b := by
  have h := (fl_bd a b hb).1
  exact (fl_uniq (a := -1 - a) (b := b) (q := -1 - a / b) (r := b - 1 - a % b) (by omega) (by rw [Int.mul_sub]; omega) (by omega) (by omega)).1
theorem fl_less (a b : Int) (hb : 1 ≤ b) : (a - 1) / b = a / b - if a % b = 0 then 1 else 0 := by
  have h := (fl_bd a b hb).1
  by_cases h0 : a % b = 0
  · rw [if_pos h0]
    exact (fl_uniq (a := a - 1) (b := b) (q := a / b - 1) (r := b - 1) (by omega) (by rw [Int.mul_sub]; omega) (by omega) (by omega)).1
  · rw [if_neg h0]
    exact (fl_uniq (a := a - 1) (b := b) (q := a / b - 0) (r := a % b - 1) (by omega) (by rw [Int.sub_zero]; omega) (by omega) (by omega)).1
end Go.Proofs.Ytkjmacdekfbfhaa
