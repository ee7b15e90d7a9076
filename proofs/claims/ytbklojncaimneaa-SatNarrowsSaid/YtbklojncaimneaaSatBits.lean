/- The lowest bits of a number, one after the other: plain facts, and the reference's loop over them. -/
import Derived.Test.YtbklojncaimneaaSat
namespace Go.Proofs.Ytbklojncaimneaa
open Go.RowKit
set_option linter.unusedSimpArgs false
set_option linter.unusedVariables false

theorem two_pos (k : Nat) : (0 : Int) < 2 ^ k := Int.pow_pos (by decide)
theorem two_split (j b : Nat) (h : j ≤ b) : (2 : Int) ^ b = 2 ^ j * 2 ^ (b - j) := by rw [← Int.pow_add]; congr 1; omega
theorem par (x q : Int) (j b : Nat) (h : j < b) : ((x + 2 ^ b * q) / 2 ^ j) % 2 = (x / 2 ^ j) % 2 := by
  have e : (2 : Int) ^ b * q = 2 ^ j * (2 * (2 ^ (b - (j + 1)) * q)) := by
    rw [two_split (j + 1) b (by omega), Int.pow_succ]
    simp only [Int.mul_assoc]
  rw [e, Int.add_mul_ediv_left _ _ (by have := two_pos j; omega), Int.add_mul_emod_self_left]
theorem par_mod (n : Int) (j : Nat) (h : j < 64) : ((n % 18446744073709551616) / 2 ^ j) % 2 = (n / 2 ^ j) % 2 := by
  have e := Int.emod_add_mul_ediv n 18446744073709551616
  have := par (n % 18446744073709551616) (n / 18446744073709551616) j 64 h
  rw [show (2 : Int) ^ 64 = 18446744073709551616 by decide, e] at this
  exact this.symm
theorem low_step (M : Int) (k : Nat) : M % 2 ^ (k + 1) = M % 2 ^ k + 2 ^ k * ((M / 2 ^ k) % 2) := by
  have p := two_pos k
  have e := Int.emod_add_mul_ediv M (2 ^ k)
  have r0 := Int.emod_nonneg M (show (2 : Int) ^ k ≠ 0 by omega)
  have r1 := Int.emod_lt_of_pos M p
  have e2 := Int.emod_add_mul_ediv (M / 2 ^ k) 2
  have d0 := Int.emod_nonneg (M / 2 ^ k) (show (2 : Int) ≠ 0 by omega)
  have d1 := Int.emod_lt_of_pos (M / 2 ^ k) (show (0 : Int) < 2 by omega)
  have hp : (2 : Int) ^ (k + 1) = 2 ^ k * 2 := Int.pow_succ 2 k
  have hd : (M / 2 ^ k) % 2 = 0 ∨ (M / 2 ^ k) % 2 = 1 := by omega
  refine (fl_uniq (a := M) (b := 2 ^ (k + 1)) (q := M / 2 ^ k / 2) (by omega) ?_ ?_ ?_).2
  · rw [hp, Int.mul_assoc]
    rcases hd with h | h
    · rw [h] at e2 ⊢
      rw [Int.mul_zero, Int.add_zero, show 2 * (M / 2 ^ k / 2) = M / 2 ^ k by omega]; exact e
    · rw [h] at e2 ⊢
      rw [Int.mul_one, show 2 * (M / 2 ^ k / 2) = M / 2 ^ k - 1 by omega, Int.mul_sub]; omega
  · rcases hd with h | h <;> rw [h] <;> omega
  · rcases hd with h | h <;> rw [h] <;> omega

/-- The lowest bits as a number with a sign, by sums alone. -/
theorem narrowq_eq (n bits : Int) (h1 : 1 ≤ bits) (h2 : bits ≤ 64) :
    narrowq n bits = (n + 2 ^ (bits.toNat - 1)) % 2 ^ bits.toNat - 2 ^ (bits.toNat - 1) := by
  obtain ⟨b, rfl⟩ := Int.eq_ofNat_of_zero_le (show 0 ≤ bits by omega)
  unfold narrowq
  rw [if_neg (by omega)]
  simp only [Int.toNat_natCast]
  have hk : ((64 : Int) - (b : Int)).toNat = 64 - b := by omega
  rw [hk]
  have hP := two_pos (64 - b)
  have e1 : (18446744073709551616 : Int) = 2 ^ (64 - b) * 2 ^ b := by
    rw [← Int.pow_add, show 64 - b + b = 64 by omega]; decide
  have e2 : (9223372036854775808 : Int) = 2 ^ (64 - b) * 2 ^ (b - 1) := by
    rw [← Int.pow_add, show 64 - b + (b - 1) = 63 by omega]; decide
  unfold wrap64
  rw [e1, e2, show n * 2 ^ (64 - b) + 2 ^ (64 - b) * 2 ^ (b - 1) = 2 ^ (64 - b) * (n + 2 ^ (b - 1)) by rw [Int.mul_add, Int.mul_comm n]]
  rw [Int.mul_emod_mul_of_pos _ _ hP, ← Int.mul_sub, Int.mul_ediv_cancel_left _ (by omega)]
theorem narrow_bd (n bits : Int) (h1 : 1 ≤ bits) (h2 : bits ≤ 64) : -2 ^ (bits.toNat - 1) ≤ narrowq n bits ∧ narrowq n bits < 2 ^ (bits.toNat - 1) := by
  rw [narrowq_eq n bits h1 h2]
  have p := two_pos bits.toNat
  have e : (2 : Int) ^ bits.toNat = 2 ^ (bits.toNat - 1) * 2 := by rw [← Int.pow_succ]; congr 1; omega
  have r0 := Int.emod_nonneg (n + 2 ^ (bits.toNat - 1)) (show (2 : Int) ^ bits.toNat ≠ 0 by omega)
  have r1 := Int.emod_lt_of_pos (n + 2 ^ (bits.toNat - 1)) p
  omega
theorem narrow_cong (n bits : Int) (h1 : 1 ≤ bits) (h2 : bits ≤ 64) : ∃ q, n = narrowq n bits + 2 ^ bits.toNat * q := by
  rw [narrowq_eq n bits h1 h2]
  refine ⟨(n + 2 ^ (bits.toNat - 1)) / 2 ^ bits.toNat, ?_⟩
  have e := Int.emod_add_mul_ediv (n + 2 ^ (bits.toNat - 1)) (2 ^ bits.toNat)
  omega
/-- Bit j of the result, read off n. -/
theorem narrow_bit (n bits : Int) (h1 : 1 ≤ bits) (h2 : bits ≤ 64) (j : Nat) (hj : j < bits.toNat) : (narrowq n bits / 2 ^ j) % 2 = (n / 2 ^ j) % 2 := by
  obtain ⟨q, hq⟩ := narrow_cong n bits h1 h2
  have := par (narrowq n bits) q j bits.toNat hj
  rw [← hq] at this
  exact this.symm
theorem sign_bit (M : Int) (c j : Nat) (hc : c ≤ j) (h0 : -2 ^ c ≤ M) (h1 : M < 2 ^ c) : (M / 2 ^ j) % 2 = (M / 2 ^ c) % 2 := by
  have p := two_pos c
  have pj := two_pos j
  have hle : (2 : Int) ^ c ≤ 2 ^ j := by
    rw [two_split c j hc]
    have := two_pos (j - c)
    have := Int.mul_le_mul_of_nonneg_left (show (1 : Int) ≤ 2 ^ (j - c) by omega) (show (0 : Int) ≤ 2 ^ c by omega)
    omega
  have q : ∀ d : Nat, (2 : Int) ^ c ≤ 2 ^ d → M / 2 ^ d = if M < 0 then -1 else 0 := by
    intro d hd
    by_cases hM : M < 0
    · rw [if_pos hM]
      exact (fl_uniq (r := M + 2 ^ d) (by omega) (by omega) (by omega) (by omega)).1
    · rw [if_neg hM]
      exact (fl_uniq (r := M) (by omega) (by omega) (by omega) (by omega)).1
  rw [q j hle, q c (Int.le_refl _)]

theorem nb (n bits : Int) (k c : Nat) (h1 : 1 ≤ bits) (h2 : bits ≤ 64) (hk : k < 64) (hc : (c = k ∧ (k : Int) < bits) ∨ (c = bits.toNat - 1 ∧ bits ≤ k)) :
    (IntKind.u64.wrap n / 2 ^ c).tmod 2 = (narrowq n bits / 2 ^ k) % 2 := by
  have hc64 : c < 64 := by omega
  have hcb : c < bits.toNat := by omega
  have h0 : 0 ≤ (n % 18446744073709551616) / 2 ^ c := Int.ediv_nonneg (by omega) (by have := two_pos c; omega)
  rw [IntKind.wrap_u64, Int.tmod_eq_emod_of_nonneg h0, par_mod n c hc64, ← narrow_bit n bits h1 h2 c hcb]
  rcases hc with ⟨rfl, _⟩ | ⟨rfl, hk2⟩
  · rfl
  · have := narrow_bd n bits h1 h2
    exact (sign_bit _ _ _ (by omega) this.1 this.2).symm
theorem one_step (k : Nat) (hk : k < 64) : IntKind.u64.wrap (2 ^ k % 18446744073709551616 * 2) = 2 ^ (k + 1) % 18446744073709551616 := by
  rw [IntKind.wrap_u64, Int.pow_succ]; omega
theorem two_le (k m : Nat) (h : k ≤ m) : (2 : Int) ^ k ≤ 2 ^ m := by
  rw [two_split k m h]
  have := two_pos (m - k)
  have := two_pos k
  have := Int.mul_le_mul_of_nonneg_left (show (1 : Int) ≤ 2 ^ (m - k) by omega) (show (0 : Int) ≤ 2 ^ k by omega)
  omega
theorem low_bd (M : Int) (k : Nat) (hk : k ≤ 63) : 0 ≤ M % 2 ^ k ∧ M % 2 ^ k < 2 ^ k ∧ (2 : Int) ^ k ≤ 9223372036854775808 ∧ 0 < (2 : Int) ^ k := by
  have p := two_pos k
  exact ⟨Int.emod_nonneg _ (by omega), Int.emod_lt_of_pos _ p, by have := two_le k 63 hk; rwa [show (2 : Int) ^ 63 = 9223372036854775808 by decide] at this, p⟩
theorem out_yes (M : Int) (k : Nat) (hk : k < 64) (h : (M / 2 ^ k) % 2 = 1) : IntKind.u64.wrap (M % 2 ^ k + 2 ^ k % 18446744073709551616) = M % 2 ^ (k + 1) := by
  have := low_bd M k (by omega)
  rw [low_step, h, IntKind.wrap_u64]; omega
theorem out_no (M : Int) (k : Nat) (h : (M / 2 ^ k) % 2 ≠ 1) : M % 2 ^ k = M % 2 ^ (k + 1) := by
  rw [low_step]
  have : (M / 2 ^ k) % 2 = 0 := by omega
  rw [this]; omega
theorem narrow_I64 (n bits : Int) : I64 (narrowq n bits) := by
  by_cases h : bits < 1 ∨ 64 < bits
  · unfold narrowq; rw [if_pos h]; unfold I64; omega
  · have := narrow_bd n bits (by omega) (by omega)
    have h2 := two_le (bits.toNat - 1) 63 (by omega)
    rw [show (2 : Int) ^ 63 = 9223372036854775808 by decide] at h2
    unfold I64; omega
theorem out_end (M : Int) (h : I64 M) : wrap64 (M % 2 ^ 64) = M := by
  rw [show (2 : Int) ^ 64 = 18446744073709551616 by decide]
  unfold wrap64; unfold I64 at h; omega

set_option maxHeartbeats 400000 in
theorem ref_Narrow_in (n bits : Int) (w : World) (h1 : 1 ≤ bits) (h2 : bits ≤ 64) :
    Calls Try.prog 20 #[.int .i64 n, .int .i64 bits] w fun e w' => e = .returned (.int .i64 (narrowq n bits)) ∧ w = w' := by
  go_enter Try.func20, Try.ntmps20
  go_wp2
  go_loop [5, 6, 8, 9] (fun t o i _ => ∃ k : Nat, k ≤ 64 ∧ i = .int .i64 k ∧ t = .int .u64 (narrowq n bits % 2 ^ k) ∧ o = .int .u64 (2 ^ k % 18446744073709551616)) (fun _ _ i _ => 64 - (intOf i).toNat)
  case atStart => exact ⟨0, by omega, rfl, by simp, by simp⟩
  case round =>
    obtain ⟨k, hk, rfl, rfl, rfl⟩ := hrel
    by_cases hlt : k < 64
    · go_wp2
      · have h3 : bits ≤ (k : Int) := by assumption
        have h4 : ((IntKind.u64.wrap n / 2 ^ (bits.toNat - 1)).tmod 2 == 1) = true := by assumption
        rw [nb n bits k _ h1 h2 hlt (.inr ⟨rfl, h3⟩)] at h4
        go_round
        case rel => exact ⟨k + 1, by omega, by go_num, by rw [out_yes _ k hlt (by simpa using h4)], by rw [one_step k hlt]⟩
        case measure => simp [intOf]; omega
      · have h3 : bits ≤ (k : Int) := by assumption
        have h4 : ((IntKind.u64.wrap n / 2 ^ (bits.toNat - 1)).tmod 2 == 1) = false := by assumption
        rw [nb n bits k _ h1 h2 hlt (.inr ⟨rfl, h3⟩)] at h4
        go_round
        case rel => exact ⟨k + 1, by omega, by go_num, by rw [out_no _ k (by simpa using h4)], by rw [one_step k hlt]⟩
        case measure => simp [intOf]; omega
      · have h3 : (k : Int) < bits := by assumption
        have h4 : ((IntKind.u64.wrap n / 2 ^ k).tmod 2 == 1) = true := by assumption
        rw [nb n bits k _ h1 h2 hlt (.inl ⟨rfl, h3⟩)] at h4
        go_round
        case rel => exact ⟨k + 1, by omega, by go_num, by rw [out_yes _ k hlt (by simpa using h4)], by rw [one_step k hlt]⟩
        case measure => simp [intOf]; omega
      · have h3 : (k : Int) < bits := by assumption
        have h4 : ((IntKind.u64.wrap n / 2 ^ k).tmod 2 == 1) = false := by assumption
        rw [nb n bits k _ h1 h2 hlt (.inl ⟨rfl, h3⟩)] at h4
        go_round
        case rel => exact ⟨k + 1, by omega, by go_num, by rw [out_no _ k (by simpa using h4)], by rw [one_step k hlt]⟩
        case measure => simp [intOf]; omega
    · obtain rfl : k = 64 := by omega
      go_wp2
      go_ret
      exact ⟨ret_int (out_end _ (narrow_I64 _ _)), rfl⟩
set_option maxHeartbeats 400000 in
theorem ref_Narrow (n bits : Int) (w : World) :
    Calls Try.prog 20 #[.int .i64 n, .int .i64 bits] w fun e w' => e = .returned (.int .i64 (narrowq n bits)) ∧ w = w' := by
  by_cases h : bits < 1
  · go_enter Try.func20, Try.ntmps20
    go_wp2
    go_ret
    exact ⟨ret_int (by unfold narrowq; rw [if_pos (.inl h)]), rfl⟩
  · by_cases h2 : 64 < bits
    · go_enter Try.func20, Try.ntmps20
      go_wp2
      go_ret
      exact ⟨ret_int (by unfold narrowq; rw [if_pos (.inr h2)]), rfl⟩
    · exact ref_Narrow_in n bits w (by omega) (by omega)
/-- What was narrowed stays what it is, in as many bits or more. -/
theorem narrow_stays (n bits wide : Int) (h1 : 1 ≤ bits) (h2 : bits ≤ wide) (h3 : wide ≤ 64) : narrowq (narrowq n bits) wide = narrowq n bits := by
  have hb := narrow_bd n bits h1 (by omega)
  rw [narrowq_eq (narrowq n bits) wide (by omega) h3]
  have hle := two_le (bits.toNat - 1) (wide.toNat - 1) (by omega)
  have e : (2 : Int) ^ wide.toNat = 2 ^ (wide.toNat - 1) * 2 := by rw [← Int.pow_succ]; congr 1; omega
  rw [Int.emod_eq_of_lt (by omega) (by omega)]
  omega
end Go.Proofs.Ytbklojncaimneaa
