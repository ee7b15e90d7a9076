/- Package fnv and its reference: the calls give just the sums of the plain facts. -/
import Derived.Test.YtkjmacdekfbfhaaFnvP
import Derived.Test.YtkjmacdekfbfhaaOpen
import Derived.Deep.Light
import Derived.BigQuiet
import Derived.Deep.QuietTactic
import Derived.Handy
namespace Go.Proofs.Ytkjmacdekfbfhaa
open Go.RowKit
set_option linter.unusedSimpArgs false
set_option linter.unusedVariables false
set_option maxHeartbeats 400000

theorem u8_lt (s : ByteArray) (k : Nat) (h : k < s.size) : s[k].toNat < 256 := s[k].toNat_lt
theorem fnv_Sum64 (s : ByteArray) (w : World) (hs : s.size ≤ maxLen) :
    Calls Try.prog 135 #[.string s] w fun e w' => e = .returned (.int .u64 ((sum64N (codes s.data.toList) : Nat) : Int)) ∧ w = w' := by
  unfold maxLen at hs
  go_enter Try.func135, Try.ntmps135
  go_wp2
  go_loop [3, 4, 7] (fun h _ i => ∃ k a : Nat, k ≤ s.size ∧ i = .int .i64 k ∧ h = .int .u64 a ∧ a = sum64N (codes (s.data.toList.take k))) (fun _ _ i => s.size - (intOf i).toNat)
  case atStart => exact ⟨0, _, Nat.zero_le _, rfl, rfl, rfl⟩
  case round =>
    obtain ⟨k, a, hk, rfl, rfl, ha⟩ := hrel
    have HA := Lib.hid ha
    clear ha
    by_cases hlt : k < s.size
    · go_wp2
      go_round
      case rel =>
        refine ⟨k + 1, step a s[k].toNat, by omega, by go_num, ?_, ?_⟩
        · rw [step_walk a _ (by rw [HA.out]; exact sum64_lt _) (u8_lt s k hlt)]
        · rw [codes_take s k hlt, sum64_snoc, HA.out]
      case measure => simp [intOf]; omega
    · go_wp2
      go_ret
      refine ⟨ret_int ?_, rfl⟩
      show (a : Int) = _
      rw [HA.out, List.take_of_length_le (by simp; omega)]
theorem ref_Unlike (a b : Nat) (w : World) (ha : a < 256) (hb : b < 256) :
    Calls Try.prog 162 #[.int .u64 a, .int .u64 b] w fun e w' => e = .returned (.int .u64 ((a ^^^ b : Nat) : Int)) ∧ w = w' := by
  go_enter Try.func162, Try.ntmps162
  go_wp2
  go_loop [0, 1, 5, 6, 7] (fun x y o p i => ∃ k x' y' o' p' : Nat, k ≤ 8 ∧ x' < 256 ∧ y' < 256 ∧ o' < 256 ∧ p' ≤ 256 ∧ i = .int .i64 k ∧ x = .int .u64 x' ∧ y = .int .u64 y' ∧ o = .int .u64 o' ∧ p = .int .u64 p' ∧
    (x' = a / 2 ^ k ∧ y' = b / 2 ^ k ∧ o' = (a ^^^ b) % 2 ^ k ∧ p' = 2 ^ k)) (fun _ _ _ _ i => 8 - (intOf i).toNat)
  case atStart => exact ⟨0, a, b, 0, 1, by omega, ha, hb, by omega, by omega, rfl, rfl, rfl, rfl, rfl, by simp, by simp, by simp [Nat.mod_one], rfl⟩
  case round =>
    obtain ⟨k, x, y, o, p, hk, hx, hy, ho, hp, rfl, rfl, rfl, rfl, rfl, hr⟩ := hrel
    have HR := Lib.hid hr
    clear hr
    by_cases hlt : k < 8
    · have hq : k < 8 → 2 ^ (k + 1) ≤ 256 := fun h => Nat.pow_le_pow_right (n := 2) (by decide) (show k + 1 ≤ 8 by omega)
      have hz := hq hlt
      have hX := xor_lt_256 a b ha hb
      clear hq
      by_cases hb : x % 2 = y % 2
      · have hb1 : ((x : Int) % 2 != (y : Int) % 2) = false := by simp; omega
        have hb2 : ((x : Int) % 2 == (y : Int) % 2) = true := by simp; omega
        clear hb
        go_wp2
        go_round
        case rel =>
          obtain ⟨h1, h2, h3, h4⟩ := HR.out
          refine ⟨k + 1, x / 2, y / 2, o, p * 2, by omega, by omega, by omega, by omega, ?_, by go_num, rfl, rfl, rfl, ?_, ?_⟩
          · rw [h4, ← Nat.pow_succ]; exact hz
          · simp
          · refine ⟨by rw [h1, div_step], by rw [h2, div_step], ?_, by rw [h4, Nat.pow_succ]⟩
            rw [h3]; exact unlike_no _ _ _ (by rw [← h1, ← h2]; simp at hb2; omega)
        case measure => simp [intOf]; omega
      · have hb1 : ((x : Int) % 2 != (y : Int) % 2) = true := by simp; omega
        have hb2 : ((x : Int) % 2 == (y : Int) % 2) = false := by simp; omega
        clear hb
        go_wp2
        go_round
        case rel =>
          obtain ⟨h1, h2, h3, h4⟩ := HR.out
          have h5 : o + p = (a ^^^ b) % 2 ^ (k + 1) := by
            rw [h3, h4]; exact unlike_yes _ _ _ (by rw [← h1, ← h2]; intro h; simp at hb2; omega)
          have h6 := Nat.mod_lt (a ^^^ b) (nat_two_pos (k + 1))
          refine ⟨k + 1, x / 2, y / 2, o + p, p * 2, by omega, by omega, by omega, by omega, ?_, by go_num, rfl, rfl, by go_num, ?_, ?_⟩
          · rw [h4, ← Nat.pow_succ]; exact hz
          · simp
          · exact ⟨by rw [h1, div_step], by rw [h2, div_step], h5, by rw [h4, Nat.pow_succ]⟩
        case measure => simp [intOf]; omega
    · obtain rfl : k = 8 := by omega
      go_wp2
      go_ret
      refine ⟨ret_int ?_, rfl⟩
      show (o : Int) = _
      rw [HR.out.2.2.1, Nat.mod_eq_of_lt (xor_lt_256 a b ha hb)]
theorem ref_Step (h c : Nat) (w : World) (hh : h < 18446744073709551616) (hc : c < 256) :
    Calls Try.prog 136 #[.int .u64 h, .int .u8 c] w fun e w' => e = .returned (.int .u64 ((step h c : Nat) : Int)) ∧ w = w' := by
  have e1 : ((h : Int) % 256) = ((h % 256 : Nat) : Int) := by omega
  have H1 := Lib.hid e1
  clear e1
  have hm : h % 256 < 256 := Nat.mod_lt _ (by decide)
  go_enter Try.func136, Try.ntmps136
  go_wp2_with (fail)
  rw [H1.out]
  refine (ref_Unlike (h % 256) c _ hm hc).mono ?_
  rintro e w1 ⟨rfl, rfl⟩
  go_wp2
  go_ret
  refine ⟨ret_int ?_, rfl⟩
  exact step_ref h c hh hc
theorem fnv_Fold (h : Nat) (b : Int) (w : World) (hh : h < 18446744073709551616) :
    Calls Try.prog 107 #[.int .u64 h, .int .i64 b] w fun e w' => e = .returned (.int .u64 ((foldq h b : Nat) : Int)) ∧ w = w' := by
  by_cases h1 : b < 1
  · go_enter Try.func107, Try.ntmps107
    go_wp2
    go_ret
    exact ⟨ret_int (by unfold foldq; rw [if_pos (.inl h1)]; rfl), rfl⟩
  · by_cases h2 : 32 < b
    · go_enter Try.func107, Try.ntmps107
      go_wp2
      go_ret
      exact ⟨ret_int (by unfold foldq; rw [if_pos (.inr h2)]; rfl), rfl⟩
    · have h3 : 1 ≤ b := by omega
      have h4 : b ≤ 32 := by omega
      clear h1 h2
      go_enter Try.func107, Try.ntmps107
      go_wp2
      go_ret
      exact ⟨ret_int (fold_walk h b h3 h4 hh), rfl⟩
theorem ref_Fold_in (h b : Nat) (w : World) (hh : h < 18446744073709551616) (h1 : 1 ≤ b) (h2 : b ≤ 32) :
    Calls Try.prog 111 #[.int .u64 h, .int .i64 b] w fun e w' => e = .returned (.int .u64 ((foldq h (b : Int) : Nat) : Int)) ∧ w = w' := by
  have hp : ∀ k, k ≤ 32 → 2 ^ k ≤ 4294967296 := pow32
  have HP := Lib.hid hp
  clear hp
  go_enter Try.func111, Try.ntmps111
  go_wp2
  go_loop [5, 6] (fun d i => ∃ k d' : Nat, k ≤ b ∧ i = .int .i64 k ∧ 1 ≤ d' ∧ d' ≤ 4294967296 ∧ d = .int .u64 d' ∧ d' = 2 ^ k) (fun _ i => b - (intOf i).toNat)
  case atStart => exact ⟨0, 1, by omega, rfl, by omega, by omega, rfl, rfl⟩
  case round =>
    obtain ⟨k, d, hk, rfl, hd1, hd2, rfl, hd⟩ := hrel
    have HD := Lib.hid hd
    clear hd
    by_cases hlt : k < b
    · go_wp2
      go_round
      case rel =>
        refine ⟨k + 1, d * 2, by omega, by go_num, by omega, ?_, by go_num, ?_⟩
        · rw [HD.out, ← Nat.pow_succ]; exact HP.out (k + 1) (by omega)
        · rw [HD.out, Nat.pow_succ]
      case measure => simp [intOf]; omega
    · obtain rfl : k = b := by omega
      have q0 : (0 : Int) ≤ (h : Int) / (d : Int) := Int.ediv_nonneg (by omega) (by omega)
      have q1 : (h : Int) / (d : Int) ≤ (h : Int) := Int.ediv_le_self _ (by omega)
      go_wp2
      go_loop [7, 8, 9, 10, 11] (fun x y o p i => ∃ m x' y' o' p' : Nat, m ≤ k ∧ x' ≤ 4294967296 ∧ y' ≤ 4294967296 ∧ o' ≤ 4294967296 ∧ p' ≤ 4294967296 ∧ i = .int .i64 m ∧ x = .int .u64 x' ∧ y = .int .u64 y' ∧ o = .int .u64 o' ∧ p = .int .u64 p' ∧
        (x' = h % 2 ^ k / 2 ^ m ∧ y' = h / 2 ^ k % 2 ^ k / 2 ^ m ∧ o' = (h % 2 ^ k ^^^ h / 2 ^ k % 2 ^ k) % 2 ^ m ∧ p' = 2 ^ m)) (fun _ _ _ _ i => k - (intOf i).toNat)
      case atStart =>
        have e := HD.out
        have l1 := Nat.mod_lt h (show 0 < d by omega)
        have l2 := Nat.mod_lt (h / d) (show 0 < d by omega)
        exact ⟨0, h % d, h / d % d, 0, 1, by omega, by omega, by omega, by omega, by omega, rfl, by go_num, by go_num, rfl, rfl, by rw [e]; simp, by rw [e]; simp, by simp [Nat.mod_one], rfl⟩
      case round =>
        obtain ⟨m, x, y, o, p, hk, hx, hy, ho, hp, rfl, rfl, rfl, rfl, rfl, hr⟩ := hrel
        have HR := Lib.hid hr
        clear hr q0 q1
        by_cases hlt : m < k
        · have hz := HP.out (m + 1) (by omega)
          by_cases hb : x % 2 = y % 2
          · have hb1 : ((x : Int) % 2 != (y : Int) % 2) = false := by simp; omega
            have hb2 : ((x : Int) % 2 == (y : Int) % 2) = true := by simp; omega
            clear hb
            go_wp2
            go_round
            case rel =>
              obtain ⟨h1, h2, h3, h4⟩ := HR.out
              refine ⟨m + 1, x / 2, y / 2, o, p * 2, by omega, by omega, by omega, by omega, ?_, by go_num, rfl, rfl, rfl, ?_, ?_⟩
              · rw [h4, ← Nat.pow_succ]; exact hz
              · simp
              · refine ⟨by rw [h1, div_step], by rw [h2, div_step], ?_, by rw [h4, Nat.pow_succ]⟩
                rw [h3]; exact unlike_no _ _ _ (by rw [← h1, ← h2]; simp at hb2; omega)
            case measure => simp [intOf]; omega
          · have hb1 : ((x : Int) % 2 != (y : Int) % 2) = true := by simp; omega
            have hb2 : ((x : Int) % 2 == (y : Int) % 2) = false := by simp; omega
            clear hb
            go_wp2
            go_round
            case rel =>
              obtain ⟨h1, h2, h3, h4⟩ := HR.out
              have h5 : o + p = (h % 2 ^ k ^^^ h / 2 ^ k % 2 ^ k) % 2 ^ (m + 1) := by
                rw [h3, h4]; exact unlike_yes _ _ _ (by rw [← h1, ← h2]; intro h; simp at hb2; omega)
              have h6 := Nat.mod_lt (h % 2 ^ k ^^^ h / 2 ^ k % 2 ^ k) (nat_two_pos (m + 1))
              refine ⟨m + 1, x / 2, y / 2, o + p, p * 2, by omega, by omega, by omega, by omega, ?_, by go_num, rfl, rfl, by go_num, ?_, ?_⟩
              · rw [h4, ← Nat.pow_succ]; exact hz
              · simp
              · exact ⟨by rw [h1, div_step], by rw [h2, div_step], h5, by rw [h4, Nat.pow_succ]⟩
            case measure => simp [intOf]; omega
        · obtain rfl : m = k := by omega
          go_wp2
          go_ret
          refine ⟨ret_int ?_, rfl⟩
          show (o : Int) = _
          rw [HR.out.2.2.1]
          unfold foldq
          rw [if_neg (by omega), Int.toNat_natCast, fold_split, ← fold_split, Nat.mod_mod]
theorem ref_Fold (h : Nat) (b : Int) (w : World) (hh : h < 18446744073709551616) :
    Calls Try.prog 111 #[.int .u64 h, .int .i64 b] w fun e w' => e = .returned (.int .u64 ((foldq h b : Nat) : Int)) ∧ w = w' := by
  by_cases h1 : b < 1
  · go_enter Try.func111, Try.ntmps111
    go_wp2
    go_ret
    exact ⟨ret_int (by unfold foldq; rw [if_pos (.inl h1)]; rfl), rfl⟩
  · by_cases h2 : 32 < b
    · go_enter Try.func111, Try.ntmps111
      go_wp2
      go_ret
      exact ⟨ret_int (by unfold foldq; rw [if_pos (.inr h2)]; rfl), rfl⟩
    · obtain ⟨n, rfl⟩ := Int.eq_ofNat_of_zero_le (show 0 ≤ b by omega)
      exact ref_Fold_in h n w hh (by omega) (by omega)
theorem foldq_lt (h : Nat) (b : Int) (h1 : 1 ≤ b) (h2 : b ≤ 32) : foldq h b < 2 ^ b.toNat := by
  unfold foldq
  rw [if_neg (by omega)]
  exact Nat.mod_lt _ (nat_two_pos _)
end Go.Proofs.Ytkjmacdekfbfhaa
