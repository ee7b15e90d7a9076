/- The sum of a key: its sixteen bytes, the highest one first. -/
import Derived.Test.YtkjmacdekfbfhaaFnv
namespace Go.Proofs.Ytkjmacdekfbfhaa
open Go.RowKit
set_option linter.unusedSimpArgs false
set_option linter.unusedVariables false
set_option maxHeartbeats 400000

/-- The first k bytes of a word, the highest one first. -/
def bytesOf (x k : Nat) : List Nat := (List.range k).map fun i => x / 2 ^ (56 - 8 * i) % 256
theorem bytesOf_snoc (x k : Nat) : bytesOf x (k + 1) = bytesOf x k ++ [x / 2 ^ (56 - 8 * k) % 256] := by
  simp [bytesOf, List.range_succ]
def keySum (hi lo : Nat) : Nat := sum64N (bytesOf hi 8 ++ bytesOf lo 8)
theorem keySum_lt (hi lo : Nat) : keySum hi lo < 18446744073709551616 := sum64_lt _
theorem div_next (k : Nat) (h : k < 7) : 2 ^ (56 - 8 * k) / 256 = 2 ^ (56 - 8 * (k + 1)) := by
  have e : 2 ^ (56 - 8 * k) = 2 ^ (56 - 8 * (k + 1)) * 2 ^ 8 := by rw [← Nat.pow_add]; congr 1; omega
  rw [e, show (256 : Nat) = 2 ^ 8 by decide, Nat.mul_div_cancel _ (by decide)]
theorem pow56 (k : Nat) : 2 ^ (56 - 8 * k) ≤ 72057594037927936 := Nat.pow_le_pow_right (n := 2) (by decide) (show 56 - 8 * k ≤ 56 by omega)
theorem ref_StepI (h : Nat) (c : Int) (w : World) (hh : h < 18446744073709551616) (h0 : 0 ≤ c) (hc : c < 256) :
    Calls Try.prog 136 #[.int .u64 h, .int .u8 c] w fun e w' => e = .returned (.int .u64 ((step h c.toNat : Nat) : Int)) ∧ w = w' := by
  obtain ⟨n, rfl⟩ := Int.eq_ofNat_of_zero_le h0
  rw [Int.toNat_natCast]
  exact ref_Step h n w hh (by omega)
theorem byte_at (x d : Nat) (hd : 1 ≤ d) : (0 : Int) ≤ (x : Int) / (d : Int) ∧ (x : Int) / (d : Int) ≤ (x : Int) ∧ (0 : Int) ≤ (x : Int) / (d : Int) % 256 ∧ (x : Int) / (d : Int) % 256 < 256 ∧ ((x : Int) / (d : Int) % 256).toNat = x / d % 256 := by
  have e : (x : Int) / (d : Int) = ((x / d : Nat) : Int) := (Int.natCast_ediv _ _).symm
  have := Nat.div_le_self x d
  rw [e]
  generalize x / d = q at *
  omega

set_option maxRecDepth 100000 in
theorem ref_Key (hi lo : Nat) (w : World) (h1 : hi < 18446744073709551616) (h2 : lo < 18446744073709551616) :
    Calls Try.prog 112 #[.agg #[.int .u64 hi, .int .u64 lo]] w fun e w' => e = .returned (.int .u64 ((keySum hi lo : Nat) : Int)) ∧ Below w.heap.size w w' := by
  go_enter Try.func112, Try.ntmps112
  go_wp2
  go_loop [3, 4, 5] (fun h d i => ∃ k a d' : Nat, k ≤ 8 ∧ a < 18446744073709551616 ∧ (k < 8 → 1 ≤ d') ∧ d' ≤ 72057594037927936 ∧ i = .int .i64 k ∧ h = .int .u64 a ∧ d = .int .u64 d' ∧ (a = sum64N (bytesOf hi k) ∧ (k < 8 → d' = 2 ^ (56 - 8 * k)))) (fun _ _ i => 8 - (intOf i).toNat)
  case atStart => exact ⟨0, _, _, by omega, sum64_lt _, by omega, Nat.le_refl _, rfl, rfl, rfl, rfl, fun _ => rfl⟩
  case round =>
    obtain ⟨k, a, d, hk, ha, hd1, hd2, rfl, rfl, rfl, hr⟩ := hrel
    have HR := Lib.hid hr
    clear hr
    by_cases hlt : k < 8
    · have hd := hd1 hlt
      clear hd1
      obtain ⟨b1, b2, b3, b4, b5⟩ := byte_at hi d hd
      have HB := Lib.hid b5
      clear b5
      go_wp2_with (go_at_call 136; refine (ref_StepI _ _ _ ha b3 b4).mono ?_; rintro e w1 ⟨rfl, rfl⟩)
      go_round
      case rel =>
        obtain ⟨r1, r2⟩ := HR.out
        have r3 := r2 hlt
        refine ⟨k + 1, step a ((hi : Int) / (d : Int) % 256).toNat, d / 256, by omega, step_lt _ _, ?_, by omega, by go_num, rfl, by go_num, ?_, ?_⟩
        · intro h; rw [r3, div_next k (by omega)]; exact nat_two_pos _
        · rw [HB.out, bytesOf_snoc, sum64_snoc, r1, r3]
        · intro h; rw [r3, div_next k (by omega)]
      case measure => simp [intOf]; omega
    · obtain rfl : k = 8 := by omega
      clear hd1
      have HA := Lib.hid HR.out.1
      clear HR
      go_wp2
      go_loop [3, 4, 6] (fun h d i => ∃ k a d' : Nat, k ≤ 8 ∧ a < 18446744073709551616 ∧ (k < 8 → 1 ≤ d') ∧ d' ≤ 72057594037927936 ∧ i = .int .i64 k ∧ h = .int .u64 a ∧ d = .int .u64 d' ∧ (a = sum64N (bytesOf hi 8 ++ bytesOf lo k) ∧ (k < 8 → d' = 2 ^ (56 - 8 * k)))) (fun _ _ i => 8 - (intOf i).toNat)
      case atStart => exact ⟨0, a, _, by omega, ha, by omega, Nat.le_refl _, rfl, rfl, rfl, by rw [HA.out]; simp [bytesOf], fun _ => rfl⟩
      case round =>
        obtain ⟨k, a, d, hk, ha, hd1, hd2, rfl, rfl, rfl, hr⟩ := hrel
        have HR := Lib.hid hr
        clear hr
        by_cases hlt : k < 8
        · have hd := hd1 hlt
          clear hd1
          obtain ⟨b1, b2, b3, b4, b5⟩ := byte_at lo d hd
          have HB := Lib.hid b5
          clear b5
          go_wp2_with (go_at_call 136; refine (ref_StepI _ _ _ ha b3 b4).mono ?_; rintro e w1 ⟨rfl, rfl⟩)
          go_round
          case rel =>
            obtain ⟨r1, r2⟩ := HR.out
            have r3 := r2 hlt
            refine ⟨k + 1, step a ((lo : Int) / (d : Int) % 256).toNat, d / 256, by omega, step_lt _ _, ?_, by omega, by go_num, rfl, by go_num, ?_, ?_⟩
            · intro h; rw [r3, div_next k (by omega)]; exact nat_two_pos _
            · rw [HB.out, bytesOf_snoc lo k, ← List.append_assoc, sum64_snoc, r1, r3]
            · intro h; rw [r3, div_next k (by omega)]
          case measure => simp [intOf]; omega
        · obtain rfl : k = 8 := by omega
          clear hd1
          go_wp2
          go_ret
          refine ⟨ret_int ?_, by go_grown⟩
          show (a : Int) = _
          rw [HR.out.1]; rfl
theorem bytesOf_eq (x : Nat) (h : x < 18446744073709551616) : bytesOf x 8 = [x / 72057594037927936, x / 281474976710656 % 256, x / 1099511627776 % 256, x / 4294967296 % 256, x / 16777216 % 256, x / 65536 % 256, x / 256 % 256, x % 256] := by
  have e : x / 72057594037927936 = x / 72057594037927936 % 256 := by omega
  rw [e]
  simp [bytesOf, List.range_succ]
set_option maxHeartbeats 1000000 in
theorem fnv_bytes (hi lo : Nat) (w : World) (h1 : hi < 18446744073709551616) (h2 : lo < 18446744073709551616) :
    Calls Try.prog 134 #[.agg #[.int .u64 hi, .int .u64 lo]] w fun e w' => ∃ c0 c1 c2 c3 c4 c5 c6 c7 c8 c9 c10 c11 c12 c13 c14 c15 : Nat, e = .returned (.agg #[.int .u8 (c0 : Int), .int .u8 (c1 : Int), .int .u8 (c2 : Int), .int .u8 (c3 : Int), .int .u8 (c4 : Int), .int .u8 (c5 : Int), .int .u8 (c6 : Int), .int .u8 (c7 : Int), .int .u8 (c8 : Int), .int .u8 (c9 : Int), .int .u8 (c10 : Int), .int .u8 (c11 : Int), .int .u8 (c12 : Int), .int .u8 (c13 : Int), .int .u8 (c14 : Int), .int .u8 (c15 : Int)]) ∧ (c0 < 256 ∧ c1 < 256 ∧ c2 < 256 ∧ c3 < 256 ∧ c4 < 256 ∧ c5 < 256 ∧ c6 < 256 ∧ c7 < 256 ∧ c8 < 256 ∧ c9 < 256 ∧ c10 < 256 ∧ c11 < 256 ∧ c12 < 256 ∧ c13 < 256 ∧ c14 < 256 ∧ c15 < 256) ∧ bytesOf hi 8 ++ bytesOf lo 8 = [c0, c1, c2, c3, c4, c5, c6, c7, c8, c9, c10, c11, c12, c13, c14, c15] ∧ Below w.heap.size w w' := by
  go_enter Try.func134, Try.ntmps134
  go_wp2
  refine wp_loop_rounds 9 ?_
  iterate 9 (rw [rounds_succ]; go_wp2)
  refine bodyPost_ret (v := .agg #[.int .u8 (((hi / 72057594037927936 : Nat)) : Int), .int .u8 (((hi / 281474976710656 % 256 : Nat)) : Int), .int .u8 (((hi / 1099511627776 % 256 : Nat)) : Int), .int .u8 (((hi / 4294967296 % 256 : Nat)) : Int), .int .u8 (((hi / 16777216 % 256 : Nat)) : Int), .int .u8 (((hi / 65536 % 256 : Nat)) : Int), .int .u8 (((hi / 256 % 256 : Nat)) : Int), .int .u8 (((hi % 256 : Nat)) : Int), .int .u8 (((lo / 72057594037927936 : Nat)) : Int), .int .u8 (((lo / 281474976710656 % 256 : Nat)) : Int), .int .u8 (((lo / 1099511627776 % 256 : Nat)) : Int), .int .u8 (((lo / 4294967296 % 256 : Nat)) : Int), .int .u8 (((lo / 16777216 % 256 : Nat)) : Int), .int .u8 (((lo / 65536 % 256 : Nat)) : Int), .int .u8 (((lo / 256 % 256 : Nat)) : Int), .int .u8 (((lo % 256 : Nat)) : Int)]) (by simp [results, Try.results134, go_sem]) rfl ⟨_, _, _, _, _, _, _, _, _, _, _, _, _, _, _, _, rfl, by omega, ?_, by go_grown⟩
  rw [bytesOf_eq hi h1, bytesOf_eq lo h2]
  rfl
end Go.Proofs.Ytkjmacdekfbfhaa
