/- The reference's numbers of 128 bits: each function on rows of bits is the plain sum, product, comparison. -/
import Derived.Test.YtlodmnohmlkjmaaNumP
import Derived.Test.YtlodmnohmlkjmaaBlk
import Derived.BigQuiet
import Derived.Deep.QuietTactic
import Derived.Deep.Light
namespace Go.Proofs.Ytlodmnohmlkjmaa
open Go.RowKit
set_option linter.unusedSimpArgs false
set_option linter.unusedVariables false
set_option maxHeartbeats 400000

theorem zeros_num : Try.zeroCells38 = bitsA 0 := by rw [← zero_row]; kernel_rfl
theorem info_num (N : Nat) : (Try.prog.info? 38).map (·.size) = some (bitsA N).size := by rw [bitsA_size]; kernel_rfl

set_option maxRecDepth 100000 in
theorem num_Hi (N : Nat) (w : World) (hN : N < 2 ^ 128) :
    Calls Try.prog 20 #[.agg (bitsA N)] w fun e w' => e = .returned (.int .u64 ((hiQ N : Nat) : Int)) ∧ Below w.heap.size w w' := by
  have hb := Blk.new w 38 (bitsA N)
  have HB := Lib.hid hb
  have HN := Lib.hid hN
  clear hb hN
  go_enter Try.func20, Try.ntmps20
  go_wp2
  go_loop [3, 4] (fun h i => ∃ k a : Nat, k ≤ 64 ∧ a < 2 ^ k ∧ i = .int .i64 (127 - (k : Int)) ∧ h = .int .u64 a ∧ a = N / 2 ^ (128 - k)) (fun _ i => ((intOf i) - (127 - 64)).toNat)
  case atStart =>
    refine ⟨0, 0, by omega, by omega, rfl, rfl, ?_⟩
    rw [Nat.div_eq_of_lt HN.out]
  case round =>
    obtain ⟨k, a, hk, ha, rfl, rfl, hr⟩ := hrel
    have HR := Lib.hid hr
    have HA := Lib.hid ha
    have ha64 : k < 64 → a < 9223372036854775808 := fun h => Nat.lt_of_lt_of_le ha (Nat.pow_le_pow_right (n := 2) (by decide) (show k ≤ 63 by omega))
    clear hr ha
    by_cases hlt : k < 64
    · have hc : (w.alloc (.cells (bitsA N) 38)).cell? ⟨w.heap.size, 127 - k, none⟩ = some (.bool (N.testBit (127 - k))) := HB.out.cellv (bitsA_get N (by omega))
      have hs := ha64 hlt
      have hd := div_bit N (127 - k)
      
      rw [show 127 - k + 1 = 128 - k by omega] at hd
      have HD := Lib.hid hd
      clear ha64 hd
      go_wp2
      · have ht : N.testBit (127 - k) = true := by assumption
        go_round
        case rel =>
          have h2 := HD.out
          have h3 := HA.out
          rw [ht, if_pos rfl, ← HR.out] at h2
          refine ⟨k + 1, a * 2 + 1, by omega, by rw [Nat.pow_succ]; omega, by go_num, by go_num, ?_⟩
          rw [show 128 - (k + 1) = 127 - k by omega, h2]; omega
        case measure => simp [intOf]; omega
      · have ht : N.testBit (127 - k) = false := by assumption
        go_round
        case rel =>
          have h2 := HD.out
          have h3 := HA.out
          rw [ht, if_neg (by decide), ← HR.out] at h2
          refine ⟨k + 1, a * 2, by omega, by rw [Nat.pow_succ]; omega, by go_num, by go_num, ?_⟩
          rw [show 128 - (k + 1) = 127 - k by omega, h2]; omega
        case measure => simp [intOf]; omega
    · obtain rfl : k = 64 := by omega
      clear ha64
      go_wp2
      go_ret
      refine ⟨ret_int ?_, by go_grown⟩
      show (a : Int) = _
      rw [HR.out]; rfl
set_option maxRecDepth 100000 in
theorem num_Lo (N : Nat) (w : World) (hN : N < 2 ^ 128) :
    Calls Try.prog 23 #[.agg (bitsA N)] w fun e w' => e = .returned (.int .u64 ((loQ N : Nat) : Int)) ∧ Below w.heap.size w w' := by
  have hb := Blk.new w 38 (bitsA N)
  have HB := Lib.hid hb
  have HN := Lib.hid hN
  clear hb hN
  go_enter Try.func23, Try.ntmps23
  go_wp2
  go_loop [3, 4] (fun h i => ∃ k a : Nat, k ≤ 64 ∧ a < 2 ^ k ∧ i = .int .i64 (63 - (k : Int)) ∧ h = .int .u64 a ∧ a = N % 2 ^ 64 / 2 ^ (64 - k)) (fun _ i => ((intOf i) - (63 - 64)).toNat)
  case atStart =>
    refine ⟨0, 0, by omega, by omega, rfl, rfl, ?_⟩
    rw [Nat.div_eq_of_lt (Nat.mod_lt _ (by decide))]
  case round =>
    obtain ⟨k, a, hk, ha, rfl, rfl, hr⟩ := hrel
    have HR := Lib.hid hr
    have HA := Lib.hid ha
    have ha64 : k < 64 → a < 9223372036854775808 := fun h => Nat.lt_of_lt_of_le ha (Nat.pow_le_pow_right (n := 2) (by decide) (show k ≤ 63 by omega))
    clear hr ha
    by_cases hlt : k < 64
    · have hc : (w.alloc (.cells (bitsA N) 38)).cell? ⟨w.heap.size, 63 - k, none⟩ = some (.bool (N.testBit (63 - k))) := HB.out.cellv (bitsA_get N (by omega))
      have hs := ha64 hlt
      have hd := div_bit (N % 2 ^ 64) (63 - k)
      rw [Nat.testBit_mod_two_pow, decide_eq_true (show 63 - k < 64 by omega), Bool.true_and] at hd
      rw [show 63 - k + 1 = 64 - k by omega] at hd
      have HD := Lib.hid hd
      clear ha64 hd
      go_wp2
      · have ht : N.testBit (63 - k) = true := by assumption
        go_round
        case rel =>
          have h2 := HD.out
          have h3 := HA.out
          rw [ht, if_pos rfl, ← HR.out] at h2
          refine ⟨k + 1, a * 2 + 1, by omega, by rw [Nat.pow_succ]; omega, by go_num, by go_num, ?_⟩
          rw [show 64 - (k + 1) = 63 - k by omega, h2]; omega
        case measure => simp [intOf]; omega
      · have ht : N.testBit (63 - k) = false := by assumption
        go_round
        case rel =>
          have h2 := HD.out
          have h3 := HA.out
          rw [ht, if_neg (by decide), ← HR.out] at h2
          refine ⟨k + 1, a * 2, by omega, by rw [Nat.pow_succ]; omega, by go_num, by go_num, ?_⟩
          rw [show 64 - (k + 1) = 63 - k by omega, h2]; omega
        case measure => simp [intOf]; omega
    · obtain rfl : k = 64 := by omega
      clear ha64
      go_wp2
      go_ret
      refine ⟨ret_int ?_, by go_grown⟩
      show (a : Int) = _
      rw [HR.out]; simp [loQ]
set_option maxRecDepth 100000 in
theorem num_Of (hi lo : Nat) (w : World) (h1 : hi < 2 ^ 64) (h2 : lo < 2 ^ 64) :
    Calls Try.prog 22 #[.int .u64 hi, .int .u64 lo] w fun e w' => e = .returned (.agg (bitsA (hi * 2 ^ 64 + lo))) ∧ Below w.heap.size w w' := by
  have HL := Lib.hid h2
  clear h1 h2
  go_enter Try.func22, Try.ntmps22
  go_wp2
  go_loopw [6] (fun i wr => ∃ k : Nat, k ≤ 64 ∧ i = .int .i64 k ∧ Blk wr (w.heap.size + 1) 38 (arrF (ofF hi lo k)) ∧ Blk wr w.heap.size 38 (bitsA 0) ∧ Below w.heap.size w wr) (fun i _ => 64 - (intOf i).toNat)
  case atStart =>
    refine ⟨0, by omega, rfl, ?_, ?_, by go_grown⟩
    · rw [ofF_zero, ← zeros_num]
      have := Blk.new (w.alloc (.cells Try.zeroCells38 38)) 38 Try.zeroCells38
      simpa using this
    · rw [← zeros_num]
      exact (Blk.new w _ _).alloc _
  case round =>
    obtain ⟨k, hk, rfl, hb1, hb0, hbel⟩ := hrel
    have HB1 := Lib.hid hb1
    have HB0 := Lib.hid hb0
    have HBel := Lib.hid hbel
    clear hb1 hb0 hbel
    by_cases hlt : k < 64
    · have c1 := HB1.out.cellv (arrF_get (ofF hi lo k) (show k < 128 by omega))
      have f1 := HB1.out.frozen k
      have c2 := HB1.out.cellv (arrF_get (ofF hi lo k) (show 64 + k < 128 by omega))
      have f2 := HB1.out.frozen (64 + k)
      go_wp2
      go_roundw
      case rel =>
        refine ⟨k + 1, by omega, by go_num, ?_, ((HB0.out.far (by simp) _).far (by simp) _), ((HBel.out.setCell (by simp) _).setCell (by simp) _)⟩
        have := (HB1.out.set_ k (.bool (lo.testBit k))).set_ (64 + k) (.bool (hi.testBit k))
        rw [ofF_step hi lo k hlt] at this
        rw [bit_walk, bit_walk]
        exact this
      case measure => simp [intOf]; omega
    · obtain rfl : k = 64 := by omega
      rw [ofF_end hi lo HL.out] at HB1
      go_wp2_with (first | (refine Blk.load rfl 38 (.tmp 5) rfl (w.heap.size + 1) _ _ _ rfl HB1.out Try.underlying38 rfl (info_num _) ?_) | (refine wpList_store_row rfl 38 (.tmp 4) (.tmp 30) rfl w.heap.size _ _ _ rfl rfl HB0.out (by rw [bitsA_size, bitsA_size]) (info_num _) (bitsA_one _) ?_; intro w2 hb2 hg2))
      refine bodyPost_ret (results_row rfl _ _ w.heap.size _ _ _ rfl hb2 Try.underlying38 rfl (info_num _)) rfl ⟨rfl, ?_⟩
      exact HBel.out.trans (Only.below hg2 (Nat.le_refl _) HBel.out.size)
end Go.Proofs.Ytlodmnohmlkjmaa
