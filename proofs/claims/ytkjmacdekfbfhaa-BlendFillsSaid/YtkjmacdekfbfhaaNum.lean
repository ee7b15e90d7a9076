/- The reference's numbers of 128 bits: each function on rows of bits is the plain sum, product, comparison. -/
import Derived.Test.YtkjmacdekfbfhaaNumP
import Derived.Test.YtkjmacdekfbfhaaBlk
import Derived.BigQuiet
import Derived.Deep.QuietTactic
import Derived.Deep.Light
namespace Go.Proofs.Ytkjmacdekfbfhaa
open Go.RowKit
set_option linter.unusedSimpArgs false
set_option linter.unusedVariables false
set_option maxHeartbeats 400000

theorem zeros_num : Try.zeroCells201 = bitsA 0 := by rw [← zero_row]; kernel_rfl
theorem info_num (N : Nat) : (Try.prog.info? 201).map (·.size) = some (bitsA N).size := by rw [bitsA_size]; kernel_rfl

set_option maxRecDepth 100000 in
theorem num_Of (hi lo : Nat) (w : World) (h1 : hi < 2 ^ 64) (h2 : lo < 2 ^ 64) :
    Calls Try.prog 171 #[.int .u64 hi, .int .u64 lo] w fun e w' => e = .returned (.agg (bitsA (hi * 2 ^ 64 + lo))) ∧ Below w.heap.size w w' := by
  have HL := Lib.hid h2
  clear h1 h2
  go_enter Try.func171, Try.ntmps171
  go_wp2
  go_loopw [6] (fun i wr => ∃ k : Nat, k ≤ 64 ∧ i = .int .i64 k ∧ Blk wr (w.heap.size + 1) 201 (arrF (ofF hi lo k)) ∧ Blk wr w.heap.size 201 (bitsA 0) ∧ Below w.heap.size w wr) (fun i _ => 64 - (intOf i).toNat)
  case atStart =>
    refine ⟨0, by omega, rfl, ?_, ?_, by go_grown⟩
    · rw [ofF_zero, ← zeros_num]
      have := Blk.new (w.alloc (.cells Try.zeroCells201 201)) 201 Try.zeroCells201
      simpa using this
    · rw [← zeros_num]
      exact (Blk.new w _ _).alloc _
  case round =>
    obtain ⟨k, hk, rfl, hb1, hb0, hbel⟩ := hrel
    have HB1 := Lib.hid hb1
    have HB0 := Lib.hid hb0
    have HBel := Lib.hid hbel
    clear hb1 hb0 hbel
    by_cases hlt : k < 64
    · have c1 := HB1.out.cellv (arrF_get (ofF hi lo k) (show k < 128 by omega))
      have f1 := HB1.out.frozen k
      have c2 := HB1.out.cellv (arrF_get (ofF hi lo k) (show 64 + k < 128 by omega))
      have f2 := HB1.out.frozen (64 + k)
      go_wp2
      go_roundw
      case rel =>
        refine ⟨k + 1, by omega, by go_num, ?_, ((HB0.out.far (by simp) _).far (by simp) _), ((HBel.out.setCell (by simp) _).setCell (by simp) _)⟩
        have := (HB1.out.set_ k (.bool (lo.testBit k))).set_ (64 + k) (.bool (hi.testBit k))
        rw [ofF_step hi lo k hlt] at this
        rw [bit_walk, bit_walk]
        exact this
      case measure => simp [intOf]; omega
    · obtain rfl : k = 64 := by omega
      rw [ofF_end hi lo HL.out] at HB1
      go_wp2_with (first | (refine Blk.load rfl 201 (.tmp 5) rfl (w.heap.size + 1) _ _ _ rfl HB1.out Try.underlying201 rfl (info_num _) ?_) | (refine wpList_store_row rfl 201 (.tmp 4) (.tmp 30) rfl w.heap.size _ _ _ rfl rfl HB0.out (by rw [bitsA_size, bitsA_size]) (info_num _) (bitsA_one _) ?_; intro w2 hb2 hg2))
      refine bodyPost_ret (results_row rfl _ _ w.heap.size _ _ _ rfl hb2 Try.underlying201 rfl (info_num _)) rfl ⟨rfl, ?_⟩
      exact HBel.out.trans (Only.below hg2 (Nat.le_refl _) HBel.out.size)
end Go.Proofs.Ytkjmacdekfbfhaa
