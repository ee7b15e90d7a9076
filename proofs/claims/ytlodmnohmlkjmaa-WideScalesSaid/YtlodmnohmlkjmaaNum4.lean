/- The reference's numbers of 128 bits: the number that fits. -/
import Derived.Test.YtlodmnohmlkjmaaDivP
import Derived.Test.YtlodmnohmlkjmaaNum
import Derived.Test.YtlodmnohmlkjmaaWide
namespace Go.Proofs.Ytlodmnohmlkjmaa
open Go.RowKit
set_option linter.unusedSimpArgs false
set_option linter.unusedVariables false
set_option maxHeartbeats 400000
set_option maxRecDepth 100000 in
theorem num_Small (a : Nat) (w : World) (ha : a < 2 ^ 128) :
    Calls Try.prog 27 #[.agg (bitsA a)] w fun e w' => e = .returned (.int .i64 ((smallQ a : Nat) : Int)) ∧ Below w.heap.size w w' := by
  have HA := Lib.hid ha
  clear ha
  have hz3 := bitsA_size a
  have HZ3 := Lib.hid hz3
  clear hz3
  go_enter Try.func27, Try.ntmps27
  go_wp2
  go_loopw [3] (fun i wr => ∃ k : Nat, k ≤ 65 ∧ i = .int .i64 ((k + 63 : Nat) : Int) ∧ (∀ j, 63 ≤ j → j < k + 63 → a.testBit j = false) ∧ Blk wr w.heap.size 38 (bitsA a) ∧ Below w.heap.size w wr) (fun i _ => 128 - (intOf i).toNat)
  case atStart =>
    refine ⟨0, by omega, rfl, fun j h1 h2 => by omega, Blk.new w _ _, by go_grown⟩
  case round =>
    obtain ⟨k, hk, rfl, he, h0, hbel⟩ := hrel
    have HE := Lib.hid he
    have H0 := Lib.hid h0
    have HBel := Lib.hid hbel
    clear h0 he hbel
    by_cases hlt : k < 65
    · have r0 := H0.out.cellv (bitsA_get a (show k + 63 < 128 by omega))
      cases hA : a.testBit (k + 63)
      all_goals rw [hA] at r0
      · have HN := Lib.hid hA
        clear hA
        go_wp2
        go_roundw
        case rel => exact ⟨k + 1, by omega, by go_num, fun j h1 h2 => by
          rcases Nat.lt_or_ge j (k + 63) with h | h
          · exact HE.out j h1 h
          · rw [show j = k + 63 by omega]; exact HN.out, H0.out, HBel.out⟩
        case measure => simp [intOf]; omega
      · have HN := Lib.hid hA
        clear hA
        go_wp2
        go_ret
        refine ⟨ret_int ?_, HBel.out⟩
        have : ¬ a < 9223372036854775808 := fun h => by
          have := Nat.testBit_lt_two_pow (x := a) (i := k + 63) (Nat.lt_of_lt_of_le h (Nat.pow_le_pow_right (n := 2) (by decide) (show 63 ≤ k + 63 by omega)))
          rw [HN.out] at this; cases this
        unfold smallQ
        rw [if_neg this]; rfl
    · obtain rfl : k = 65 := by omega
      have hs : a < 9223372036854775808 := by
        rw [show 9223372036854775808 = 2 ^ 63 by decide]
        refine Nat.lt_pow_two_of_testBit a fun i hi => ?_
        rcases Nat.lt_or_ge i 128 with h | h
        · exact HE.out i hi h
        · exact Nat.testBit_lt_two_pow (Nat.lt_of_lt_of_le HA.out (Nat.pow_le_pow_right (by decide) h))
      have hl : loQ a = a := by unfold loQ; omega
      have HS := Lib.hid hs
      have HL := Lib.hid hl
      clear hl hs
      go_wp2_with (first | (refine Blk.load rfl 38 (.tmp 1) rfl w.heap.size _ _ _ rfl H0.out Try.underlying38 rfl (info_num _) ?_) | (go_at_call 23; refine (num_Lo a _ HA.out).mono ?_; rw [HL.out]; rintro e w1 ⟨rfl, hb⟩; have ha' : (a : Int) < 9223372036854775808 := (by have := HS.out; omega)))
      go_ret
      refine ⟨ret_int ?_, HBel.out.trans (hb.mono HBel.out.size)⟩
      have := HS.out
      unfold smallQ
      rw [if_pos HS.out]
end Go.Proofs.Ytlodmnohmlkjmaa
