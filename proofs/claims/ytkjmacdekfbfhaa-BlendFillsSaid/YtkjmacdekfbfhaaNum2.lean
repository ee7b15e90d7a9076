/- The reference's sum and double of 128 bits. -/
import Derived.Test.YtkjmacdekfbfhaaNumQ
import Derived.Test.YtkjmacdekfbfhaaNum
namespace Go.Proofs.Ytkjmacdekfbfhaa
open Go.RowKit
set_option linter.unusedSimpArgs false
set_option linter.unusedVariables false
set_option maxHeartbeats 400000

def addRow (a b : Nat) : Nat := if a + b < 2 ^ 128 then a + b else 0
def addFits (a b : Nat) : Bool := decide (a + b < 2 ^ 128)
set_option maxRecDepth 100000 in
theorem num_Add (a b : Nat) (w : World) (ha : a < 2 ^ 128) (hb : b < 2 ^ 128) :
    Calls Try.prog 172 #[.agg (bitsA a), .agg (bitsA b)] w fun e w' => e = .returned (.tuple #[.agg (bitsA (addRow a b)), .bool (addFits a b)]) ∧ Below w.heap.size w w' := by
  have HA := Lib.hid ha
  have HB := Lib.hid hb
  clear ha hb
  go_enter Try.func172, Try.ntmps172
  go_wp2
  go_loopw [7, 8, 9] (fun c i _ wr => ∃ k c' : Nat, k ≤ 128 ∧ c' ≤ 1 ∧ i = .int .i64 k ∧ c = .int .i64 c' ∧ c' = carryQ a b k ∧ Blk wr w.heap.size 201 (bitsA a) ∧ Blk wr (w.heap.size + 1) 201 (bitsA b) ∧ Blk wr (w.heap.size + 2) 201 (bitsA 0) ∧
    Blk wr (w.heap.size + 3) 201 (arrF (addF a b k)) ∧ Below w.heap.size w wr) (fun _ i _ _ => 128 - (intOf i).toNat)
  case atStart =>
    refine ⟨0, 0, by omega, by omega, rfl, rfl, (carryQ_zero a b).symm, ?_, ?_, ?_, ?_, by go_grown⟩
    · exact (((Blk.new w _ _).alloc _).alloc _).alloc _
    · have := (((Blk.new (w.alloc (.cells (bitsA a) 201)) 201 (bitsA b)).alloc (.cells Try.zeroCells201 201)).alloc (.cells Try.zeroCells201 201))
      simpa using this
    · have := (Blk.new ((w.alloc (.cells (bitsA a) 201)).alloc (.cells (bitsA b) 201)) 201 Try.zeroCells201).alloc (.cells Try.zeroCells201 201)
      rw [← zeros_num]
      simpa using this
    · have := Blk.new (((w.alloc (.cells (bitsA a) 201)).alloc (.cells (bitsA b) 201)).alloc (.cells Try.zeroCells201 201)) 201 Try.zeroCells201
      rw [addF_zero, ← zeros_num]
      simpa using this
  case round =>
    obtain ⟨k, c, hk, hc, rfl, rfl, hcq, h0, h1, h2, h3, hbel⟩ := hrel
    have HC := Lib.hid hcq
    have H0 := Lib.hid h0
    have H1 := Lib.hid h1
    have H2 := Lib.hid h2
    have H3 := Lib.hid h3
    have HBel := Lib.hid hbel
    clear h0 h1 h2 h3 hbel hcq
    by_cases hlt : k < 128
    · have r0 := H0.out.cellv (bitsA_get a hlt)
      have r1 := H1.out.cellv (bitsA_get b hlt)
      have r3 := H3.out.cellv (arrF_get (addF a b k) hlt)
      have f3 := H3.out.frozen k
      have hw := fun n => add_bit_walk a b k n c HC.out
      have HW := Lib.hid hw
      clear hw
      cases hA : a.testBit k <;> cases hB : b.testBit k
      all_goals
        rw [hA] at r0
        rw [hB] at r1
        have HW2 := Lib.hid (fun n => by have := HW.out n; rw [hA, hB] at this; exact this)
        clear HW hA hB
        go_wp2
        go_roundw
        case rel =>
          refine ⟨k + 1, carryQ a b (k + 1), by omega, carryQ_le _ _ _, by go_num, ?_, rfl, H0.out.far (by simp <;> omega) _, H1.out.far (by simp <;> omega) _, H2.out.far (by simp <;> omega) _, ?_, HBel.out.setCell (by simp <;> omega) _⟩
          · rw [← (HW2.out _ rfl).2]; simp
          · have := H3.out.set_ k (.bool ((a + b).testBit k))
            rw [addF_step a b k hlt, ← (HW2.out _ rfl).1] at this
            simpa using this
        case measure => simp [intOf]; omega
    · obtain rfl : k = 128 := by omega
      rw [addF_end] at H3
      have hz := carryQ_end a b HA.out HB.out
      have hc2 := HC.out
      rw [hz] at hc2
      by_cases hfit : a + b < 2 ^ 128
      · rw [Nat.div_eq_of_lt hfit] at hc2
        subst hc2
        have HF := Lib.hid hfit
        clear hz hfit
        go_wp2_with (first | (refine Blk.load rfl 201 (.tmp 6) rfl (w.heap.size + 3) _ _ _ rfl H3.out Try.underlying201 rfl (info_num _) ?_) | (refine wpList_store_row rfl 201 (.tmp 4) (.tmp 38) rfl (w.heap.size + 2) _ _ _ rfl rfl H2.out (by rw [bitsA_size, bitsA_size]) (info_num _) (bitsA_one _) ?_; intro w2 hb2 hg2))
        refine bodyPost_ret (results_row_tmp rfl _ _ (w.heap.size + 2) _ _ _ rfl hb2 Try.underlying201 rfl (info_num _)) rfl ⟨?_, ?_⟩
        · show Ending.returned (.tuple #[.agg (bitsA (a + b)), .bool true]) = _
          rw [show addRow a b = a + b from if_pos HF.out, show addFits a b = true from decide_eq_true HF.out]
        · exact HBel.out.trans (Only.below hg2 (by omega) HBel.out.size)
      · have hc1 : 1 ≤ c := by
          rw [hc2]
          exact (Nat.le_div_iff_mul_le (by decide)).2 (by omega)
        have HF := Lib.hid hfit
        clear hz hfit hc2
        have zz : Try.zeroCells201 = bitsA 0 := zeros_num
        have hz3 : (bitsA 0).size = 128 := bitsA_size 0
        have HZ := Lib.hid zz
        clear zz hz3
        go_wp2_with (first | (refine wpList_store_row rfl 201 (.tmp 4) (.tmp 37) rfl (w.heap.size + 2) _ (bitsA 0) _ rfl (by rw [← HZ.out]; rfl) H2.out (by rw [bitsA_size]) (info_num _) (bitsA_one _) ?_; intro w2 hb2 hg2))
        refine bodyPost_ret (results_row_tmp rfl _ _ (w.heap.size + 2) _ _ _ rfl hb2 Try.underlying201 rfl (info_num _)) rfl ⟨?_, ?_⟩
        · show Ending.returned (.tuple #[.agg (bitsA 0), .bool false]) = _
          rw [show addRow a b = 0 from if_neg HF.out, show addFits a b = false from decide_eq_false HF.out]
        · exact HBel.out.trans (Only.below hg2 (by omega) HBel.out.size)
end Go.Proofs.Ytkjmacdekfbfhaa
