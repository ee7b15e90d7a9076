/- The reference's numbers of 128 bits: double, comparison, the number that fits. -/
import Derived.Test.YtkjmacdekfbfhaaDivP
import Derived.Test.YtkjmacdekfbfhaaNum
import Derived.Test.YtkjmacdekfbfhaaWideP
namespace Go.Proofs.Ytkjmacdekfbfhaa
open Go.RowKit
set_option linter.unusedSimpArgs false
set_option linter.unusedVariables false
set_option maxHeartbeats 400000

theorem Blk.new_ (w : World) (o : Obj) (t : TypeId) (cs : Array Value) : Blk ((w.alloc o).alloc (.cells cs t)) (w.heap.size + 1) t cs := by
  have := Blk.new (w.alloc o) t cs
  simpa using this
theorem Blk.new__ (w : World) (o o2 : Obj) (t : TypeId) (cs : Array Value) : Blk (((w.alloc o).alloc o2).alloc (.cells cs t)) (w.heap.size + 1 + 1) t cs := by
  have := Blk.new ((w.alloc o).alloc o2) t cs
  simpa using this
set_option maxRecDepth 100000 in
theorem num_Double (a : Nat) (w : World) :
    Calls Try.prog 173 #[.agg (bitsA a)] w fun e w' => e = .returned (.agg (bitsA (2 * a % 2 ^ 128))) ∧ Below w.heap.size w w' := by
  go_enter Try.func173, Try.ntmps173
  go_wp2
  go_loopw [4] (fun i wr => ∃ k : Nat, 1 ≤ k ∧ k ≤ 128 ∧ i = .int .i64 k ∧ Blk wr w.heap.size 201 (bitsA a) ∧ Blk wr (w.heap.size + 1) 201 (bitsA 0) ∧ Blk wr (w.heap.size + 1 + 1) 201 (arrF (dblF a k)) ∧ Below w.heap.size w wr) (fun i _ => 128 - (intOf i).toNat)
  case atStart =>
    refine ⟨1, by omega, by omega, rfl, ?_, ?_, ?_, by go_grown⟩
    · exact (((Blk.new w _ _).alloc _).alloc _)
    · rw [← zeros_num]; exact (Blk.new_ w _ _ _).alloc _
    · rw [dblF_zero, ← zeros_num]; exact Blk.new__ w _ _ _ _
  case round =>
    obtain ⟨k, hk1, hk, rfl, h0, h1, h2, hbel⟩ := hrel
    have H0 := Lib.hid h0
    have H1 := Lib.hid h1
    have H2 := Lib.hid h2
    have HBel := Lib.hid hbel
    clear h0 h1 h2 hbel
    by_cases hlt : k < 128
    · have r0 := H0.out.cellv (bitsA_get a (show k - 1 < 128 by omega))
      have r2 := H2.out.cellv (arrF_get (dblF a k) hlt)
      have f2 := H2.out.frozen k
      obtain ⟨j, rfl⟩ : ∃ j, k = j + 1 := ⟨k - 1, by omega⟩
      rw [Nat.add_sub_cancel] at r0
      have hc1 : ((j + 1 : Nat) : Int) - 1 = (j : Int) := by omega
      go_wp2
      go_roundw
      case rel =>
        refine ⟨j + 1 + 1, by omega, by omega, by go_num, H0.out.far (by simp <;> omega) _, H1.out.far (by simp <;> omega) _, ?_, HBel.out.setCell (by simp <;> omega) _⟩
        have := H2.out.set_ (j + 1) (.bool (a.testBit (j + 1 - 1)))
        rw [dblF_step a (j + 1) (by omega) hlt] at this
        exact this
      case measure => simp [intOf]; omega
    · obtain rfl : k = 128 := by omega
      rw [dblF_end] at H2
      go_wp2_with (first | (refine Blk.load rfl 201 (.tmp 3) rfl (w.heap.size + 1 + 1) _ _ _ rfl H2.out Try.underlying201 rfl (info_num _) ?_) | (refine wpList_store_row rfl 201 (.tmp 2) _ rfl (w.heap.size + 1) _ _ _ rfl rfl H1.out (by rw [bitsA_size, bitsA_size]) (info_num _) (bitsA_one _) ?_; intro w2 hb2 hg2))
      refine bodyPost_ret (results_row rfl _ _ (w.heap.size + 1) _ _ _ rfl hb2 Try.underlying201 rfl (info_num _)) rfl ⟨rfl, ?_⟩
      exact HBel.out.trans (Only.below hg2 (by omega) HBel.out.size)
set_option maxRecDepth 100000 in
theorem num_Cmp (a b : Nat) (w : World) (ha : a < 2 ^ 128) (hb : b < 2 ^ 128) :
    Calls Try.prog 155 #[.agg (bitsA a), .agg (bitsA b)] w fun e w' => e = .returned (.int .i64 (cmpN a b)) ∧ Below w.heap.size w w' := by
  have HA := Lib.hid ha
  have HB := Lib.hid hb
  clear ha hb
  go_enter Try.func155, Try.ntmps155
  go_wp2
  go_loopw [5] (fun i wr => ∃ k : Nat, k ≤ 128 ∧ i = .int .i64 (127 - (k : Int)) ∧ a / 2 ^ (128 - k) = b / 2 ^ (128 - k) ∧ Blk wr w.heap.size 201 (bitsA a) ∧ Blk wr (w.heap.size + 1) 201 (bitsA b) ∧ Below w.heap.size w wr) (fun i _ => ((intOf i) - (127 - 128)).toNat)
  case atStart =>
    refine ⟨0, by omega, rfl, ?_, ?_, ?_, by go_grown⟩
    · rw [Nat.div_eq_of_lt HA.out, Nat.div_eq_of_lt HB.out]
    · exact (Blk.new w _ _).alloc _
    · exact Blk.new_ w _ _ _
  case round =>
    obtain ⟨k, hk, rfl, he, h0, h1, hbel⟩ := hrel
    have HE := Lib.hid he
    have H0 := Lib.hid h0
    have H1 := Lib.hid h1
    have HBel := Lib.hid hbel
    clear h0 h1 he hbel
    by_cases hlt : k < 128
    · have r0 := H0.out.cellv (bitsA_get a (show 127 - k < 128 by omega))
      have r1 := H1.out.cellv (bitsA_get b (show 127 - k < 128 by omega))
      have z1 : (0 : Int) ≤ 127 - (k : Int) := by omega
      have z2 : (127 : Int) - (k : Int) < 128 := by omega
      have z3 : ((127 : Int) - (k : Int)).toNat = 127 - k := by omega
      have HE2 := Lib.hid (show a / 2 ^ (127 - k + 1) = b / 2 ^ (127 - k + 1) by rw [show 127 - k + 1 = 128 - k by omega]; exact HE.out)
      cases hA : a.testBit (127 - k) <;> cases hB : b.testBit (127 - k)
      all_goals
        rw [hA] at r0
        rw [hB] at r1
      · have HN := Lib.hid (tops_step HE2.out (hA.trans hB.symm))
        clear hA hB
        go_wp2
        go_quiet (fail)
        clear z3
        go_wp2
        go_roundw
        case rel => exact ⟨k + 1, by omega, by go_num, by rw [show 128 - (k + 1) = 127 - k by omega]; exact HN.out, H0.out.drewN _, H1.out.drewN _, ⟨HBel.out.os, HBel.out.tape, HBel.out.output, HBel.out.size, HBel.out.block⟩⟩
        case measure => simp [intOf]; omega
      · have HN := Lib.hid (tops_less HE2.out hA hB)
        clear hA hB
        go_wp2
        go_quiet (fail)
        have r0' := r0
        go_wp2
        go_ret
        exact ⟨ret_int (by have := HN.out; unfold cmpN; rw [if_pos (by omega)]), ⟨HBel.out.os, HBel.out.tape, HBel.out.output, HBel.out.size, HBel.out.block⟩⟩
      · have HN := Lib.hid (tops_less HE2.out.symm hB hA)
        clear hA hB
        go_wp2
        go_quiet (fail)
        go_wp2
        go_ret
        exact ⟨ret_int (by have := HN.out; unfold cmpN; rw [if_neg (by omega), if_neg (by omega)]), ⟨HBel.out.os, HBel.out.tape, HBel.out.output, HBel.out.size, HBel.out.block⟩⟩
      · have HN := Lib.hid (tops_step HE2.out (hA.trans hB.symm))
        clear hA hB
        go_wp2
        go_quiet (fail)
        clear z3
        go_wp2
        go_roundw
        case rel => exact ⟨k + 1, by omega, by go_num, by rw [show 128 - (k + 1) = 127 - k by omega]; exact HN.out, H0.out.drewN _, H1.out.drewN _, ⟨HBel.out.os, HBel.out.tape, HBel.out.output, HBel.out.size, HBel.out.block⟩⟩
        case measure => simp [intOf]; omega
    · obtain rfl : k = 128 := by omega
      go_wp2
      go_ret
      have he := HE.out
      simp only [Nat.sub_self, Nat.pow_zero, Nat.div_one] at he
      exact ⟨ret_int (by unfold cmpN; rw [he]; simp), HBel.out⟩
end Go.Proofs.Ytkjmacdekfbfhaa
