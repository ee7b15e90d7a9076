/- The reference's products, sums and rounded quotients of 128 bits. -/
import Derived.Test.YtkjmacdekfbfhaaNum2
import Derived.Test.YtkjmacdekfbfhaaNum3
import Derived.Test.YtkjmacdekfbfhaaOwn
namespace Go.Proofs.Ytkjmacdekfbfhaa
open Go.RowKit
set_option linter.unusedSimpArgs false
set_option linter.unusedVariables false
set_option maxHeartbeats 400000
theorem num_OfLo (lo : Nat) (w : World) (h2 : lo < 2 ^ 64) :
    Calls Try.prog 171 #[.int .u64 0, .int .u64 lo] w fun e w' => e = .returned (.agg (bitsA lo)) ∧ Below w.heap.size w w' := by
  have := num_Of 0 lo w (by omega) h2
  rw [Nat.zero_mul, Nat.zero_add] at this
  exact this
def dblRow (a : Nat) : Nat := 2 * a % 2 ^ 128
theorem num_DoubleR (a : Nat) (w : World) :
    Calls Try.prog 173 #[.agg (bitsA a)] w fun e w' => e = .returned (.agg (bitsA (dblRow a))) ∧ Below w.heap.size w w' := num_Double a w
theorem bit_tmod (b k : Nat) : (((b : Int) / 2 ^ k).tmod 2 = 1) = (b.testBit k = true) := by
  have := bit_walk b k
  rw [← this]
  simp
set_option maxRecDepth 100000 in
theorem num_Mul (a b : Nat) (w : World) (ha : a < 2 ^ 64) (hb : b < 2 ^ 64) :
    Calls Try.prog 154 #[.int .u64 a, .int .u64 b] w fun e w' => e = .returned (.agg (bitsA (a * b))) ∧ Below w.heap.size w w' := by
  have HA := Lib.hid ha
  have HB := Lib.hid hb
  clear ha hb
  go_enter Try.func154, Try.ntmps154
  go_wp2_with (first | (refine wpList_store_row rfl 201 (.tmp 5) (.tmp 8) rfl (w.heap.size + 1) 201 _ (bitsA 0) rfl (by rw [← zeros_num]; rfl) (Blk.new_ w _ _ _) (by rw [bitsA_size]; kernel_rfl) (info_num _) (bitsA_one _) ?_; intro w1 hb1 hg1) | (go_at_call 171; refine (num_OfLo a _ HA.out).mono ?_; rintro e w2 ⟨rfl, hb2⟩) | (refine wpList_store_row rfl 201 (.tmp 6) (.tmp 10) rfl w2.heap.size 201 _ (bitsA a) rfl rfl (Blk.new w2 _ _) (by rw [bitsA_size]; kernel_rfl) (info_num _) (bitsA_one _) ?_; intro w3 hb3 hg3))
  have z0 : Blk ((w.alloc (.cells Try.zeroCells201 201)).alloc (.cells Try.zeroCells201 201)) w.heap.size 201 (bitsA 0) := by
    rw [← zeros_num]; exact (Blk.new w _ _).alloc _
  have s1 := hg1.size
  have s2 := hb2.size
  have s3 := hg3.size
  simp only [World.size_alloc] at s1 s3
  have k0 : Blk w3 w.heap.size 201 (bitsA 0) := (((z0.grown hg1 (by simp)).call hb2).alloc _).grown hg3 (by simp; omega)
  have k1 : Blk w3 (w.heap.size + 1) 201 (bitsA 0) := (((hb1.call hb2).alloc _)).grown hg3 (by simp; omega)
  have kb : Below w.heap.size w w3 := by
    have b0 : Below w.heap.size w ((w.alloc (.cells Try.zeroCells201 201)).alloc (.cells Try.zeroCells201 201)) := by go_grown
    have b1 := b0.trans (Only.below hg1 (B := w.heap.size) (by omega) (by simp; omega))
    have b2 := b1.trans (hb2.mono (by omega))
    exact (b2.alloc (by omega) _).trans (Only.below hg3 (B := w.heap.size) (by omega) (by simp; omega))
  have hxb : w.heap.size + 2 ≤ w2.heap.size := by omega
  clear s1 s2 s3 hb1 hg1 hb2 hg3 z0
  generalize w2.heap.size = xb at *
  go_loopw [7] (fun i wr => ∃ k O X : Nat, k ≤ 64 ∧ i = .int .i64 k ∧ O = a * (b % 2 ^ k) ∧ X = a * 2 ^ k % 2 ^ 128 ∧ Blk wr w.heap.size 201 (bitsA 0) ∧ Blk wr (w.heap.size + 1) 201 (bitsA O) ∧ Blk wr xb 201 (bitsA X) ∧ Below w.heap.size w wr) (fun i _ => 64 - (intOf i).toNat)
  case atStart =>
    refine ⟨0, 0, a, by omega, rfl, by rw [Nat.pow_zero, Nat.mod_one, Nat.mul_zero], ?_, k0, k1, hb3, kb⟩
    rw [Nat.pow_zero, Nat.mul_one, Nat.mod_eq_of_lt (by have := HA.out; omega)]
  case round =>
    obtain ⟨k, O, X, hk, rfl, hO, hX, h0, h1, h2, hbel⟩ := hrel
    clear k0 k1 kb hb3
    have H0 := Lib.hid h0
    have H1 := Lib.hid h1
    have H2 := Lib.hid h2
    have HBel := Lib.hid hbel
    clear h0 h1 h2 hbel
    by_cases hlt : k < 64
    · have hx : a * 2 ^ k < 2 ^ 127 := shl_small HA.out (by omega)
      have hmo : a * 2 ^ k % 2 ^ 128 = a * 2 ^ k := Nat.mod_eq_of_lt (by omega)
      have hmr := mul_round a b k
      have hms := mul_small (a := a) (b := b) HA.out (show k + 1 ≤ 64 by omega)
      have hms0 := mul_small (a := a) (b := b) HA.out (show k ≤ 64 by omega)
      have HD := Lib.hid (show dblRow X = a * 2 ^ (k + 1) % 2 ^ 128 by unfold dblRow; rw [hX, hmo, Nat.pow_succ 2 k, ← Nat.mul_assoc a, Nat.mul_comm 2 (a * 2 ^ k)])
      have HM := Lib.hid (show O < 2 ^ 128 ∧ X < 2 ^ 128 from ⟨by rw [hO]; exact hms0, by rw [hX]; exact Nat.mod_lt _ (by decide)⟩)
      cases hbt : b.testBit k
      · have htb : (((b : Int) / 2 ^ k).tmod 2 == 1) = false := by rw [bit_walk, hbt]
        have HR := Lib.hid (show O = a * (b % 2 ^ (k + 1)) by rw [hbt] at hmr; rw [hO]; simpa using hmr)
        clear hx hmo hmr hms hms0 hbt hO hX
        go_wp2_with (first | (refine Blk.load rfl 201 (.tmp 6) rfl xb _ _ _ rfl H2.out Try.underlying201 rfl (info_num _) ?_) | (go_at_call 173; refine (num_DoubleR _ _).mono ?_; rintro e w4 ⟨rfl, hb4⟩; have j0 := Lib.hid (H0.out.call hb4); have j1 := Lib.hid (H1.out.call hb4); have j2 := Lib.hid (H2.out.call hb4); have hj := Lib.hid (HBel.out.trans (hb4.mono HBel.out.size)); clear hb4) | (refine wpList_store_row rfl 201 (.tmp 6) _ rfl xb _ _ _ rfl rfl j2.out (by rw [bitsA_size, bitsA_size]) (info_num _) (bitsA_one _) ?_; intro w5 hb5 hg5))
        go_roundw
        case rel => exact ⟨k + 1, O, dblRow X, by omega, by go_num, HR.out, HD.out, j0.out.grown hg5 (by simp; omega), j1.out.grown hg5 (by simp; omega), hb5, hj.out.trans (Only.below hg5 (by omega) hj.out.size)⟩
        case measure => simp [intOf]; omega
      · have htb : (((b : Int) / 2 ^ k).tmod 2 == 1) = true := by rw [bit_walk, hbt]
        have HR := Lib.hid (show addRow O X = a * (b % 2 ^ (k + 1)) by rw [hbt] at hmr; simp only [if_true] at hmr; unfold addRow; rw [hO, hX, hmo, hmr, if_pos hms])
        clear hx hmo hmr hms hms0 hbt hO hX
        go_wp2_with (first | (refine Blk.load rfl 201 (.tmp 5) rfl (w.heap.size + 1) _ _ _ rfl H1.out Try.underlying201 rfl (info_num _) ?_) | (refine Blk.load rfl 201 (.tmp 6) rfl xb _ _ _ rfl H2.out Try.underlying201 rfl (info_num _) ?_) | (go_at_call 172; refine (num_Add _ _ _ HM.out.1 HM.out.2).mono ?_; rintro e w4 ⟨rfl, hb4⟩; have i0 := Lib.hid (H0.out.call hb4); have i1 := Lib.hid (H1.out.call hb4); have i2 := Lib.hid (H2.out.call hb4); have hi := Lib.hid (HBel.out.trans (hb4.mono HBel.out.size)); clear hb4) | (refine wpList_store_row rfl 201 (.tmp 5) _ rfl (w.heap.size + 1) _ _ _ rfl rfl i1.out (by rw [bitsA_size, bitsA_size]) (info_num _) (bitsA_one _) ?_; intro w6 hb6 hg6; have l0 := Lib.hid (i0.out.grown hg6 (by simp)); have l2 := Lib.hid (i2.out.grown hg6 (by simp; omega)); have hl := Lib.hid (hi.out.trans (Only.below hg6 (by omega) hi.out.size)); have l1 := Lib.hid hb6; clear hg6 hb6) | (refine Blk.load rfl 201 (.tmp 6) rfl xb _ _ _ rfl l2.out Try.underlying201 rfl (info_num _) ?_) | (go_at_call 173; refine (num_DoubleR _ _).mono ?_; rintro e w7 ⟨rfl, hb4⟩; have j0 := Lib.hid (l0.out.call hb4); have j1 := Lib.hid (l1.out.call hb4); have j2 := Lib.hid (l2.out.call hb4); have hj := Lib.hid (hl.out.trans (hb4.mono hl.out.size)); clear hb4) | (refine wpList_store_row rfl 201 (.tmp 6) _ rfl xb _ _ _ rfl rfl j2.out (by rw [bitsA_size, bitsA_size]) (info_num _) (bitsA_one _) ?_; intro w5 hb5 hg5))
        go_roundw
        case rel => exact ⟨k + 1, addRow O X, dblRow X, by omega, by go_num, HR.out, HD.out, j0.out.grown hg5 (by simp; omega), j1.out.grown hg5 (by simp; omega), hb5, hj.out.trans (Only.below hg5 (by omega) hj.out.size)⟩
        case measure => simp [intOf]; omega
    · obtain rfl : k = 64 := by omega
      obtain rfl : O = a * b := by rw [hO, Nat.mod_eq_of_lt HB.out]
      clear hO hX
      go_wp2_with (first | (refine Blk.load rfl 201 (.tmp 5) rfl (w.heap.size + 1) _ _ _ rfl H1.out Try.underlying201 rfl (info_num _) ?_) | (refine wpList_store_row rfl 201 (.tmp 4) _ rfl w.heap.size _ _ _ rfl rfl H0.out (by rw [bitsA_size, bitsA_size]) (info_num _) (bitsA_one _) ?_; intro w5 hb5 hg5))
      refine bodyPost_ret (results_row rfl _ _ w.heap.size _ _ _ rfl hb5 Try.underlying201 rfl (info_num _)) rfl ⟨rfl, HBel.out.trans (Only.below hg5 (by omega) HBel.out.size)⟩
end Go.Proofs.Ytkjmacdekfbfhaa
