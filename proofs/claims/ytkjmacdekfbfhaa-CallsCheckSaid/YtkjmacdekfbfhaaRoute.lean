/- Package route and its reference: which numbers of stripes may be, their bits, and a key's stripe. -/
import Derived.Test.YtkjmacdekfbfhaaFnvKey
import Derived.Test.YtkjmacdekfbfhaaBytes
namespace Go.Proofs.Ytkjmacdekfbfhaa
open Go.RowKit
set_option linter.unusedSimpArgs false
set_option linter.unusedVariables false
set_option maxHeartbeats 400000

def rightq (n : Int) : Bool := n == 1 || n == 2 || n == 4 || n == 8 || n == 16 || n == 32 || n == 64
def bitsq (n : Int) : Int := if n = 2 then 1 else if n = 4 then 2 else if n = 8 then 3 else if n = 16 then 4 else if n = 32 then 5 else if n = 64 then 6 else 0
def rbitsq (n : Int) : Int := if rightq n then bitsq n else -1
theorem right_cases {n : Int} (h : rightq n = true) : n = 1 ∨ n = 2 ∨ n = 4 ∨ n = 8 ∨ n = 16 ∨ n = 32 ∨ n = 64 := by
  unfold rightq at h; simp at h; omega
theorem right_and (n : Int) (h1 : 1 ≤ n) (h2 : n ≤ 64) : (bits .and .i64 n (n - 1) == 0) = rightq n := by
  obtain ⟨m, rfl⟩ := Int.eq_ofNat_of_zero_le (show 0 ≤ n by omega)
  have h : ∀ m : Nat, m < 65 → 1 ≤ m → (bits .and .i64 (m : Int) ((m : Int) - 1) == 0) = rightq (m : Int) := by decide +kernel
  exact h m (by omega) (by omega)
theorem right_out {n : Int} (h : n < 1 ∨ 64 < n) : rightq n = false := by
  unfold rightq; simp; omega
theorem route_Right (n : Int) (w : World) (hn : I64 n) :
    Calls Try.prog 97 #[.int .i64 n] w fun e w' => e = .returned (.bool (rightq n)) ∧ w = w' := by
  by_cases h1 : n < 1
  · go_enter Try.func97, Try.ntmps97
    go_wp2
    go_ret
    exact ⟨ret_bool (by rw [right_out (.inl h1)]), rfl⟩
  · by_cases h2 : 64 < n
    · go_enter Try.func97, Try.ntmps97
      go_wp2
      go_ret
      exact ⟨ret_bool (by rw [right_out (.inr h2)]), rfl⟩
    · have h3 : 1 ≤ n := by omega
      have h4 : n ≤ 64 := by omega
      have d3 : decide (1 ≤ n) = true := by simpa using h3
      have d4 : decide (n ≤ 64) = true := by simpa using h4
      clear h1 h2
      go_enter Try.func97, Try.ntmps97
      go_wp2
      go_ret
      exact ⟨ret_bool (right_and n h3 h4), rfl⟩
theorem route_Bits (n : Int) (w : World) (hn : I64 n) :
    Calls Try.prog 109 #[.int .i64 n] w fun e w' => e = .returned (.int .i64 (bitsq n)) ∧ w = w' := by
  by_cases h : rightq n = true
  · have hr := right_cases h
    rcases hr with rfl | rfl | rfl | rfl | rfl | rfl | rfl
    all_goals
      go_enter Try.func109, Try.ntmps109
      go_wp2_with (go_at_call 97; refine (route_Right _ _ hn).mono ?_; rintro e w1 ⟨rfl, rfl⟩)
      refine wp_loop_rounds 8 ?_
      repeat (rw [rounds_succ]; go_wp2)
      go_ret
      exact ⟨rfl, rfl⟩
  · have h' : rightq n = false := by simpa using h
    have e : bitsq n = 0 := by
      unfold rightq at h'; simp at h'
      unfold bitsq; simp [h']
    clear h
    go_enter Try.func109, Try.ntmps109
    go_wp2_with (go_at_call 97; refine (route_Right _ _ hn).mono ?_; rintro e w1 ⟨rfl, rfl⟩)
    go_ret
    exact ⟨ret_int e.symm, rfl⟩
theorem ref_Bits (n : Int) (w : World) (hn : I64 n) :
    Calls Try.prog 103 #[.int .i64 n] w fun e w' => e = .returned (.int .i64 (rbitsq n)) ∧ w = w' := by
  by_cases h : rightq n = true
  · have hr := right_cases h
    rcases hr with rfl | rfl | rfl | rfl | rfl | rfl | rfl
    all_goals
      go_enter Try.func103, Try.ntmps103
      go_wp2
      refine wp_loop_rounds 8 ?_
      repeat (rw [rounds_succ]; go_wp2)
      go_ret
      exact ⟨rfl, rfl⟩
  · have h' : rightq n = false := by simpa using h
    have e : rbitsq n = -1 := by unfold rbitsq; rw [h']; rfl
    unfold rightq at h'; simp at h'
    obtain ⟨⟨⟨⟨⟨⟨n1, n2⟩, n4⟩, n8⟩, n16⟩, n32⟩, n64⟩ := h'
    have m1 : (n == 1) = false := by simpa using n1
    have m2 : (n == 2) = false := by simpa using n2
    have m4 : (n == 4) = false := by simpa using n4
    have m8 : (n == 8) = false := by simpa using n8
    have m16 : (n == 16) = false := by simpa using n16
    have m32 : (n == 32) = false := by simpa using n32
    have m64 : (n == 64) = false := by simpa using n64
    have E := Lib.hid e
    clear h e n1 n2 n4 n8 n16 n32 n64
    go_enter Try.func103, Try.ntmps103
    go_wp2
    refine wp_loop_rounds 8 ?_
    repeat (rw [rounds_succ]; go_wp2)
    go_ret
    exact ⟨ret_int E.out.symm, rfl⟩
def ofq (hi lo : Nat) (n : Int) : Int := if rightq n then ((foldq (keySum hi lo) (bitsq n) : Nat) : Int) else -1
theorem bitsq_bd (n : Int) : 0 ≤ bitsq n ∧ bitsq n ≤ 6 := by unfold bitsq; omega
theorem foldq_small (h : Nat) (n : Int) : foldq h (bitsq n) < 64 ∧ (rightq n = true → (foldq h (bitsq n) : Int) < n) := by
  have b := bitsq_bd n
  by_cases h0 : bitsq n < 1
  · have e : foldq h (bitsq n) = 0 := by unfold foldq; rw [if_pos (.inl h0)]
    rw [e]
    exact ⟨by omega, fun hr => by have := right_cases hr; omega⟩
  · have f := foldq_lt h (bitsq n) (by omega) (by omega)
    have p : 2 ^ (bitsq n).toNat ≤ 2 ^ 6 := Nat.pow_le_pow_right (by decide) (by omega)
    refine ⟨by omega, fun hr => ?_⟩
    rcases right_cases hr with rfl | rfl | rfl | rfl | rfl | rfl | rfl <;> simp [bitsq] at f ⊢ <;> first | omega | (simp [bitsq] at h0)
theorem ofq_bd (hi lo : Nat) (n : Int) : -1 ≤ ofq hi lo n ∧ ofq hi lo n < 64 ∧ (rightq n = true → 0 ≤ ofq hi lo n ∧ ofq hi lo n < n) := by
  unfold ofq
  have f := foldq_small (keySum hi lo) n
  split
  · rename_i h; exact ⟨by omega, by omega, fun _ => ⟨by omega, f.2 h⟩⟩
  · rename_i h; exact ⟨by omega, by omega, fun h2 => absurd h2 h⟩
theorem wrap_fold (h : Nat) (n : Int) : wrap64 ((foldq h (bitsq n) : Nat) : Int) = ((foldq h (bitsq n) : Nat) : Int) := by
  have := (foldq_small h n).1
  unfold wrap64; omega
theorem route_Of (hi lo : Nat) (n : Int) (w : World) (hn : I64 n) (h1 : hi < 18446744073709551616) (h2 : lo < 18446744073709551616) :
    Calls Try.prog 66 #[.agg #[.int .u64 hi, .int .u64 lo], .int .i64 n] w fun e w' => e = .returned (.int .i64 (ofq hi lo n)) ∧ Below w.heap.size w w' := by
  have k1 := keySum_lt hi lo
  have f := (foldq_small (keySum hi lo) n).1
  cases h : rightq n
  · go_enter Try.func66, Try.ntmps66
    go_wp2_with (go_at_call 97; refine (route_Right _ _ hn).mono ?_; rintro e w1 ⟨rfl, rfl⟩)
    go_ret
    exact ⟨ret_int (by unfold ofq; rw [h]; rfl), by go_grown⟩
  · go_enter Try.func66, Try.ntmps66
    go_wp2_with (first | (go_at_call 97; refine (route_Right _ _ hn).mono ?_; rintro e w1 ⟨rfl, rfl⟩) | (go_at_call 109; refine (route_Bits _ _ hn).mono ?_; rintro e w1 ⟨rfl, rfl⟩) | (go_at_call 107; refine (fnv_Fold _ _ _ k1).mono ?_; rintro e w1 ⟨rfl, rfl⟩) | (go_at_call 108; refine (fnv_Key _ _ _ h1 h2).mono ?_; rintro e w1 ⟨rfl, hb⟩))
    go_ret
    refine ⟨ret_int (by unfold ofq; rw [h]; simp), ?_⟩
    exact ((Below.refl _ _).alloc (Nat.le_refl _) _).trans (hb.mono (by simp))
theorem ref_Of (hi lo : Nat) (n : Int) (w : World) (hn : I64 n) (h1 : hi < 18446744073709551616) (h2 : lo < 18446744073709551616) :
    Calls Try.prog 68 #[.agg #[.int .u64 hi, .int .u64 lo], .int .i64 n] w fun e w' => e = .returned (.int .i64 (ofq hi lo n)) ∧ Below w.heap.size w w' := by
  have k1 := keySum_lt hi lo
  have f := (foldq_small (keySum hi lo) n).1
  have bd := bitsq_bd n
  cases h : rightq n
  · have e : rbitsq n = -1 := by unfold rbitsq; rw [h]; rfl
    go_enter Try.func68, Try.ntmps68
    go_wp2_with (go_at_call 103; refine (ref_Bits _ _ hn).mono ?_; rintro e w1 ⟨rfl, rfl⟩)
    go_ret
    exact ⟨ret_int (by unfold ofq; rw [h]; rfl), by go_grown⟩
  · have e : rbitsq n = bitsq n := by unfold rbitsq; rw [h]; rfl
    have b0 := bd.1
    clear bd
    go_enter Try.func68, Try.ntmps68
    go_wp2_with (first | (go_at_call 103; refine (ref_Bits _ _ hn).mono ?_; rintro e w1 ⟨rfl, rfl⟩) | (go_at_call 111; refine (ref_Fold _ _ _ k1).mono ?_; rintro e w1 ⟨rfl, rfl⟩) | (go_at_call 112; refine (ref_Key _ _ _ h1 h2).mono ?_; rintro e w1 ⟨rfl, hb⟩))
    go_ret
    refine ⟨ret_int (by unfold ofq; rw [h]; simp), ?_⟩
    exact ((Below.refl _ _).alloc (Nat.le_refl _) _).trans (hb.mono (by simp))
end Go.Proofs.Ytkjmacdekfbfhaa
