/- The laws on package sat: each walk, out of the contracts of the functions that it calls. -/
import Derived.Test.YtbklojncaimneaaSatBits
namespace Go.Proofs.Ytbklojncaimneaa
open Go.RowKit
set_option linter.unusedSimpArgs false
set_option linter.unusedVariables false
set_option maxHeartbeats 400000

theorem ex_add (w : World) : Calls Try.prog 30 #[.int .i64 9223372036854775807, .int .i64 1] w fun e w' => e = .returned (.int .i64 9223372036854775807) ∧ w = w' :=
  (sat_Add _ _ w (by unfold I64; omega) (by unfold I64; omega)).mono fun _ _ h => h
theorem ex_ceil (w : World) : Calls Try.prog 27 #[.int .i64 (-7), .int .i64 2] w fun e w' => e = .returned (.int .i64 (-3)) ∧ w = w' :=
  (sat_Ceil _ _ w (by unfold I64; omega) (by unfold I64; omega)).mono fun _ _ h => h
theorem ex_narrow (w : World) : Calls Try.prog 19 #[.int .i64 200, .int .i64 8] w fun e w' => e = .returned (.tuple #[.int .i64 (-56), .bool false]) ∧ w = w' :=
  (sat_Narrow 200 8 w (by unfold I64; omega)).mono fun _ _ h => by
    rw [show narrowq 200 8 = -56 by decide +kernel, show staysq 200 8 = false by decide +kernel] at h; exact h
theorem awake01 (w : World) : Calls Try.prog 18 #[] w fun e w' => e = .returned (.bool true) ∧ w = w' := by
  go_enter Try.func18, Try.ntmps18
  go_wp2_with (first | (go_at_call 19; refine (ex_narrow _).mono ?_; rintro e w1 ⟨rfl, rfl⟩) | (go_at_call 30; refine (ex_add _).mono ?_; rintro e w1 ⟨rfl, rfl⟩) | (go_at_call 27; refine (ex_ceil _).mono ?_; rintro e w1 ⟨rfl, rfl⟩))
  go_ret
  exact ⟨rfl, rfl⟩

theorem walk_SatAdds (a b : Int) (w : World) (ha : I64 a) (hb : I64 b) :
    Calls Try.prog 8 #[.int .i64 a, .int .i64 b] w fun e w' => e = .returned (.bool true) ∧ Below w.heap.size w w' := by
  have H : satq (b + a) = satq (a + b) := by rw [Int.add_comm]
  go_enter Try.func8, Try.ntmps8
  go_wp2_with (first | (go_at_call 18; refine (awake01 _).mono ?_; rintro e w1 ⟨rfl, rfl⟩) | (go_at_call 30; refine (sat_Add _ _ _ (by assumption) (by assumption)).mono ?_; rintro e w1 ⟨rfl, rfl⟩) | (go_at_call 31; refine (ref_Add _ _ _ (by assumption) (by assumption)).mono ?_; rintro e w1 ⟨rfl, rfl⟩) | (go_at_call 32; refine (sat_Sub _ _ _ (by assumption) (by assumption)).mono ?_; rintro e w1 ⟨rfl, rfl⟩) | (go_at_call 33; refine (ref_Sub _ _ _ (by assumption) (by assumption)).mono ?_; rintro e w1 ⟨rfl, rfl⟩))
  go_ret
  exact ⟨rfl, Below.refl _ _⟩
theorem walk_SatMuls (a b : Int) (w : World) (ha : I64 a) (hb : I64 b) :
    Calls Try.prog 11 #[.int .i64 a, .int .i64 b] w fun e w' => e = .returned (.bool true) ∧ Below w.heap.size w w' := by
  have H : satq (b * a) = satq (a * b) := by rw [Int.mul_comm]
  have H1 : satq a = a := satq_id ha
  have H0 : satq 0 = 0 := by decide
  have m1 : I64 1 := by unfold I64; omega
  have m0 : I64 0 := by unfold I64; omega
  go_enter Try.func11, Try.ntmps11
  go_wp2_with (first | (go_at_call 18; refine (awake01 _).mono ?_; rintro e w1 ⟨rfl, rfl⟩) | (go_at_call 44; refine (sat_Mul _ _ _ (by assumption) (by assumption)).mono ?_; rintro e w1 ⟨rfl, rfl⟩) | (go_at_call 45; refine (ref_Mul _ _ _ (by assumption) (by assumption)).mono ?_; rintro e w1 ⟨rfl, rfl⟩))
  go_ret
  exact ⟨rfl, Below.refl _ _⟩
theorem walk_SatSums (A : Option Addr) (len cap : Nat) (l : List Int) (n lo hi : Int) (w : World) (hs : IntsAre w A len cap l) (hg : ∀ x ∈ l, I64 x) (hn : I64 n) (hlo : I64 lo) (hhi : I64 hi) :
    Calls Try.prog 10 #[.slice A len cap, .int .i64 n, .int .i64 lo, .int .i64 hi] w fun e w' => e = .returned (.bool true) ∧ Below w.heap.size w w' := by
  have HS := Lib.hid hs
  have HG := Lib.hid hg
  have hm := hs.2.2.1
  have hm2 := hs.2.1
  unfold maxLen at hm
  clear hs hg
  by_cases hl : len ≤ 300
  · go_enter Try.func10, Try.ntmps10
    go_wp2_with (first | (go_at_call 18; refine (awake01 _).mono ?_; rintro e w1 ⟨rfl, rfl⟩) | (go_at_call 40; refine (sat_Sum _ _ _ _ _ HS.out HG.out hl).mono ?_; rintro e w1 ⟨rfl, rfl⟩) | (go_at_call 41; refine (ref_Sum _ _ _ _ _ HS.out HG.out hl).mono ?_; rintro e w1 ⟨rfl, rfl⟩) | (go_at_call 42; refine (sat_Clamp _ _ _ _).mono ?_; rintro e w1 ⟨rfl, rfl⟩) | (go_at_call 43; refine (ref_Clamp _ _ _ _).mono ?_; rintro e w1 ⟨rfl, rfl⟩))
    go_ret
    exact ⟨ret_bool (by simp), Below.refl _ _⟩
  · go_enter Try.func10, Try.ntmps10
    go_wp2_with (first | (go_at_call 18; refine (awake01 _).mono ?_; rintro e w1 ⟨rfl, rfl⟩))
    go_ret
    exact ⟨rfl, Below.refl _ _⟩
theorem div_plain (a b : Int) (ha : I64 a) (hb : I64 b) (h : 1 ≤ b) : wrap64 (a - wrap64 (floorq a b * b)) = a % b ∧ (ceilq a b == floorq a b) = (a % b == 0) ∧ (a % b ≠ 0 → wrap64 (ceilq a b - 1) = floorq a b) ∧ 0 ≤ a % b ∧ a % b < b := by
  have f := fl_bd a b h
  have g := fl_neg a b h
  have e1 : floorq a b = a / b := by unfold floorq; rw [if_neg (by omega)]
  have e2 : ceilq a b = a / b + if a % b = 0 then 0 else 1 := by unfold ceilq; rw [if_neg (by omega), g]
  rw [e1, e2]
  refine ⟨?_, ?_, ?_, f.1.2.1, f.1.2.2⟩
  · have : (a / b) * b = a - a % b := by have := f.1.1; rw [Int.mul_comm]; omega
    rw [this]
    simp only [wrap64, I64] at *
    omega
  · by_cases h0 : a % b = 0
    · simp [h0]
    · have e : (a % b == 0) = false := by simpa using h0
      rw [if_neg h0, e]
      simp; omega
  · intro h0
    rw [if_neg h0]
    simp only [wrap64, I64] at *
    omega
theorem walk_SatDivides (a b : Int) (w : World) (ha : I64 a) (hb : I64 b) :
    Calls Try.prog 7 #[.int .i64 a, .int .i64 b] w fun e w' => e = .returned (.bool true) ∧ Below w.heap.size w w' := by
  by_cases h : b < 1
  · go_enter Try.func7, Try.ntmps7
    go_wp2_with (first | (go_at_call 18; refine (awake01 _).mono ?_; rintro e w1 ⟨rfl, rfl⟩) | (go_at_call 26; refine (sat_Floor _ _ _ (by assumption) (by assumption)).mono ?_; rintro e w1 ⟨rfl, rfl⟩) | (go_at_call 28; refine (ref_Floor _ _ _ (by assumption) (by assumption)).mono ?_; rintro e w1 ⟨rfl, rfl⟩) | (go_at_call 27; refine (sat_Ceil _ _ _ (by assumption) (by assumption)).mono ?_; rintro e w1 ⟨rfl, rfl⟩) | (go_at_call 29; refine (ref_Ceil _ _ _ (by assumption) (by assumption)).mono ?_; rintro e w1 ⟨rfl, rfl⟩))
    go_ret
    exact ⟨rfl, Below.refl _ _⟩
  · obtain ⟨h1, h2, h3, h4, h5⟩ := div_plain a b ha hb (by omega)
    have h6 : 1 ≤ b := by omega
    clear h
    by_cases h0 : a % b = 0
    · rw [h0] at h1 h2 h4
      have h7 : ((0 : Int) == 0) = true := rfl
      rw [h7] at h2
      clear h0 h3 h5
      go_enter Try.func7, Try.ntmps7
      go_wp2_with (first | (go_at_call 18; refine (awake01 _).mono ?_; rintro e w1 ⟨rfl, rfl⟩) | (go_at_call 26; refine (sat_Floor _ _ _ (by assumption) (by assumption)).mono ?_; rintro e w1 ⟨rfl, rfl⟩) | (go_at_call 28; refine (ref_Floor _ _ _ (by assumption) (by assumption)).mono ?_; rintro e w1 ⟨rfl, rfl⟩) | (go_at_call 27; refine (sat_Ceil _ _ _ (by assumption) (by assumption)).mono ?_; rintro e w1 ⟨rfl, rfl⟩) | (go_at_call 29; refine (ref_Ceil _ _ _ (by assumption) (by assumption)).mono ?_; rintro e w1 ⟨rfl, rfl⟩))
      go_ret
      exact ⟨rfl, Below.refl _ _⟩
    · have h8 := h3 h0
      have h7 : (a % b == 0) = false := by simpa using h0
      rw [h7] at h2
      clear h0 h3
      go_enter Try.func7, Try.ntmps7
      go_wp2_with (first | (go_at_call 18; refine (awake01 _).mono ?_; rintro e w1 ⟨rfl, rfl⟩) | (go_at_call 26; refine (sat_Floor _ _ _ (by assumption) (by assumption)).mono ?_; rintro e w1 ⟨rfl, rfl⟩) | (go_at_call 28; refine (ref_Floor _ _ _ (by assumption) (by assumption)).mono ?_; rintro e w1 ⟨rfl, rfl⟩) | (go_at_call 27; refine (sat_Ceil _ _ _ (by assumption) (by assumption)).mono ?_; rintro e w1 ⟨rfl, rfl⟩) | (go_at_call 29; refine (ref_Ceil _ _ _ (by assumption) (by assumption)).mono ?_; rintro e w1 ⟨rfl, rfl⟩))
      go_ret
      exact ⟨rfl, Below.refl _ _⟩
theorem walk_SatNarrows (n bits more : Int) (w : World) (hn : I64 n) (hb : I64 bits) (hm : U8 more) :
    Calls Try.prog 5 #[.int .i64 n, .int .i64 bits, .int .u8 more] w fun e w' => e = .returned (.bool true) ∧ Below w.heap.size w w' := by
  by_cases h : bits < 1 ∨ 64 < bits
  · have s0 : staysq n bits = false := by unfold staysq; rw [if_pos h]
    rcases h with h | h
    all_goals
      go_enter Try.func5, Try.ntmps5
      go_wp2_with (first | (go_at_call 18; refine (awake01 _).mono ?_; rintro e w1 ⟨rfl, rfl⟩) | (go_at_call 19; refine (sat_Narrow _ _ _ (by assumption)).mono ?_; rintro e w1 ⟨rfl, rfl⟩) | (go_at_call 20; refine (ref_Narrow _ _ _).mono ?_; rintro e w1 ⟨rfl, rfl⟩))
      go_ret
      exact ⟨rfl, Below.refl _ _⟩
  · have h1 : 1 ≤ bits := by omega
    have h2 : bits ≤ 64 := by omega
    have m1 : 0 ≤ more := hm.1
    have m2 : more ≤ 255 := hm.2
    have r0 := Int.emod_nonneg more (show 65 - bits ≠ 0 by omega)
    have r1 := Int.emod_lt_of_pos more (show 0 < 65 - bits by omega)
    have hw : I64 (bits + more % (65 - bits)) := by unfold I64; omega
    have e1 := narrow_stays n bits (bits + more % (65 - bits)) h1 (by omega) (by omega)
    have e2 : staysq n bits = (narrowq n bits == n) := by unfold staysq; rw [if_neg h]
    have e3 : staysq (narrowq n bits) (bits + more % (65 - bits)) = true := by unfold staysq; rw [if_neg (by omega), e1]; simp
    clear h
    go_enter Try.func5, Try.ntmps5
    go_wp2_with (first | (go_at_call 18; refine (awake01 _).mono ?_; rintro e w1 ⟨rfl, rfl⟩) | (go_at_call 19; refine (sat_Narrow _ _ _ (by assumption)).mono ?_; rintro e w1 ⟨rfl, rfl⟩) | (go_at_call 20; refine (ref_Narrow _ _ _).mono ?_; rintro e w1 ⟨rfl, rfl⟩))
    go_ret
    exact ⟨rfl, Below.refl _ _⟩
end Go.Proofs.Ytbklojncaimneaa
