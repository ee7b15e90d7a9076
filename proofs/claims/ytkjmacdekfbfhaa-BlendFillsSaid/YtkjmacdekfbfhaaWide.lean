/- Package wide: each function gives the plain number. -/
import Derived.Test.YtkjmacdekfbfhaaWideP
import Derived.Test.YtkjmacdekfbfhaaOpen
import Derived.Test.YtkjmacdekfbfhaaBlk
import Derived.Laws.Externs
import Derived.BigQuiet
import Derived.Deep.QuietTactic
import Derived.Deep.Light
namespace Go.Proofs.Ytkjmacdekfbfhaa
open Go.RowKit
set_option linter.unusedSimpArgs false
set_option linter.unusedVariables false
set_option maxHeartbeats 400000

theorem ret_two {a b c d : Int} (h : a = b) (h2 : c = d) : Ending.returned (.agg #[.int .u64 a, .int .u64 c]) = .returned (.agg #[.int .u64 b, .int .u64 d]) := by rw [h, h2]
theorem ret_two_bool {a b c d : Int} {p q : Bool} (h : a = b) (h2 : c = d) (h3 : p = q) : Ending.returned (.tuple #[.agg #[.int .u64 a, .int .u64 c], .bool p]) = .returned (.tuple #[.agg #[.int .u64 b, .int .u64 d], .bool q]) := by rw [h, h2, h3]
theorem hi_lo_of {N h l : Nat} (e : N = h * 2 ^ 64 + l) (hl : l < 2 ^ 64) : hiQ N = h ∧ loQ N = l := by
  subst e; unfold hiQ loQ; omega
theorem add64 (x y c : Int) (hx : 0 ≤ x) (hy : 0 ≤ y) (hc0 : 0 ≤ c) (hc : c ≤ 1) (w : World) : (callFunc 170 #[.int .u64 x, .int .u64 y, .int .u64 c]).run Try.prog w =
    .ok (.value (.tuple #[.int .u64 ((x + y + c) % 18446744073709551616), .int .u64 ((x + y + c) / 18446744073709551616)])) w := by
  rw [run_callFunc_extern Try.func170 (by kernel_rfl) (by kernel_rfl) (by kernel_rfl) (e := add64Entry) (by kernel_rfl), run_add64 x y c hx hy hc0 hc]
  rfl
theorem add64_0 (x y : Int) (hx : 0 ≤ x) (hy : 0 ≤ y) (w : World) : (callFunc 170 #[.int .u64 x, .int .u64 y, .int .u64 0]).run Try.prog w =
    .ok (.value (.tuple #[.int .u64 ((x + y) % 18446744073709551616), .int .u64 ((x + y) / 18446744073709551616)])) w := by
  simpa using add64 x y 0 hx hy (Int.le_refl 0) (by decide) w
def two (h l : Nat) : Nat := h * 2 ^ 64 + l
def sumRow (S : Nat) : Nat := if S < 2 ^ 128 then S else 0
def sumFits (S : Nat) : Bool := decide (S < 2 ^ 128)
theorem wide_Add (h1 l1 h2 l2 : Nat) (w : World) (b1 : h1 < 18446744073709551616) (b2 : l1 < 18446744073709551616) (b3 : h2 < 18446744073709551616) (b4 : l2 < 18446744073709551616) :
    Calls Try.prog 152 #[.agg #[.int .u64 h1, .int .u64 l1], .agg #[.int .u64 h2, .int .u64 l2]] w fun e w' =>
      e = .returned (.tuple #[.agg #[.int .u64 ((hiQ (sumRow (two h1 l1 + two h2 l2)) : Nat) : Int), .int .u64 ((loQ (sumRow (two h1 l1 + two h2 l2)) : Nat) : Int)], .bool (sumFits (two h1 l1 + two h2 l2))]) ∧ Below w.heap.size w w' := by
  have a1 : (0 : Int) ≤ (l1 : Int) := by omega
  have a2 : (0 : Int) ≤ (l2 : Int) := by omega
  have a3 : (0 : Int) ≤ (h1 : Int) := by omega
  have a4 : (0 : Int) ≤ (h2 : Int) := by omega
  have k0 : (0 : Int) ≤ ((l1 : Int) + (l2 : Int)) / 18446744073709551616 := by omega
  have k1 : ((l1 : Int) + (l2 : Int)) / 18446744073709551616 ≤ 1 := by omega
  by_cases hf : (h1 : Int) + (h2 : Int) + ((l1 : Int) + (l2 : Int)) / 18446744073709551616 < 18446744073709551616
  · have d0 : (((h1 : Int) + (h2 : Int) + ((l1 : Int) + (l2 : Int)) / 18446744073709551616) / 18446744073709551616 != 0) = false := by simp; omega
    have HF := Lib.hid hf
    clear hf
    go_enter Try.func152, Try.ntmps152
    go_wp2_with (first | simp only [add64_0 l1 l2 a1 a2] | simp only [add64 h1 h2 _ a3 a4 k0 k1])
    go_returns
    refine ⟨?_, by go_grown⟩
    have hS : two h1 l1 + two h2 l2 < 2 ^ 128 := by have := HF.out; unfold two; omega
    have e1 : sumRow (two h1 l1 + two h2 l2) = two h1 l1 + two h2 l2 := if_pos hS
    have e2 : sumFits (two h1 l1 + two h2 l2) = true := decide_eq_true hS
    have hl := hi_lo_of (N := two h1 l1 + two h2 l2) (h := h1 + h2 + (l1 + l2) / 18446744073709551616) (l := (l1 + l2) % 18446744073709551616) (by unfold two; omega) (by omega)
    have := HF.out
    rw [e1, e2]
    exact ret_two_bool (by rw [hl.1]; omega) (by rw [hl.2]; omega) rfl
  · have d0 : (((h1 : Int) + (h2 : Int) + ((l1 : Int) + (l2 : Int)) / 18446744073709551616) / 18446744073709551616 != 0) = true := by simp; omega
    have HF := Lib.hid hf
    clear hf
    go_enter Try.func152, Try.ntmps152
    go_wp2_with (first | simp only [add64_0 l1 l2 a1 a2] | simp only [add64 h1 h2 _ a3 a4 k0 k1])
    go_returns
    refine ⟨?_, by go_grown⟩
    have hS : ¬ two h1 l1 + two h2 l2 < 2 ^ 128 := by have := HF.out; unfold two; omega
    have e1 : sumRow (two h1 l1 + two h2 l2) = 0 := if_neg hS
    have e2 : sumFits (two h1 l1 + two h2 l2) = false := decide_eq_false hS
    rw [e1, e2]
    exact ret_two_bool (by simp [hiQ]) (by simp [loQ]) rfl
def smallQ (N : Nat) : Nat := if N < 9223372036854775808 then N else 9223372036854775807
set_option maxRecDepth 100000 in
theorem wide_Small (h l : Nat) (w : World) (b1 : h < 18446744073709551616) (b2 : l < 18446744073709551616) :
    Calls Try.prog 153 #[.agg #[.int .u64 h, .int .u64 l]] w fun e w' => e = .returned (.int .i64 ((smallQ (two h l) : Nat) : Int)) ∧ Below w.heap.size w w' := by
  by_cases h0 : h = 0
  · subst h0
    by_cases h1 : 9223372036854775807 < l
    · go_enter Try.func153, Try.ntmps153
      go_wp2_with fail
      go_ret
      refine ⟨ret_int ?_, by go_grown⟩
      unfold smallQ two
      rw [if_neg (by omega)]; rfl
    · go_enter Try.func153, Try.ntmps153
      go_wp2_with fail
      go_ret
      refine ⟨ret_int ?_, by go_grown⟩
      unfold smallQ two
      rw [if_pos (by omega)]
      show (l : Int) = _
      omega
  · have d0 : ((h : Int) != 0) = true := by simp; omega
    have H0 := Lib.hid h0
    clear h0
    go_enter Try.func153, Try.ntmps153
    go_wp2_with fail
    go_ret
    refine ⟨ret_int ?_, by go_grown⟩
    have := H0.out
    unfold smallQ two
    rw [if_neg (by omega)]; rfl
theorem two_eq (N : Nat) : two (hiQ N) (loQ N) = N := hilo_eq N
theorem hl_inj {M N : Nat} (h1 : hiQ M = hiQ N) (h2 : loQ M = loQ N) : M = N := by rw [← hilo_eq M, ← hilo_eq N, h1, h2]
theorem mul_lt128 {a b : Nat} (ha : a < 2 ^ 64) (hb : b < 2 ^ 64) : a * b < 2 ^ 128 := by
  have := Nat.mul_le_mul (show a ≤ 2 ^ 64 - 1 by omega) (show b ≤ 2 ^ 64 - 1 by omega)
  omega
theorem wide_AddN (X Y : Nat) (w : World) (hX : X < 2 ^ 128) (hY : Y < 2 ^ 128) :
    Calls Try.prog 152 #[.agg #[.int .u64 ((hiQ X : Nat) : Int), .int .u64 ((loQ X : Nat) : Int)], .agg #[.int .u64 ((hiQ Y : Nat) : Int), .int .u64 ((loQ Y : Nat) : Int)]] w fun e w' =>
      e = .returned (.tuple #[.agg #[.int .u64 ((hiQ (sumRow (X + Y)) : Nat) : Int), .int .u64 ((loQ (sumRow (X + Y)) : Nat) : Int)], .bool (sumFits (X + Y))]) ∧ Below w.heap.size w w' := by
  have h1 := hiQ_lt hX
  have h2 := loQ_lt X
  have h3 := hiQ_lt hY
  have h4 := loQ_lt Y
  have := wide_Add (hiQ X) (loQ X) (hiQ Y) (loQ Y) w (by omega) (by omega) (by omega) (by omega)
  rw [two_eq, two_eq] at this
  exact this
end Go.Proofs.Ytkjmacdekfbfhaa
