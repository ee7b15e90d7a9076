/- Package sat and its reference: what each function gives, as plain numbers; and that the calls give just that. -/
import Derived.Test.YtkjmacdekfbfhaaBase
import Derived.Test.YtkjmacdekfbfhaaInt
import Derived.Test.YtkjmacdekfbfhaaOpen
import Derived.Deep.Light
namespace Go.Proofs.Ytkjmacdekfbfhaa
open Go.RowKit
set_option linter.unusedSimpArgs false
set_option linter.unusedVariables false

/-- A number brought between the ends of int64. -/
def satq (x : Int) : Int := if 9223372036854775807 < x then 9223372036854775807 else if x < -9223372036854775808 then -9223372036854775808 else x
theorem satq_I64 (x : Int) : I64 (satq x) := by unfold I64 satq; omega
theorem satq_id {x : Int} (h : I64 x) : satq x = x := by unfold I64 at h; unfold satq; omega
def mag (a : Int) : Int := if a < 0 then -a else a
theorem mag_bd {a : Int} (h : I64 a) : 0 ≤ mag a ∧ mag a ≤ 9223372036854775808 := by unfold I64 at h; unfold mag; omega
theorem mag_pos {a : Int} (h : a ≠ 0) : 0 < mag a := by unfold mag; omega
def clampq (n lo hi : Int) : Int := if n < lo ∨ hi < lo then lo else if hi < n then hi else n
def floorq (a b : Int) : Int := if b < 1 then 0 else a / b
def ceilq (a b : Int) : Int := if b < 1 then 0 else -((-a) / b)

def sumq (l : List Int) : Int := l.foldl (fun s n => satq (s + n)) 0
theorem sumq_snoc (l : List Int) (n : Int) : sumq (l ++ [n]) = satq (sumq l + n) := by simp [sumq]
theorem sumq_I64 (l : List Int) : I64 (sumq l) := by
  rcases List.eq_nil_or_concat l with rfl | ⟨l, n, rfl⟩
  · unfold I64 sumq; simp
  · rw [List.concat_eq_append, sumq_snoc]; exact satq_I64 _
theorem take_next {α : Type} {l : List α} {k : Nat} {x : α} (h : l[k]? = some x) : l.take (k + 1) = l.take k ++ [x] := by
  obtain ⟨hk, rfl⟩ := List.getElem?_eq_some_iff.1 h
  exact List.take_succ_eq_append_getElem hk
/-- A number's lowest bits, as a number with a sign. -/
def narrowq (n bits : Int) : Int := if bits < 1 ∨ 64 < bits then 0 else wrap64 (n * 2 ^ (64 - bits).toNat) / 2 ^ (64 - bits).toNat
def staysq (n bits : Int) : Bool := if bits < 1 ∨ 64 < bits then false else narrowq n bits == n

section contracts
set_option maxHeartbeats 400000
theorem sat_Add (a b : Int) (w : World) (ha : I64 a) (hb : I64 b) :
    Calls Try.prog 76 #[.int .i64 a, .int .i64 b] w fun e w' => e = .returned (.int .i64 (satq (a + b))) ∧ w = w' := by
  go_enter Try.func76, Try.ntmps76
  go_wp2
  all_goals go_ret
  all_goals refine ⟨ret_int ?_, rfl⟩
  all_goals (simp only [wrap64, I64, satq] at *; omega)
theorem ref_Add (a b : Int) (w : World) (ha : I64 a) (hb : I64 b) :
    Calls Try.prog 94 #[.int .i64 a, .int .i64 b] w fun e w' => e = .returned (.int .i64 (satq (a + b))) ∧ w = w' := by
  go_enter Try.func94, Try.ntmps94
  go_wp2
  all_goals go_ret
  all_goals refine ⟨ret_int ?_, rfl⟩
  all_goals (simp only [wrap64, I64, satq] at *; omega)
theorem sat_bit (c : Bool) (w : World) :
    Calls Try.prog 122 #[.bool c] w fun e w' => e = .returned (.int .i64 (if c then 1 else 0)) ∧ w = w' := by
  cases c <;> (go_enter Try.func122, Try.ntmps122; go_wp2; go_ret; exact ⟨rfl, rfl⟩)
theorem sat_Sub (a b : Int) (w : World) (ha : I64 a) (hb : I64 b) :
    Calls Try.prog 95 #[.int .i64 a, .int .i64 b] w fun e w' => e = .returned (.int .i64 (satq (a - b))) ∧ w = w' := by
  by_cases h : b = -9223372036854775808
  · subst h
    by_cases h2 : a < 0
    · have k : decide (a < 0) = true := by simpa using h2
      go_enter Try.func95, Try.ntmps95
      go_wp2_with (first | (go_at_call 122; refine (sat_bit true _).mono ?_; rintro e w1 ⟨rfl, rfl⟩) | (go_at_call 76; refine (sat_Add _ _ _ (by first | assumption | exact satq_I64 _) (by unfold I64; omega)).mono ?_; rintro e w1 ⟨rfl, rfl⟩))
      go_ret
      refine ⟨ret_int ?_, rfl⟩
      simp only [I64, satq] at *
      simp
      omega
    · have k : decide (a < 0) = false := by simpa using h2
      go_enter Try.func95, Try.ntmps95
      go_wp2_with (first | (go_at_call 122; refine (sat_bit false _).mono ?_; rintro e w1 ⟨rfl, rfl⟩) | (go_at_call 76; refine (sat_Add _ _ _ (by first | assumption | exact satq_I64 _) (by unfold I64; omega)).mono ?_; rintro e w1 ⟨rfl, rfl⟩))
      go_ret
      refine ⟨ret_int ?_, rfl⟩
      simp only [I64, satq] at *
      simp
      omega
  · have k : (b == -9223372036854775808) = false := by simpa using h
    have h3 : b ≠ -9223372036854775808 ∧ True := ⟨h, trivial⟩
    have H := Lib.hid h3
    clear h h3
    go_enter Try.func95, Try.ntmps95
    go_wp2_with (first | (go_at_call 76; refine (sat_Add _ _ _ ha (I64_wrap _)).mono ?_; rintro e w1 ⟨rfl, rfl⟩))
    go_ret
    refine ⟨ret_int ?_, rfl⟩
    have h := H.out.1
    simp only [wrap64, I64, satq] at *
    omega
theorem ref_Sub (a b : Int) (w : World) (ha : I64 a) (hb : I64 b) :
    Calls Try.prog 96 #[.int .i64 a, .int .i64 b] w fun e w' => e = .returned (.int .i64 (satq (a - b))) ∧ w = w' := by
  go_enter Try.func96, Try.ntmps96
  go_wp2
  all_goals go_ret
  all_goals refine ⟨ret_int ?_, rfl⟩
  all_goals (simp only [wrap64, I64, satq] at *; omega)
theorem sat_size (a : Int) (w : World) (ha : I64 a) :
    Calls Try.prog 121 #[.int .i64 a] w fun e w' => e = .returned (.int .u64 (mag a)) ∧ w = w' := by
  go_enter Try.func121, Try.ntmps121
  go_wp2
  all_goals go_ret
  all_goals refine ⟨ret_int ?_, rfl⟩
  all_goals (simp only [wrap64, I64, mag, IntKind.wrap_u64] at *; omega)
theorem ref_far (a : Int) (w : World) (ha : I64 a) :
    Calls Try.prog 124 #[.int .i64 a] w fun e w' => e = .returned (.int .u64 (mag a)) ∧ w = w' := by
  go_enter Try.func124, Try.ntmps124
  go_wp2
  all_goals go_ret
  all_goals refine ⟨ret_int ?_, rfl⟩
  all_goals (simp only [wrap64, I64, mag, IntKind.wrap_u64] at *; omega)
theorem mul_no {x y M : Int} (hy : 0 < y) (h : x ≤ M / y) : x * y ≤ M := (Int.le_ediv_iff_mul_le hy).1 h
theorem mul_yes {x y M : Int} (hy : 0 < y) (h : M / y < x) : M < x * y := (Int.ediv_lt_iff_lt_mul hy).1 h
theorem mag_mul (a b : Int) : mag a * mag b = mag (a * b) := by
  unfold mag
  by_cases h1 : a < 0 <;> by_cases h2 : b < 0
  · have := Int.mul_pos_of_neg_of_neg h1 h2
    rw [if_pos h1, if_pos h2, if_neg (by omega), Int.neg_mul_neg]
  · rcases Int.lt_or_eq_of_le (Int.not_lt.1 h2) with h3 | h3
    · have := Int.mul_neg_of_neg_of_pos h1 h3
      rw [if_pos h1, if_neg h2, if_pos this, Int.neg_mul]
    · subst h3; simp
  · rcases Int.lt_or_eq_of_le (Int.not_lt.1 h1) with h3 | h3
    · have := Int.mul_neg_of_pos_of_neg h3 h2
      rw [if_neg h1, if_pos h2, if_pos this, Int.mul_neg]
    · subst h3; simp
  · have := Int.mul_nonneg (Int.not_lt.1 h1) (Int.not_lt.1 h2)
    rw [if_neg h1, if_neg h2, if_neg (by omega)]
theorem mul_sign (a b : Int) (ha : a ≠ 0) (hb : b ≠ 0) : (a * b < 0 ↔ (a < 0) ≠ (b < 0)) ∧ a * b ≠ 0 := by
  refine ⟨?_, Int.mul_ne_zero ha hb⟩
  by_cases h1 : a < 0 <;> by_cases h2 : b < 0
  · have := Int.mul_pos_of_neg_of_neg h1 h2; simp [h1, h2]; omega
  · have := Int.mul_neg_of_neg_of_pos h1 (show 0 < b by omega); simp [h1, h2]; omega
  · have := Int.mul_neg_of_pos_of_neg (show 0 < a by omega) h2; simp [h1, h2]; omega
  · have := Int.mul_pos (show 0 < a by omega) (show 0 < b by omega); simp [h1, h2]; omega
theorem sat_Mul_t (a b : Int) (w : World) (ha : I64 a) (hb : I64 b) (h0 : (a == 0) = false) (h1 : (b == 0) = false)  :
    Calls Try.prog 80 #[.int .i64 a, .int .i64 b] w fun e w' => e = .returned (.int .i64 (satq (a * b))) ∧ w = w' := by
  have b1 : 1 ≤ mag b := by have := mag_pos (a := b) (by simpa using h1); omega
  have b2 := (mag_bd hb).2
  have a1 := (mag_bd ha).1
  have a2 := (mag_bd ha).2
  by_cases h2 : a < 0 <;> by_cases h3 : b < 0
  all_goals first | have k2 : decide (a < 0) = true := by simpa using h2
                  | have k2 : decide (a < 0) = false := by simpa using h2
  all_goals first | have k3 : decide (b < 0) = true := by simpa using h3
                  | have k3 : decide (b < 0) = false := by simpa using h3
  all_goals
    go_enter Try.func80, Try.ntmps80
    go_wp2_with (first | (go_at_call 121; refine (sat_size _ _ (by assumption)).mono ?_; rintro e w1 ⟨rfl, rfl⟩) | (go_at_call 122; refine (sat_bit _ _).mono ?_; rintro e w1 ⟨rfl, rfl⟩))
  all_goals
    go_ret
    refine ⟨ret_int ?_, rfl⟩
    go_light
    have s1 := (mul_sign a b (by simpa using h0) (by simpa using h1)).1
    have s2 := (mul_sign a b (by simpa using h0) (by simpa using h1)).2
    have e := mag_mul a b
    first
      | have g := mul_yes (by omega) (by assumption : 9223372036854775807 / mag b < mag a)
      | have g := mul_yes (by omega) (by assumption : 9223372036854775808 / mag b < mag a)
      | have g := mul_no (by omega) (by assumption : mag a ≤ 9223372036854775807 / mag b)
      | have g := mul_no (by omega) (by assumption : mag a ≤ 9223372036854775808 / mag b)
    have p0 := Int.mul_pos (mag_pos (a := a) (by simpa using h0)) (mag_pos (a := b) (by simpa using h1))
    generalize mag a * mag b = p at *
    generalize a * b = q at *
    clear k2 k3
    unfold mag at e
    first
      | (have h2' : ¬ a < 0 := by omega
         have h3' : ¬ b < 0 := by omega
         simp only [h2', h3', ne_eq, not_true_eq_false, iff_false] at s1
         simp only [wrap64, I64, satq, IntKind.wrap_u64]
         omega)
      | (have h2' : ¬ a < 0 := by omega
         simp only [h2', h3, ne_eq, eq_iff_iff, iff_true, false_iff, not_false_eq_true, not_true_eq_false] at s1
         simp only [wrap64, I64, satq, IntKind.wrap_u64]
         omega)
      | (have h3' : ¬ b < 0 := by omega
         simp only [h2, h3', ne_eq, eq_iff_iff, iff_true, true_iff, not_false_eq_true, not_true_eq_false] at s1
         simp only [wrap64, I64, satq, IntKind.wrap_u64]
         omega)
      | (simp only [h2, h3, ne_eq, not_true_eq_false, iff_false] at s1
         simp only [wrap64, I64, satq, IntKind.wrap_u64]
         omega)
theorem sat_Mul (a b : Int) (w : World) (ha : I64 a) (hb : I64 b) :
    Calls Try.prog 80 #[.int .i64 a, .int .i64 b] w fun e w' => e = .returned (.int .i64 (satq (a * b))) ∧ w = w' := by
  by_cases h0 : a = 0
  · subst h0
    go_enter Try.func80, Try.ntmps80
    go_wp2
    go_ret
    exact ⟨ret_int (by rw [Int.zero_mul]; decide), rfl⟩
  · by_cases h1 : b = 0
    · subst h1
      have k : (a == 0) = false := by simpa using h0
      go_enter Try.func80, Try.ntmps80
      go_wp2
      go_ret
      exact ⟨ret_int (by rw [Int.mul_zero]; decide), rfl⟩
    · exact sat_Mul_t a b w ha hb (by simpa using h0) (by simpa using h1)
theorem ref_Mul_t (a b : Int) (w : World) (ha : I64 a) (hb : I64 b) (h0 : (a == 0) = false) (h1 : (b == 0) = false)  :
    Calls Try.prog 82 #[.int .i64 a, .int .i64 b] w fun e w' => e = .returned (.int .i64 (satq (a * b))) ∧ w = w' := by
  have b1 : 1 ≤ mag b := by have := mag_pos (a := b) (by simpa using h1); omega
  have b2 := (mag_bd hb).2
  have a1 := (mag_bd ha).1
  have a2 := (mag_bd ha).2
  by_cases h2 : a < 0 <;> by_cases h3 : b < 0
  all_goals first | have k2 : decide (a < 0) = true := by simpa using h2
                  | have k2 : decide (a < 0) = false := by simpa using h2
  all_goals first | have k3 : decide (b < 0) = true := by simpa using h3
                  | have k3 : decide (b < 0) = false := by simpa using h3
  all_goals
    go_enter Try.func82, Try.ntmps82
    go_wp2_with (first | (go_at_call 124; refine (ref_far _ _ (by assumption)).mono ?_; rintro e w1 ⟨rfl, rfl⟩))
  all_goals
    go_ret
    refine ⟨ret_int ?_, rfl⟩
    go_light
    have s1 := (mul_sign a b (by simpa using h0) (by simpa using h1)).1
    have s2 := (mul_sign a b (by simpa using h0) (by simpa using h1)).2
    have e := mag_mul a b
    first
      | have g := mul_yes (by omega) (by assumption : 9223372036854775807 / mag b < mag a)
      | have g := mul_yes (by omega) (by assumption : 9223372036854775808 / mag b < mag a)
      | have g := mul_no (by omega) (by assumption : mag a ≤ 9223372036854775807 / mag b)
      | have g := mul_no (by omega) (by assumption : mag a ≤ 9223372036854775808 / mag b)
    have p0 := Int.mul_pos (mag_pos (a := a) (by simpa using h0)) (mag_pos (a := b) (by simpa using h1))
    generalize mag a * mag b = p at *
    generalize a * b = q at *
    clear k2 k3
    unfold mag at e
    first
      | (have h2' : ¬ a < 0 := by omega
         have h3' : ¬ b < 0 := by omega
         simp only [h2', h3', ne_eq, not_true_eq_false, iff_false] at s1
         simp only [wrap64, I64, satq, IntKind.wrap_u64]
         omega)
      | (have h2' : ¬ a < 0 := by omega
         simp only [h2', h3, ne_eq, eq_iff_iff, iff_true, false_iff, not_false_eq_true, not_true_eq_false] at s1
         simp only [wrap64, I64, satq, IntKind.wrap_u64]
         omega)
      | (have h3' : ¬ b < 0 := by omega
         simp only [h2, h3', ne_eq, eq_iff_iff, iff_true, true_iff, not_false_eq_true, not_true_eq_false] at s1
         simp only [wrap64, I64, satq, IntKind.wrap_u64]
         omega)
      | (simp only [h2, h3, ne_eq, not_true_eq_false, iff_false] at s1
         simp only [wrap64, I64, satq, IntKind.wrap_u64]
         omega)
theorem ref_Mul (a b : Int) (w : World) (ha : I64 a) (hb : I64 b) :
    Calls Try.prog 82 #[.int .i64 a, .int .i64 b] w fun e w' => e = .returned (.int .i64 (satq (a * b))) ∧ w = w' := by
  by_cases h0 : a = 0
  · subst h0
    go_enter Try.func82, Try.ntmps82
    go_wp2
    go_ret
    exact ⟨ret_int (by rw [Int.zero_mul]; decide), rfl⟩
  · by_cases h1 : b = 0
    · subst h1
      have k : (a == 0) = false := by simpa using h0
      go_enter Try.func82, Try.ntmps82
      go_wp2
      go_ret
      exact ⟨ret_int (by rw [Int.mul_zero]; decide), rfl⟩
    · exact ref_Mul_t a b w ha hb (by simpa using h0) (by simpa using h1)
theorem sat_Floor (a b : Int) (w : World) (ha : I64 a) (hb : I64 b) :
    Calls Try.prog 75 #[.int .i64 a, .int .i64 b] w fun e w' => e = .returned (.int .i64 (floorq a b)) ∧ w = w' := by
  by_cases h : b < 1
  · go_enter Try.func75, Try.ntmps75
    go_wp2
    go_ret
    exact ⟨ret_int (by unfold floorq; rw [if_pos h]), rfl⟩
  · have h' : 1 ≤ b := by omega
    clear h
    by_cases h2 : 0 ≤ a <;> by_cases h3 : 0 < a
    all_goals first | omega | skip
    all_goals
      go_enter Try.func75, Try.ntmps75
      go_wp2
    all_goals
      go_ret
      refine ⟨ret_int ?_, rfl⟩
      unfold floorq
      rw [if_neg (show ¬ b < 1 by omega)]
      all_goals
        go_light
        have f0 := fl_bd a b h'
        have f1 := fl_tdiv a b h'
        have f2 := fl_tmod a b h'
        have f3 := fl_not a b h'
        have f4 := fl_tdiv (-1 - a) b h'
        have f5 := fl_bd (-1 - a) b h'
        have f6 : wrap64 (-1 - a) = -1 - a := by simp only [wrap64, I64] at *; omega
        try rw [f6]
        simp only [f1, f2, f3, f4] at *
        simp only [wrap64, I64] at *
        try omega
theorem sat_Ceil (a b : Int) (w : World) (ha : I64 a) (hb : I64 b) :
    Calls Try.prog 71 #[.int .i64 a, .int .i64 b] w fun e w' => e = .returned (.int .i64 (ceilq a b)) ∧ w = w' := by
  by_cases h : b < 1
  · go_enter Try.func71, Try.ntmps71
    go_wp2
    go_ret
    exact ⟨ret_int (by unfold ceilq; rw [if_pos h]), rfl⟩
  · have h' : 1 ≤ b := by omega
    clear h
    by_cases h2 : 0 ≤ a <;> by_cases h3 : 0 < a
    all_goals first | omega | skip
    all_goals
      go_enter Try.func71, Try.ntmps71
      go_wp2
    all_goals
      go_ret
      refine ⟨ret_int ?_, rfl⟩
      unfold ceilq
      rw [if_neg (by omega), fl_neg a b h']
      all_goals
        go_light
        have f0 := fl_bd a b h'
        have f1 := fl_tdiv a b h'
        have f2 := fl_tmod a b h'
        have f3 := fl_less a b h'
        have f4 := fl_tdiv (a - 1) b h'
        have f5 := fl_bd (a - 1) b h'
        have f6 : 0 < a → wrap64 (a - 1) = a - 1 := by simp only [wrap64, I64] at *; omega
        try rw [f6 (by omega)]
        simp only [f1, f2, f3, f4] at *
        simp only [wrap64, I64] at *
        try omega
theorem ref_Floor (a b : Int) (w : World) (ha : I64 a) (hb : I64 b) :
    Calls Try.prog 83 #[.int .i64 a, .int .i64 b] w fun e w' => e = .returned (.int .i64 (floorq a b)) ∧ w = w' := by
  by_cases h : b < 1
  · go_enter Try.func83, Try.ntmps83
    go_wp2
    go_ret
    exact ⟨ret_int (by unfold floorq; rw [if_pos h]), rfl⟩
  · have h' : 1 ≤ b := by omega
    clear h
    by_cases h2 : 0 ≤ a <;> by_cases h3 : 0 < a
    all_goals first | omega | skip
    all_goals
      go_enter Try.func83, Try.ntmps83
      go_wp2
    all_goals
      go_ret
      refine ⟨ret_int ?_, rfl⟩
      unfold floorq
      rw [if_neg (show ¬ b < 1 by omega)]
      all_goals
        go_light
        have f0 := fl_bd a b h'
        have f1 := fl_tdiv a b h'
        have f2 := fl_tmod a b h'
        have f3 := fl_not a b h'
        have f4 := fl_tdiv (-1 - a) b h'
        have f5 := fl_bd (-1 - a) b h'
        have f6 : wrap64 (-1 - a) = -1 - a := by simp only [wrap64, I64] at *; omega
        try rw [f6]
        simp only [f1, f2, f3, f4] at *
        simp only [wrap64, I64] at *
        try omega
theorem sat_Sum (A : Option Addr) (len cap : Nat) (l : List Int) (w : World) (hs : IntsAre w A len cap l) (hg : ∀ x ∈ l, I64 x) (hn : len ≤ 300) :
    Calls Try.prog 117 #[.slice A len cap] w fun e w' => e = .returned (.int .i64 (sumq l)) ∧ w = w' := by
  have HS := Lib.hid hs
  have HG := Lib.hid hg
  have hl : l.length = len ∧ True := ⟨hs.1, trivial⟩
  have HL := Lib.hid hl
  clear hs hg hl
  go_enter Try.func117, Try.ntmps117
  go_wp2
  go_loop [3, 5, 8] (fun t _ i => ∃ k : Nat, k ≤ len ∧ i = .int .i64 k ∧ t = .int .i64 (sumq (l.take k))) (fun _ _ i => len - (intOf i).toNat)
  case atStart => exact ⟨0, Nat.zero_le _, rfl, rfl⟩
  case round =>
    obtain ⟨k, hk, rfl, rfl⟩ := hrel
    by_cases hlt : k < len
    · obtain ⟨b, off, x, rfl, hx, hb, hc⟩ := HS.out.at_ hlt
      have hgx : I64 x := HG.out x (List.mem_of_getElem? hx)
      have HX := Lib.hid hx
      clear hx
      go_wp2_with (go_at_call 76; refine (sat_Add _ _ _ (sumq_I64 _) hgx).mono ?_; rintro e w1 ⟨rfl, rfl⟩)
      go_round
      case rel => exact ⟨k + 1, by omega, by go_num, by rw [take_next HX.out, sumq_snoc]⟩
      case measure => simp [intOf]; omega
    · go_wp2
      go_ret
      exact ⟨ret_int (by rw [List.take_of_length_le (by have := HL.out.1; omega)]), rfl⟩
end contracts
end Go.Proofs.Ytkjmacdekfbfhaa
