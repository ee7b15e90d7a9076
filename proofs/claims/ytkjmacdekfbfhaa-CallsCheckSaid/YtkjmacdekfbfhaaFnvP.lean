/- Sums of texts as Fowler, Noll and Vo have them: plain facts, no program in sight. -/
import Derived.Test.YtkjmacdekfbfhaaBase
import Derived.Laws.BitsAllLaws
namespace Go.Proofs.Ytkjmacdekfbfhaa
open Go.RowKit
set_option linter.unusedSimpArgs false
set_option linter.unusedVariables false

def step (h c : Nat) : Nat := ((h ^^^ c) * 1099511628211) % 18446744073709551616
def step32 (h c : Nat) : Nat := ((h ^^^ c) * 16777619) % 4294967296
def sum64N (l : List Nat) : Nat := l.foldl step 14695981039346656037
def sum32N (l : List Nat) : Nat := l.foldl step32 2166136261
def codes (l : List UInt8) : List Nat := l.map (·.toNat)
theorem foldl_snoc {α β : Type} (f : β → α → β) (b : β) (l : List α) (c : α) : (l ++ [c]).foldl f b = f (l.foldl f b) c := by simp
theorem foldl_or {α β : Type} (f : β → α → β) (b : β) (p : β → Prop) (hb : p b) (hf : ∀ h c, p (f h c)) (l : List α) : p (l.foldl f b) := by
  rcases List.eq_nil_or_concat l with rfl | ⟨l, n, rfl⟩
  · exact hb
  · rw [List.concat_eq_append, foldl_snoc]; exact hf _ _
theorem mod_cancel {x y p q M : Nat} (h : x * p % M = y * p % M) (hpq : p * q % M = 1 % M) : x % M = y % M := by
  have e : ∀ z : Nat, z * p % M * q % M = z % M := by
    intro z
    rw [Nat.mod_mul_mod, Nat.mul_assoc, Nat.mul_mod, hpq, ← Nat.mul_mod, Nat.mul_one]
  rw [← e x, ← e y, h]
theorem step_lt (h c : Nat) : step h c < 18446744073709551616 := by unfold step; omega
theorem step32_lt (h c : Nat) : step32 h c < 4294967296 := by unfold step32; omega
theorem sum64_snoc (l : List Nat) (c : Nat) : sum64N (l ++ [c]) = step (sum64N l) c := foldl_snoc _ _ _ _
theorem sum32_snoc (l : List Nat) (c : Nat) : sum32N (l ++ [c]) = step32 (sum32N l) c := foldl_snoc _ _ _ _
theorem sum64_lt (l : List Nat) : sum64N l < 18446744073709551616 := foldl_or _ _ (· < 18446744073709551616) (by omega) step_lt l
theorem sum32_lt (l : List Nat) : sum32N l < 4294967296 := foldl_or _ _ (· < 4294967296) (by omega) step32_lt l
theorem codes_take (s : ByteArray) (k : Nat) (h : k < s.size) : codes (s.data.toList.take (k + 1)) = codes (s.data.toList.take k) ++ [s[k].toNat] := by
  rw [List.take_succ_eq_append_getElem (by simpa using h)]
  simp [codes]; rfl
theorem step_walk (h c : Nat) (hh : h < 18446744073709551616) (hc : c < 256) : IntKind.u64.wrap (bits .xor .u64 (h : Int) (IntKind.u64.wrap (c : Int)) * 1099511628211) = ((step h c : Nat) : Int) := by
  rw [IntKind.wrap_u64 c, show (c : Int) % 18446744073709551616 = (c : Int) by omega, u64_xor_nat h c hh (by omega), IntKind.wrap_u64]
  unfold step
  omega
theorem step32_walk (h c : Nat) (hh : h < 4294967296) (hc : c < 256) : IntKind.u32.wrap (bits .xor .u32 (h : Int) (IntKind.u32.wrap (c : Int)) * 16777619) = ((step32 h c : Nat) : Int) := by
  rw [IntKind.wrap_u32 c, show (c : Int) % 4294967296 = (c : Int) by omega, u32_xor_nat h c hh (by omega), IntKind.wrap_u32]
  unfold step32
  omega
theorem step32_walk' (h c : Nat) (hh : h < 4294967296) (hc : c < 256) : bits .xor .u32 (h : Int) ((c : Int) % 4294967296) * 16777619 % 4294967296 = ((step32 h c : Nat) : Int) := by
  have := step32_walk h c hh hc
  rw [IntKind.wrap_u32, IntKind.wrap_u32] at this
  exact this
theorem bit_xor (a b k : Nat) : ((a ^^^ b) / 2 ^ k) % 2 = (a / 2 ^ k % 2 + b / 2 ^ k % 2) % 2 := by
  have h1 := Nat.testBit_xor a b k
  rw [Nat.testBit_eq_decide_div_mod_eq, Nat.testBit_eq_decide_div_mod_eq, Nat.testBit_eq_decide_div_mod_eq] at h1
  generalize (a ^^^ b) / 2 ^ k = x at *
  generalize a / 2 ^ k = y at *
  generalize b / 2 ^ k = z at *
  by_cases hy : y % 2 = 1 <;> by_cases hz : z % 2 = 1 <;> simp [hy, hz] at h1 <;> omega
theorem low_nat (x k : Nat) : x % 2 ^ (k + 1) = x % 2 ^ k + 2 ^ k * (x / 2 ^ k % 2) := Nat.mod_pow_succ
theorem div_step (x k : Nat) : x / 2 ^ k / 2 = x / 2 ^ (k + 1) := by rw [Nat.div_div_eq_div_mul, Nat.pow_succ]
/-- One round of the loop that puts together the bits that are not alike: unlike. -/
theorem unlike_yes (a b k : Nat) (h : a / 2 ^ k % 2 ≠ b / 2 ^ k % 2) : (a ^^^ b) % 2 ^ k + 2 ^ k = (a ^^^ b) % 2 ^ (k + 1) := by
  rw [low_nat, bit_xor]
  have : (a / 2 ^ k % 2 + b / 2 ^ k % 2) % 2 = 1 := by omega
  rw [this]; omega
theorem unlike_no (a b k : Nat) (h : a / 2 ^ k % 2 = b / 2 ^ k % 2) : (a ^^^ b) % 2 ^ k = (a ^^^ b) % 2 ^ (k + 1) := by
  rw [low_nat, bit_xor]
  have : (a / 2 ^ k % 2 + b / 2 ^ k % 2) % 2 = 0 := by omega
  rw [this]; omega
theorem xor_low (h c : Nat) (hc : c < 256) : h - h % 256 + ((h % 256) ^^^ c) = h ^^^ c := by
  have e1 : (h ^^^ c) % 2 ^ 8 = (h % 2 ^ 8) ^^^ (c % 2 ^ 8) := Nat.xor_mod_two_pow
  have e2 : (h ^^^ c) / 2 ^ 8 = (h / 2 ^ 8) ^^^ (c / 2 ^ 8) := Nat.xor_div_two_pow
  have e3 : c % 2 ^ 8 = c := Nat.mod_eq_of_lt hc
  have e4 : c / 2 ^ 8 = 0 := Nat.div_eq_of_lt hc
  rw [e3] at e1
  rw [e4, Nat.xor_zero] at e2
  have e5 := Nat.div_add_mod (h ^^^ c) (2 ^ 8)
  rw [e1, e2] at e5
  simp only [Nat.reducePow] at e5
  omega
theorem xor_lt_256 (a b : Nat) (ha : a < 256) (hb : b < 256) : a ^^^ b < 256 := Nat.xor_lt_two_pow (n := 8) ha hb
def foldq (h : Nat) (b : Int) : Nat := if b < 1 ∨ 32 < b then 0 else (h ^^^ h / 2 ^ b.toNat) % 2 ^ b.toNat
theorem fold_split (h b : Nat) : (h ^^^ h / 2 ^ b) % 2 ^ b = (h % 2 ^ b) ^^^ (h / 2 ^ b % 2 ^ b) := Nat.xor_mod_two_pow
theorem pow32 (b : Nat) (h : b ≤ 32) : 2 ^ b ≤ 4294967296 := Nat.pow_le_pow_right (n := 2) (by decide) h
theorem nat_two_pos (b : Nat) : 0 < 2 ^ b := Nat.pow_pos (by decide)
theorem pow_cast (b : Nat) : (2 : Int) ^ b = ((2 ^ b : Nat) : Int) := by simp
theorem fold_walk (h : Nat) (b : Int) (h1 : 1 ≤ b) (h2 : b ≤ 32) (hh : h < 18446744073709551616) :
    bits .and .u64 (bits .xor .u64 (h : Int) ((h : Int) / 2 ^ b.toNat)) (IntKind.u64.wrap (IntKind.u64.wrap (2 ^ b.toNat) - 1)) = ((foldq h b : Nat) : Int) := by
  have p := nat_two_pos b.toNat
  have q := pow32 b.toNat (by omega)
  have d : h / 2 ^ b.toNat ≤ h := Nat.div_le_self _ _
  have e1 : (h : Int) / 2 ^ b.toNat = ((h / 2 ^ b.toNat : Nat) : Int) := by rw [pow_cast]; exact (Int.natCast_ediv _ _).symm
  have e2 : IntKind.u64.wrap (IntKind.u64.wrap (2 ^ b.toNat) - 1) = ((2 ^ b.toNat - 1 : Nat) : Int) := by
    rw [pow_cast, IntKind.wrap_u64, IntKind.wrap_u64]; omega
  have x : h ^^^ h / 2 ^ b.toNat < 2 ^ 64 := Nat.xor_lt_two_pow (by omega) (by omega)
  rw [e1, e2, u64_xor_nat _ _ hh (by omega), u64_and_nat _ _ x (by omega), Nat.and_two_pow_sub_one_eq_mod]
  unfold foldq
  rw [if_neg (by omega)]
theorem step_ref (h c : Nat) (hh : h < 18446744073709551616) (hc : c < 256) :
    IntKind.u64.wrap (IntKind.u64.wrap ((h : Int) - (h : Int) % 256 + ((h % 256 ^^^ c : Nat) : Int)) * 1099511628211) = ((step h c : Nat) : Int) := by
  have e := xor_low h c hc
  rw [IntKind.wrap_u64, IntKind.wrap_u64]
  unfold step
  rw [← e]
  omega
theorem step32_ref (h c : Nat) (hh : h < 4294967296) (hc : c < 256) :
    (IntKind.u64.wrap (IntKind.u64.wrap ((h : Int) - (h : Int) % 256 + ((h % 256 ^^^ c : Nat) : Int)) * 16777619)).tmod 4294967296 = ((step32 h c : Nat) : Int) := by
  have e := xor_low h c hc
  rw [IntKind.wrap_u64, IntKind.wrap_u64, Int.tmod_eq_emod_of_nonneg (by omega)]
  unfold step32
  rw [← e]
  omega
/-- The prime is odd: it loses no bits. -/
theorem step_inj (h c d : Nat) (hh : h < 18446744073709551616) (hc : c < 256) (hd : d < 256) (e : step h c = step h d) : c = d := by
  unfold step at e
  have x1 : h ^^^ c < 2 ^ 64 := Nat.xor_lt_two_pow (by omega) (by omega)
  have x2 : h ^^^ d < 2 ^ 64 := Nat.xor_lt_two_pow (by omega) (by omega)
  have e2 := mod_cancel (q := 14886173955864302971) e (by decide +kernel)
  have e3 : h ^^^ c = h ^^^ d := by
    rw [Nat.mod_eq_of_lt (by omega), Nat.mod_eq_of_lt (by omega)] at e2; exact e2
  have e4 : h ^^^ (h ^^^ c) = h ^^^ (h ^^^ d) := by rw [e3]
  rwa [← Nat.xor_assoc, ← Nat.xor_assoc, Nat.xor_self, Nat.zero_xor, Nat.zero_xor] at e4
end Go.Proofs.Ytkjmacdekfbfhaa
