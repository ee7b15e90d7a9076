/- What a load wants: plain facts. -/
import Derived.Test.YtlodmnohmlkjmaaControl2
namespace Go.Proofs.Ytlodmnohmlkjmaa
open Go.RowKit
set_option linter.unusedSimpArgs false
set_option linter.unusedVariables false

theorem ceil_eq (n T c : Int) (hT : 1 ≤ T) (h1 : (c - 1) * T < n) (h2 : n ≤ c * T) : ceilq n T = c := by
  unfold ceilq
  rw [if_neg (by omega)]
  have e : (c - 1) * T = c * T - T := by rw [Int.sub_mul, Int.one_mul]
  have := (fl_uniq (a := -n) (b := T) (q := -c) (r := c * T - n) (by omega) (by rw [Int.mul_neg, Int.mul_comm T c]; omega) (by omega) (by omega)).1
  omega
theorem ceil_mono (a b T : Int) (h : a ≤ b) : ceilq a T ≤ ceilq b T := by
  unfold ceilq
  split
  · exact Int.le_refl _
  · have := Int.ediv_le_ediv (c := T) (by omega) (show -b ≤ -a by omega)
    omega
theorem want_of {p : Pol} {n c : Int} (hk : p.okP) (h0 : 0 ≤ n) (h1 : (c - 1) * p.target < n) (h2 : n ≤ c * p.target) : wantq p n = c := by
  unfold wantq
  rw [if_pos hk, show loadq n = n by unfold loadq; omega]
  exact ceil_eq n p.target c hk.2.2.2.2.1 h1 h2
theorem want_mono (p : Pol) (a b : Int) (h : a ≤ b) : wantq p a ≤ wantq p b := by
  unfold wantq
  split
  · exact ceil_mono _ _ _ (by unfold loadq; omega)
  · exact Int.le_refl _
theorem near_middle (p : Pol) (now : Int) (hk : p.okP) (h1 : 1 ≤ now) (h2 : now ≤ 1073741824) : nearq p (now * p.target) now = true := by
  unfold nearq
  rw [if_pos ⟨hk, h1, h2⟩]
  have hT := hk.2.2.2.2.1
  have hm := Int.mul_nonneg (show 0 ≤ now by omega) (show 0 ≤ p.target by omega)
  have e : hasq (now * p.target) = shouldq p now := by
    unfold hasq shouldq
    rw [show loadq (now * p.target) = now * p.target by unfold loadq; omega, Int.toNat_mul (by omega) (by omega), Int.toNat_mul (by omega) (by omega)]
    rw [Nat.mul_assoc, Nat.mul_assoc, Nat.mul_comm p.target.toNat]
    rfl
  rw [e]
  simp
def Pol.noTol (p : Pol) : Pol := { p with tol := 0 }
set_option maxRecDepth 100000 in
theorem near_exact (p : Pol) (load now : Int) (hk : p.okP) (h1 : 1 ≤ now) (h2 : now ≤ 1073741824) (hl : 0 ≤ load) : nearq p.noTol load now = (load == now * p.target) := by
  have hk2 : p.noTol.okP := by obtain ⟨a, b, c, d, e, f, g, h, i⟩ := hk; exact ⟨a, b, c, d, e, by simp [Pol.noTol], by simp [Pol.noTol], h, i⟩
  unfold nearq
  rw [if_pos ⟨hk2, h1, h2⟩]
  have hT := hk.2.2.2.2.1
  have hm := Int.mul_nonneg (show 0 ≤ now by omega) (show 0 ≤ p.target by omega)
  have e0 : slackq p.noTol now = 0 := by unfold slackq; simp [Pol.noTol]
  have e1 : hasq load = load.toNat * 1000 := by unfold hasq; rw [show loadq load = load by unfold loadq; omega]
  have e2 : shouldq p.noTol now = (now * p.target).toNat * 1000 := by
    unfold shouldq
    show (now * 1000).toNat * p.target.toNat = _
    rw [Int.toNat_mul (by omega) (by omega), Int.toNat_mul (by omega) (by omega), Nat.mul_assoc, Nat.mul_assoc, Nat.mul_comm p.target.toNat]
    rfl
  rw [e0, e1, e2]
  generalize now * p.target = m at *
  rw [Bool.eq_iff_iff]
  simp
  omega
end Go.Proofs.Ytlodmnohmlkjmaa
