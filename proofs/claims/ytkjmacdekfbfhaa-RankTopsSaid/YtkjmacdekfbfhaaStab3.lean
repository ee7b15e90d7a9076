/- The order of rank.Top; slices.insertionSortCmpFunc at samples under it. (fast region) -/
import Derived.Test.YtkjmacdekfbfhaaStab2
namespace Go.Proofs.Ytkjmacdekfbfhaa
open Go.RowKit
set_option linter.unusedSimpArgs false
set_option linter.unusedVariables false
set_option maxHeartbeats 4000000
set_option maxRecDepth 100000
/-- x may stand ahead of y. -/
def geb (x y : Smp) : Bool := decide (y.value ≤ x.value)
def cmpq (x y : Smp) : Int := if y.value < x.value then -1 else if x.value < y.value then 1 else 0
theorem cmpq_lt (x y : Smp) : decide (cmpq x y < 0) = !geb y x := by
  unfold cmpq geb
  rw [Bool.eq_iff_iff]
  simp only [decide_eq_true_eq, Bool.not_eq_true', decide_eq_false_iff_not]
  by_cases h : y.value < x.value
  · rw [if_pos h]; constructor <;> intro <;> omega
  · rw [if_neg h]
    by_cases h2 : x.value < y.value
    · rw [if_pos h2]; constructor <;> intro <;> omega
    · rw [if_neg h2]; constructor <;> intro <;> omega
theorem geb_tot (x y : Smp) : geb x y = true ∨ geb y x = true := by unfold geb; simp; omega
theorem geb_tr (x y z : Smp) (h1 : geb x y = true) (h2 : geb y z = true) : geb x z = true := by unfold geb at *; simp at *; omega
abbrev fTop : Value := .func (.func 86) #[] #[]
def CmpP (w : World) (x y : Smp) (e : Ending) (w' : World) : Prop := e = .returned (.int .i64 (cmpq x y)) ∧ Below w.heap.size w w'
theorem top_cmp (x y : Smp) (w : World) : Calls Try.prog 86 #[.agg x.row, .agg y.row] w (CmpP w x y) := by
  obtain ⟨a, b⟩ := x
  obtain ⟨c, d⟩ := y
  unfold Smp.row
  dsimp only
  by_cases h1 : d < b
  · have HQ := Lib.hid (show cmpq ⟨a, b⟩ ⟨c, d⟩ = -1 from if_pos h1)
    go_enter Try.func86, Try.ntmps86
    go_wp2
    go_ret
    exact ⟨ret_int HQ.out.symm, by go_grown⟩
  · have d1 : decide (d < b) = false := by simpa using h1
    by_cases h2 : b < d
    · have HQ := Lib.hid (show cmpq ⟨a, b⟩ ⟨c, d⟩ = 1 from (if_neg h1).trans (if_pos h2))
      go_enter Try.func86, Try.ntmps86
      go_wp2
      go_ret
      exact ⟨ret_int HQ.out.symm, by go_grown⟩
    · have HQ := Lib.hid (show cmpq ⟨a, b⟩ ⟨c, d⟩ = 0 from (if_neg h1).trans (if_neg h2))
      have d2 : decide (b < d) = false := by simpa using h2
      go_enter Try.func86, Try.ntmps86
      go_wp2
      go_ret
      exact ⟨ret_int HQ.out.symm, by go_grown⟩
end Go.Proofs.Ytkjmacdekfbfhaa
