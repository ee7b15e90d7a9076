/- Policies: which may be, and that both texts say so. -/
import Derived.Test.YtkjmacdekfbfhaaSat
import Derived.Test.YtkjmacdekfbfhaaBlk
import Derived.BigQuiet
import Derived.Deep.QuietTactic
import Derived.Deep.Light
namespace Go.Proofs.Ytkjmacdekfbfhaa
open Go.RowKit
set_option linter.unusedSimpArgs false
set_option linter.unusedVariables false
set_option maxHeartbeats 400000

structure Pol where
  min : Int
  max : Int
  target : Int
  tol : Int
  window : Int
  hold : Int
/-- Each number lies in its kind. -/
def Pol.fit (p : Pol) : Prop := I64 p.min ∧ I64 p.max ∧ I64 p.target ∧ I64 p.tol ∧ I64 p.window ∧ I64 p.hold
def Pol.okP (p : Pol) : Prop := 0 ≤ p.min ∧ 1 ≤ p.max ∧ p.min ≤ p.max ∧ p.max ≤ 1073741824 ∧ 1 ≤ p.target ∧ 0 ≤ p.tol ∧ p.tol ≤ 999 ∧ 1 ≤ p.window ∧ 0 ≤ p.hold
instance (p : Pol) : Decidable p.okP := by unfold Pol.okP; infer_instance
def polOk (p : Pol) : Bool := decide p.okP
def polErr (p : Pol) : Int := if p.okP then 0 else 7
theorem polOk_true {p : Pol} (h : p.okP) : polOk p = true := decide_eq_true h
theorem polOk_false {p : Pol} (h : ¬ p.okP) : polOk p = false := decide_eq_false h
theorem polErr_ok {p : Pol} (h : p.okP) : polErr p = 0 := if_pos h
theorem polErr_no {p : Pol} (h : ¬ p.okP) : polErr p = 7 := if_neg h
theorem policy_Check (p : Pol) (w : World) :
    Calls Try.prog 100 #[(.agg #[.int .i64 p.min, .int .i64 p.max, .int .i64 p.target, .int .i64 p.tol, .int .i64 p.window, .int .i64 p.hold])] w fun e w' => e = .returned (.int .i64 (polErr p)) ∧ Below w.heap.size w w' := by
  go_enter Try.func100, Try.ntmps100
  go_wp2
  all_goals
    go_ret
    refine ⟨ret_int ?_, by go_grown⟩
    go_light
    first
      | (show (7 : Int) = _; rw [polErr_no (by unfold Pol.okP; omega)])
      | (show (0 : Int) = _; rw [polErr_ok (by unfold Pol.okP; omega)])
theorem ref_Right (p : Pol) (w : World) :
    Calls Try.prog 105 #[(.agg #[.int .i64 p.min, .int .i64 p.max, .int .i64 p.target, .int .i64 p.tol, .int .i64 p.window, .int .i64 p.hold])] w fun e w' => e = .returned (.bool (polOk p)) ∧ Below w.heap.size w w' := by
  go_enter Try.func105, Try.ntmps105
  go_wp2
  all_goals
    go_ret
    refine ⟨ret_bool ?_, by go_grown⟩
    go_light
    first
      | (show false = _; rw [polOk_false (by unfold Pol.okP; omega)])
      | (show true = _; rw [polOk_true (by unfold Pol.okP; omega)])
      | (by_cases hh : p.okP
         · rw [polOk_true hh]
           unfold Pol.okP at hh
           simp
           omega
         · rw [polOk_false hh]
           unfold Pol.okP at hh
           simp
           omega)
end Go.Proofs.Ytkjmacdekfbfhaa
