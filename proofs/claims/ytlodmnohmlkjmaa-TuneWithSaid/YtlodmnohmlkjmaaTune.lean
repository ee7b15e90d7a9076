/- Package tune and its reference: With and Ladder; flywheelref06.Same. -/
import Derived.Test.YtlodmnohmlkjmaaOwn
import Derived.Test.YtlodmnohmlkjmaaSat
import Derived.Test.YtlodmnohmlkjmaaPolicy
namespace Go.Proofs.Ytlodmnohmlkjmaa
open Go.RowKit
set_option linter.unusedSimpArgs false
set_option linter.unusedVariables false
set_option maxHeartbeats 2000000

def withq (p : Pol) (f v : Int) : Pol := if f = 1 then { p with min := v } else if f = 2 then { p with max := v } else if f = 3 then { p with target := v } else if f = 4 then { p with tol := v } else if f = 5 then { p with window := v } else if f = 6 then { p with hold := v } else p
theorem tune_With (p : Pol) (f v : Int) (w : World) :
    Calls Try.prog 36 #[(.agg #[.int .i64 p.min, .int .i64 p.max, .int .i64 p.target, .int .i64 p.tol, .int .i64 p.window, .int .i64 p.hold]), .int .i64 f, .int .i64 v] w fun e w' => e = .returned (.agg #[.int .i64 (withq p f v).min, .int .i64 (withq p f v).max, .int .i64 (withq p f v).target, .int .i64 (withq p f v).tol, .int .i64 (withq p f v).window, .int .i64 (withq p f v).hold]) ∧ Below w.heap.size w w' := by
  by_cases h1 : f < 1
  · have hq : withq p f v = p := by unfold withq; repeat rw [if_neg (by omega)]
    rw [hq]
    go_enter Try.func36, Try.ntmps36
    go_wp2
    go_returns
    exact ⟨rfl, by go_grown⟩
  by_cases h2 : 6 < f
  · have hq : withq p f v = p := by unfold withq; repeat rw [if_neg (by omega)]
    rw [hq]
    go_enter Try.func36, Try.ntmps36
    go_wp2
    go_returns
    exact ⟨rfl, by go_grown⟩
  · rcases (show f = 1 ∨ f = 2 ∨ f = 3 ∨ f = 4 ∨ f = 5 ∨ f = 6 by omega) with rfl | rfl | rfl | rfl | rfl | rfl
    all_goals
      clear h1 h2
      go_enter Try.func36, Try.ntmps36
      go_wp2
      go_returns
      exact ⟨rfl, by go_grown⟩
theorem ref_With (p : Pol) (f v : Int) (w : World) :
    Calls Try.prog 37 #[(.agg #[.int .i64 p.min, .int .i64 p.max, .int .i64 p.target, .int .i64 p.tol, .int .i64 p.window, .int .i64 p.hold]), .int .i64 f, .int .i64 v] w fun e w' => e = .returned (.agg #[.int .i64 (withq p f v).min, .int .i64 (withq p f v).max, .int .i64 (withq p f v).target, .int .i64 (withq p f v).tol, .int .i64 (withq p f v).window, .int .i64 (withq p f v).hold]) ∧ Below w.heap.size w w' := by
  by_cases h1 : f < 1 ∨ 6 < f
  · have hq : withq p f v = p := by unfold withq; repeat rw [if_neg (by omega)]
    rw [hq]
    have d1 : (f == 1) = false := by simp; omega
    have d2 : (f == 2) = false := by simp; omega
    have d3 : (f == 3) = false := by simp; omega
    have d4 : (f == 4) = false := by simp; omega
    have d5 : (f == 5) = false := by simp; omega
    have d6 : (f == 6) = false := by simp; omega
    clear h1 hq
    go_enter Try.func37, Try.ntmps37
    go_wp2
    go_returns
    exact ⟨rfl, by go_grown⟩
  · rcases (show f = 1 ∨ f = 2 ∨ f = 3 ∨ f = 4 ∨ f = 5 ∨ f = 6 by omega) with rfl | rfl | rfl | rfl | rfl | rfl
    all_goals
      clear h1
      go_enter Try.func37, Try.ntmps37
      go_wp2
      go_returns
      exact ⟨rfl, by go_grown⟩
end Go.Proofs.Ytlodmnohmlkjmaa
