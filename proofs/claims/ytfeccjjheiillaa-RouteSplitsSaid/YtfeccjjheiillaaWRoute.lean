/- The laws on package route: each walk, out of the contracts of the functions that it calls. -/
import Derived.Test.YtfeccjjheiillaaRoute
namespace Go.Proofs.Ytfeccjjheiillaa
open Go.RowKit
set_option linter.unusedSimpArgs false
set_option linter.unusedVariables false
set_option maxHeartbeats 400000

theorem i64_small {n : Int} (h : -100 ≤ n ∧ n ≤ 100) : I64 n := by unfold I64; omega
theorem ex_bits (w : World) : Calls Try.prog 42 #[.int .i64 8] w fun e w' => e = .returned (.int .i64 3) ∧ w = w' :=
  (route_Bits 8 w (i64_small (by omega))).mono fun _ _ h => h
theorem ex_right (w : World) : Calls Try.prog 43 #[.int .i64 6] w fun e w' => e = .returned (.bool false) ∧ w = w' :=
  (route_Right 6 w (i64_small (by omega))).mono fun _ _ h => h
theorem ex_of (w : World) : Calls Try.prog 44 #[.agg #[.int .u64 9, .int .u64 0], .int .i64 1] w fun e w' => e = .returned (.int .i64 0) ∧ Below w.heap.size w w' :=
  (route_Of 9 0 1 w (i64_small (by omega)) (by omega) (by omega)).mono fun _ _ h => by
    have := ofq_bd 9 0 1
    have e : ofq 9 0 1 = 0 := by have := this.2.2 (by decide); omega
    rw [e] at h; exact h
theorem awake05 (w : World) : Calls Try.prog 11 #[] w fun e w' => e = .returned (.bool true) ∧ Below w.heap.size w w' := by
  go_enter Try.func11, Try.ntmps11
  go_wp2_with (first | (go_at_call 42; refine (ex_bits _).mono ?_; rintro e w1 ⟨rfl, rfl⟩) | (go_at_call 43; refine (ex_right _).mono ?_; rintro e w1 ⟨rfl, rfl⟩) | (go_at_call 44; refine (ex_of _).mono ?_; rintro e w1 ⟨rfl, hb⟩))
  go_ret
  exact ⟨rfl, hb⟩
end Go.Proofs.Ytfeccjjheiillaa
