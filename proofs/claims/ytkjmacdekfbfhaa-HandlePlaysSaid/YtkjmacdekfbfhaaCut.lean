/- A cut of no stripes. -/
import Derived.Test.YtkjmacdekfbfhaaKeep
namespace Go.Proofs.Ytkjmacdekfbfhaa
open Go.RowKit
set_option linter.unusedSimpArgs false
set_option linter.unusedVariables false
set_option maxHeartbeats 4000000
set_option maxRecDepth 100000
theorem ent_insert (fv : Value) (w : World) : Calls Try.prog 175 #[.slice none 0 0, .int .i64 0, .int .i64 0, fv] w fun e w' => e = .returned (.tuple #[]) ∧ w = w' := by
  go_enter Try.func175, Try.ntmps175
  go_wp2
  refine wp_loop_rounds 1 ?_
  rw [rounds_succ]
  go_wp2
  go_returns
  exact ⟨rfl, rfl⟩
theorem ent_stable (fv : Value) (w : World) : Calls Try.prog 159 #[.slice none 0 0, .int .i64 0, fv] w fun e w' => e = .returned (.tuple #[]) ∧ w = w' := by
  go_enter Try.func159, Try.ntmps159
  go_wp2
  refine wp_loop_rounds 1 ?_
  rw [rounds_succ]
  go_wp2_with (go_at_call 175; refine (ent_insert _ _).mono ?_; rintro e w1 ⟨rfl, rfl⟩)
  refine wp_loop_rounds 1 ?_
  rw [rounds_succ]
  go_wp2
  go_returns
  exact ⟨rfl, rfl⟩
theorem ent_SortStable (fv : Value) (w : World) : Calls Try.prog 128 #[.slice none 0 0, fv] w fun e w' => e = .returned (.tuple #[]) ∧ w = w' := by
  go_enter Try.func128, Try.ntmps128
  go_wp2_with (go_at_call 159; refine (ent_stable _ _).mono ?_; rintro e w1 ⟨rfl, rfl⟩)
  go_returns
  exact ⟨rfl, rfl⟩
theorem ent_Clone (w : World) : Calls Try.prog 127 #[.slice none 0 0] w fun e w' => e = .returned (.slice none 0 0) ∧ w = w' := by
  have q := fun (W : World) => Lib.run_eql_slice_nil (P := Try.prog) W 126 131 none 0 0 0 0 Try.underlying126
  go_enter Try.func127, Try.ntmps127
  go_wp2
  go_ret
  exact ⟨rfl, rfl⟩
theorem stripe_Sort (w : World) : Calls Try.prog 88 #[.slice none 0 0] w fun e w' => e = .returned (.slice none 0 0) ∧ w = w' := by
  go_enter Try.func88, Try.ntmps88
  go_wp2_with (first
    | (go_at_call 127; refine (ent_Clone _).mono ?_; rintro e w1 ⟨rfl, rfl⟩)
    | (go_at_call 128; refine (ent_SortStable _ _).mono ?_; rintro e w1 ⟨rfl, rfl⟩))
  go_ret
  exact ⟨rfl, rfl⟩
/-- A cut without entries. -/
abbrev cutRow (e : Int) : Array Value := #[.int .i64 e, .slice none 0 0]
def NewCut (w : World) (ep : Int) (e : Ending) (w' : World) : Prop := ∃ g, e = .returned (.pointer (some ⟨g, 0, none⟩)) ∧ w.heap.size ≤ g ∧ Blk w' g 128 (cutRow ep) ∧ Below w.heap.size w w'
theorem cut_New (ep : Int) (w : World) : Calls Try.prog 44 #[.int .i64 ep, .slice none 0 0] w (NewCut w ep) := by
  have HB := Lib.hid (Blk.new w 128 (cutRow ep))
  go_enter Try.func44, Try.ntmps44
  go_wp2
  refine wp_loop_rounds 1 ?_
  rw [rounds_succ]
  go_wp2_with (go_at_call 88; refine (stripe_Sort _).mono ?_; rintro e w1 ⟨rfl, rfl⟩)
  go_ret
  exact ⟨_, rfl, Nat.le_refl _, HB.out, by go_grown⟩
theorem cut_Epoch (g : Nat) (ep : Int) (w : World) (h : Blk w g 128 (cutRow ep)) : Calls Try.prog 92 #[.pointer (some ⟨g, 0, none⟩)] w fun e w' => e = .returned (.int .i64 ep) ∧ w = w' := by
  have c0 := h.cellv (i := 0) (v := .int .i64 ep) rfl
  clear h
  go_enter Try.func92, Try.ntmps92
  go_wp2
  go_ret
  exact ⟨rfl, rfl⟩
end Go.Proofs.Ytkjmacdekfbfhaa
