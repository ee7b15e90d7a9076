/- The law WideDivides: the walk over numbers with a sign. -/
import Derived.Test.YtlodmnohmlkjmaaW02D
namespace Go.Proofs.Ytlodmnohmlkjmaa
open Go.RowKit
set_option linter.unusedSimpArgs false
set_option linter.unusedVariables false
set_option maxHeartbeats 1000000
theorem wide_Div0 (h l : Int) (w : World) :
    Calls Try.prog 19 #[.agg #[.int .u64 h, .int .u64 l], .int .u64 0] w fun e w' =>
      e = .returned (.tuple #[.agg #[.int .u64 0, .int .u64 0], .int .u64 0, .bool false]) ∧ Below w.heap.size w w' := by
  go_enter Try.func19, Try.ntmps19
  go_wp2
  refine bodyPost_ret (results_row_tmp2 rfl _ _ (w.heap.size + 1) 32 #[.int .u64 0, .int .u64 0] _ rfl (Blk.new_ w _ _ _) Try.underlying32 rfl (by kernel_rfl)) rfl ⟨rfl, by go_grown⟩
theorem walk_WideDivides (h1 l1 d : Int) (w : World) (i1 : U64 h1) (j1 : U64 l1) (id : U64 d) :
    Calls Try.prog 4 #[.agg #[.int .u64 h1, .int .u64 l1], .int .u64 d] w fun e w' => e = .returned (.bool true) ∧ Below w.heap.size w w' := by
  by_cases h0 : d = 0
  · subst h0
    go_enter Try.func4, Try.ntmps4
    go_wp2_with (first | (go_at_call 18; refine (awake02 _).mono ?_; rintro e v1 ⟨rfl, hb1⟩; obtain ⟨hc1, hf1⟩ := bcell hb1; have hs1 := hb1.size; simp only [World.size_alloc] at hs1) | (go_at_call 19; refine (wide_Div0 _ _ _).mono ?_; rintro e v2 ⟨rfl, hb2⟩))
    go_ret
    refine ⟨rfl, ?_⟩
    have e0 : Below w.heap.size w (w.alloc (.cells #[.int .u64 h1, .int .u64 l1] 32)) := by go_grown
    have e1 := e0.trans (hb1.mono e0.size)
    have e2 := e1.trans (hb2.mono e1.size)
    exact e2.alloc e2.size _
  unfold U64 at *
  obtain ⟨h1, rfl⟩ := Int.eq_ofNat_of_zero_le i1.1
  obtain ⟨l1, rfl⟩ := Int.eq_ofNat_of_zero_le j1.1
  obtain ⟨d, rfl⟩ := Int.eq_ofNat_of_zero_le id.1
  have e1 := hi_lo_of (N := two h1 l1) (h := h1) (l := l1) rfl (by omega)
  have := walk_WideDividesN (two h1 l1) d w (by unfold two; omega) (by omega) (by omega)
  rw [e1.1, e1.2] at this
  exact this
end Go.Proofs.Ytlodmnohmlkjmaa
