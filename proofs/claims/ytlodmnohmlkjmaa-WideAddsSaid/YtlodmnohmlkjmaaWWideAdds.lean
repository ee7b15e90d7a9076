/- The law WideAdds: the walk over numbers with a sign. -/
import Derived.Test.YtlodmnohmlkjmaaW02
namespace Go.Proofs.Ytlodmnohmlkjmaa
open Go.RowKit
set_option linter.unusedSimpArgs false
set_option linter.unusedVariables false
theorem walk_WideAdds (a b h1 l1 h2 l2 : Int) (w : World) (ha : U64 a) (hb : U64 b) (i1 : U64 h1) (j1 : U64 l1) (i2 : U64 h2) (j2 : U64 l2) :
    Calls Try.prog 9 #[.int .u64 a, .int .u64 b, .agg #[.int .u64 h1, .int .u64 l1], .agg #[.int .u64 h2, .int .u64 l2]] w fun e w' => e = .returned (.bool true) ∧ Below w.heap.size w w' := by
  unfold U64 at *
  obtain ⟨a, rfl⟩ := Int.eq_ofNat_of_zero_le ha.1
  obtain ⟨b, rfl⟩ := Int.eq_ofNat_of_zero_le hb.1
  obtain ⟨h1, rfl⟩ := Int.eq_ofNat_of_zero_le i1.1
  obtain ⟨l1, rfl⟩ := Int.eq_ofNat_of_zero_le j1.1
  obtain ⟨h2, rfl⟩ := Int.eq_ofNat_of_zero_le i2.1
  obtain ⟨l2, rfl⟩ := Int.eq_ofNat_of_zero_le j2.1
  have e1 := hi_lo_of (N := two h1 l1) (h := h1) (l := l1) rfl (by omega)
  have e2 := hi_lo_of (N := two h2 l2) (h := h2) (l := l2) rfl (by omega)
  have := walk_WideAddsN a b (two h1 l1) (two h2 l2) w (by omega) (by omega) (by unfold two; omega) (by unfold two; omega)
  rw [e1.1, e1.2, e2.1, e2.2] at this
  exact this
end Go.Proofs.Ytlodmnohmlkjmaa
