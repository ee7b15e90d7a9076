/- The law WideScales: the walk over numbers with a sign. -/
import Derived.Test.YtlodmnohmlkjmaaW02S2
namespace Go.Proofs.Ytlodmnohmlkjmaa
open Go.RowKit
set_option linter.unusedSimpArgs false
set_option linter.unusedVariables false
theorem walk_WideScales (p q c h1 l1 : Int) (w : World) (hp : I64 p) (hq : I64 q) (hc : I64 c) (i1 : U64 h1) (j1 : U64 l1) :
    Calls Try.prog 5 #[.int .i64 p, .int .i64 q, .int .i64 c, .agg #[.int .u64 h1, .int .u64 l1]] w fun e w' => e = .returned (.bool true) ∧ Below w.heap.size w w' := by
  unfold U64 at *
  obtain ⟨h1, rfl⟩ := Int.eq_ofNat_of_zero_le i1.1
  obtain ⟨l1, rfl⟩ := Int.eq_ofNat_of_zero_le j1.1
  have e1 := hi_lo_of (N := two h1 l1) (h := h1) (l := l1) rfl (by omega)
  by_cases hx : smallQ (upq (p.toNat * q.toNat) c.toNat) = 9223372036854775807 ∨ p < 0 ∨ q < 0 ∨ c < 1
  · have := walk_WideScalesE p q c (two h1 l1) w hp hq hc (by unfold two; omega) hx
    rw [e1.1, e1.2] at this
    exact this
  · have := walk_WideScalesM p q c (two h1 l1) w hp hq hc (by unfold two; omega) (fun h => hx (.inr (.inl h))) (fun h => hx (.inr (.inr (.inl h)))) (fun h => hx (.inr (.inr (.inr h)))) (fun h => hx (.inl h))
    rw [e1.1, e1.2] at this
    exact this
end Go.Proofs.Ytlodmnohmlkjmaa
