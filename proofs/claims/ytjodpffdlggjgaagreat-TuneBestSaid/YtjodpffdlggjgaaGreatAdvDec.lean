/- A slice of api.Advice that comes in. -/
import Derived.Test.YtjodpffdlggjgaaGreatTrial
namespace Go.Proofs.YtjodpffdlggjgaaGreat
open Go.RowKit
theorem dec_adv : ∀ vs : List Value, AllOk [.int .i64, .int .i64, .int .i64, .int .i64, .int .i64] vs → ∃ x : Adv, x.cells = vs ∧ x.good := by
  rintro _ ⟨_, _, rfl, ⟨a, rfl, wa⟩, _, _, rfl, ⟨b, rfl, wb⟩, _, _, rfl, ⟨c, rfl, wc⟩, _, _, rfl, ⟨d, rfl, wd⟩, _, _, rfl, ⟨e, rfl, we⟩, h⟩
  cases h
  exact ⟨⟨a, b, c, d, e⟩, rfl, I64_of_wf wa, I64_of_wf wb, I64_of_wf wc, I64_of_wf wd, I64_of_wf we⟩
end Go.Proofs.YtjodpffdlggjgaaGreat
