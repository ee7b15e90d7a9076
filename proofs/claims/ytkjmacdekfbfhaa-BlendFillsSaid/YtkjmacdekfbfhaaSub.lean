/- Slices of slices. -/
import Derived.Test.YtkjmacdekfbfhaaKeep
namespace Go.Proofs.Ytkjmacdekfbfhaa
open Go.RowKit
set_option linter.unusedSimpArgs false
set_option linter.unusedVariables false
theorem slice_take {α : Type} {w : World} {size : Nat} {cells : α → List Value} {A : Option Addr} {len cap : Nat} {l : List α} (h : SliceIs w size cells A len cap l) {k : Nat} (hk : k ≤ len) : SliceIs w size cells A k cap (l.take k) := by
  obtain ⟨h1, h2, h3, h4, h5⟩ := h
  refine ⟨by rw [List.length_take]; omega, by omega, h3, (fun ha => by have := h4 ha; omega), fun a ha => ?_⟩
  obtain ⟨k1, k2⟩ := h5 a ha
  refine ⟨fun i x hi j v hj => ?_, fun hl => k2 (by omega)⟩
  rw [List.getElem?_take] at hi
  split at hi
  · exact k1 i x hi j v hj
  · cases hi
theorem slice_drop {α : Type} {w : World} {size : Nat} {cells : α → List Value} {b off len cap : Nat} {l : List α} (h : SliceIs w size cells (some ⟨b, off, none⟩) len cap l) {k : Nat} (hk : k ≤ len) : SliceIs w size cells (some ⟨b, off + k * size, none⟩) (len - k) (cap - k) (l.drop k) := by
  obtain ⟨h1, h2, h3, h4, h5⟩ := h
  refine ⟨by rw [List.length_drop]; omega, by omega, by unfold maxLen at *; omega, (fun h => by cases h), fun a ha => ?_⟩
  obtain ⟨k1, k2⟩ := h5 _ rfl
  cases ha
  refine ⟨fun i x hi j v hj => ?_, fun hl => ⟨(k2 (by omega)).1, rfl⟩⟩
  rw [List.getElem?_drop] at hi
  have := k1 (k + i) x hi j v hj
  rw [Addr.add_lit] at this ⊢
  rw [show off + k * size + (i * size + j) = off + ((k + i) * size + j) by rw [Nat.add_mul]; omega]
  exact this
end Go.Proofs.Ytkjmacdekfbfhaa
