/- A slice of slices that came in; calls as data. -/
import Derived.Test.YtkjmacdekfbfhaaOpen
import Derived.Test.YtkjmacdekfbfhaaStoreC
import Derived.Test.YtkjmacdekfbfhaaKeep
namespace Go.Proofs.Ytkjmacdekfbfhaa
open Go.ChangeShapes Go.WideShapes Go.ChangeAt Go.RowKit
set_option linter.unusedSimpArgs false
set_option linter.unusedVariables false
structure PRow (α : Type) where
  A : Option Addr
  n : Nat
  c : Nat
  l : List α
def PRow.hdr {α : Type} (r : PRow α) : List Value := [.slice r.A r.n r.c]
/-- A slice of slices, read as a list of lists. -/
def RowsAre {α : Type} (w : World) (size : Nat) (cells : α → List Value) (A : Option Addr) (len cap : Nat) (rows : List (PRow α)) : Prop :=
  SliceIs w 1 PRow.hdr A len cap rows ∧ ∀ r ∈ rows, SliceIs w size cells r.A r.n r.c r.l
theorem RowsAre.keep {α : Type} {w w' : World} {size : Nat} {cells : α → List Value} {A : Option Addr} {len cap : Nat} {rows : List (PRow α)} (h : RowsAre w size cells A len cap rows) (hb : Below w.heap.size w w') : RowsAre w' size cells A len cap rows :=
  ⟨slice_keep h.1 hb, fun r hr => slice_keep (h.2 r hr) hb⟩
section
variable {H : Type} {enc : TypeId × Value → H} {P : Program} {w : World} {base : Nat} {spare : Nat → Bool} {held : Bool}
theorem open_flat_rows {α : Type} {t u e : TypeId} {n : Nat} {ks : List Kd} {A : Option Addr} {len cap : Nat} {d : DataW H} {p : List MemPlace} (cells : α → List Value) (good : α → Prop)
    (hpos : 0 < ks.length) (hdec : ∀ vs, AllOk ks vs → ∃ x : α, cells x = vs ∧ good x) (ht : P.underlying t = some (.slice u)) (hu : P.underlying u = some (.slice e)) (hcu : P.cellsOf u = 1) (hk : flatKinds P n e = some ks)
    (h : DataW.Trod enc P w base spare held t (.slice A len cap) d p) : ∃ rows : List (PRow α), RowsAre w ks.length cells A len cap rows ∧ ∀ r ∈ rows, ∀ x ∈ r.l, good x := by
  obtain ⟨fuel, hf⟩ := h
  rcases Deep.open_slice1 ht hcu hf with ⟨hcs, _⟩ | ⟨a, len', cap', m, n', V, D, Pl, hcs, _, hl, hm, hmm, _, hi⟩
  · simp [Value.cells] at hcs
    obtain ⟨rfl, rfl, rfl⟩ := hcs
    exact ⟨[], ⟨⟨rfl, Nat.le_refl _, Nat.zero_le _, fun _ => ⟨rfl, rfl⟩, fun a ha => by cases ha⟩, fun r hr => by simp at hr⟩, fun r hr => by simp at hr⟩
  · simp [Value.cells] at hcs
    obtain ⟨rfl, rfl, rfl⟩ := hcs
    have hlm : len ≤ m := by rw [hmm]; split <;> omega
    obtain ⟨l, hll, hp⟩ := map_choose (n := len) (p := fun i (r : PRow α) => (w.cell? (a.add i) = some (.slice r.A r.n r.c)) ∧ SliceIs w ks.length cells r.A r.n r.c r.l ∧ ∀ x ∈ r.l, good x) (fun i hin => by
      obtain ⟨hc, ht'⟩ := hi i (by omega)
      have hV : ∃ A2 n2 c2, V i = .slice A2 n2 c2 := by
        rcases Deep.open_slice hu ht' with ⟨h0, _⟩ | ⟨a2, n2, c2, _, _, _, _, h0, _⟩
        · injection h0 with h0; exact ⟨_, _, _, h0⟩
        · injection h0 with h0; exact ⟨_, _, _, h0⟩
      obtain ⟨A2, n2, c2, hV⟩ := hV
      rw [hV] at hc ht'
      obtain ⟨l2, s2, g2⟩ := open_flat_slice cells good hpos hdec hu hk (A := A2) (len := n2) (cap := c2) (d := D i) (p := Pl i) ⟨n', by simpa [Value.cells] using ht'⟩
      exact ⟨⟨A2, n2, c2, l2⟩, hc, s2, g2⟩)
    refine ⟨l, ⟨⟨hll, hl, hm, fun h => (by cases h), fun a' ha => ?_⟩, fun r hr => ?_⟩, fun r hr => ?_⟩
    · cases ha
      refine ⟨fun i x hx j v hv => ?_, fun h0 => ?_⟩
      · have := (hp i x hx).1
        unfold PRow.hdr at hv
        cases j with
        | zero => simp at hv; subst hv; simpa using this
        | succ j => simp at hv
      · obtain ⟨x, hx⟩ : ∃ x, l[0]? = some x := ⟨_, List.getElem?_eq_getElem (by omega)⟩
        have h1 := (hp 0 x hx).1
        have e : a.add 0 = a := by unfold Addr.add; split <;> simp_all
        rw [e] at h1
        exact ⟨cell_lt h1, World.cell?_spot h1⟩
    · obtain ⟨i, hi2⟩ := List.getElem?_of_mem hr
      exact (hp i r hi2).2.1
    · obtain ⟨i, hi2⟩ := List.getElem?_of_mem hr
      exact (hp i r hi2).2.2
end
structure CallQ where
  k : Int
  s : ByteArray
  t : Int
  v : Int
  h : Int
  p : Pol
def CallQ.cells (x : CallQ) : List Value := (callRow x.k x.s x.t x.v x.h x.p).toList
def CallQ.good (x : CallQ) : Prop := x.s.size ≤ maxLen
theorem callq_len : ∀ x : CallQ, x.cells.length = 11 := fun _ => rfl
theorem dec_call : ∀ vs : List Value, AllOk [.int .i64, .str, .int .i64, .int .i64, .int .i64, .int .i64, .int .i64, .int .i64, .int .i64, .int .i64, .int .i64] vs → ∃ x : CallQ, x.cells = vs ∧ x.good := by
  rintro _ ⟨_, _, rfl, ⟨k, rfl, -⟩, _, _, rfl, ⟨s, rfl, hs⟩, _, _, rfl, ⟨t, rfl, -⟩, _, _, rfl, ⟨v, rfl, -⟩, _, _, rfl, ⟨h, rfl, -⟩, _, _, rfl, ⟨p0, rfl, -⟩, _, _, rfl, ⟨p1, rfl, -⟩, _, _, rfl, ⟨p2, rfl, -⟩, _, _, rfl, ⟨p3, rfl, -⟩, _, _, rfl, ⟨p4, rfl, -⟩, _, _, rfl, ⟨p5, rfl, -⟩, h0⟩
  cases h0
  exact ⟨⟨k, s, t, v, h, ⟨p0, p1, p2, p3, p4, p5⟩⟩, rfl, hs⟩
end Go.Proofs.Ytkjmacdekfbfhaa
