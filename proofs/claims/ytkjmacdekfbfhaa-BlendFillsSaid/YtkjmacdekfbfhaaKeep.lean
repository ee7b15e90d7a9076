/- Slices kept over calls; literal slices; what a call's own slice keeps. -/
import Derived.Test.YtkjmacdekfbfhaaCat
namespace Go.Proofs.Ytkjmacdekfbfhaa
open Go.RowKit
set_option linter.unusedSimpArgs false
set_option linter.unusedVariables false
theorem slice_keep {α : Type} {w w' : World} {size : Nat} {cells : α → List Value} {A : Option Addr} {len cap : Nat} {l : List α} (h : SliceIs w size cells A len cap l) (hb : Below w.heap.size w w') : SliceIs w' size cells A len cap l := by
  refine ⟨h.1, h.2.1, h.2.2.1, h.2.2.2.1, fun a ha => ?_⟩
  obtain ⟨h1, h2⟩ := h.2.2.2.2 a ha
  refine ⟨fun i x hi j v hj => ?_, fun hl => ⟨Nat.lt_of_lt_of_le (h2 hl).1 hb.size, (h2 hl).2⟩⟩
  have hlt : a.block < w.heap.size := by
    refine (h2 ?_).1
    have := (List.getElem?_eq_some_iff.1 hi).1
    rw [← h.1]; omega
  have hbl : (a.add (i * size + j)).block = a.block := by unfold Addr.add; split <;> rfl
  have := h1 i x hi j v hj
  exact (World.cell?_of_block (w := w) (hb.block _ (by rw [hbl]; exact hlt))).trans this
theorem slice_blk {α : Type} {w : World} {g : Nat} {t : TypeId} {cs : Array Value} {size : Nat} {cells : α → List Value} {l : List α} (hsz : ∀ x, (cells x).length = size) (h : Blk w g t cs) (hc : cs = (l.flatMap cells).toArray) (hm : l.length ≤ maxLen) :
    SliceIs w size cells (some ⟨g, 0, none⟩) l.length l.length l := by
  refine ⟨rfl, Nat.le_refl _, hm, (fun h => by cases h), fun a ha => ?_⟩
  cases ha
  refine ⟨fun i x hi j v hj => ?_, fun _ => ⟨h.lt, rfl⟩⟩
  have hj' : j < size := by
    have := (List.getElem?_eq_some_iff.1 hj).1
    rwa [hsz] at this
  have h1 := flatMap_at hsz l i j x hi hj'
  have e : (⟨g, 0, none⟩ : Addr).add (i * size + j) = ⟨g, i * size + j, none⟩ := by
    unfold Addr.add; split <;> simp_all
  rw [e]
  exact h.cellv (by rw [hc]; simpa using h1.trans hj)
theorem slice_nil {α : Type} (w : World) (size : Nat) (cells : α → List Value) : SliceIs w size cells none 0 0 ([] : List α) :=
  ⟨rfl, Nat.le_refl _, Nat.zero_le _, fun _ => ⟨rfl, rfl⟩, fun a ha => by cases ha⟩
theorem Blk.new2 (w : World) (o : Obj) (t : TypeId) (cs : Array Value) : Blk ((w.alloc o).alloc (.cells cs t)) (w.heap.size + 1) t cs := by
  have h := Blk.new (w.alloc o) t cs
  simpa using h
theorem blk_news {α : Type} {w : World} {g : Nat} {t : TypeId} {cs : Array Value} {vs : List Value} (h : Blk w g t cs) (hc : cs = vs.toArray) : ∀ j u, vs[j]? = some u → w.cell? ((⟨g, 0, none⟩ : Addr).add j) = some u := by
  intro j u hj
  have e : (⟨g, 0, none⟩ : Addr).add j = ⟨g, j, none⟩ := by
    unfold Addr.add; split <;> simp_all
  rw [e]
  exact h.cellv (by rw [hc]; simpa using hj)
/-- 'append(out, x)' of one sample that lies in a block of its own. -/
theorem Own.shape {α : Type} {w : World} {base e size : Nat} {cells : α → List Value} {v : Value} {l : List α} (h : Own w base e size cells v l) (hsz : ∀ x, (cells x).length = size) : ∃ A n cap, v = .slice A n cap ∧ n = l.length ∧ SliceIs w size cells A n cap l := by
  obtain ⟨A, c, h1, h2⟩ := h.slice hsz
  exact ⟨A, _, c, h1, rfl, h2⟩
theorem Own.far {α : Type} {w : World} {base e size : Nat} {cells : α → List Value} {v : Value} {l : List α} (h : Own w base e size cells v l) {p : Addr} (hp : ∀ k, v.ownBlock = some k → k ≠ p.block) (u : Value) : Own (w.setCell p u) base e size cells v l := by
  refine ⟨h.1, ?_⟩
  rcases h.2 with hn | ⟨g, cap, cur, rfl, hbg, hg, rest⟩
  · exact .inl hn
  · exact .inr ⟨g, cap, cur, rfl, hbg, (Below.heap_setCell w p u g (hp g rfl)).trans hg, rest⟩
theorem Own.grown {α : Type} {w w' : World} {base e size : Nat} {cells : α → List Value} {v : Value} {l : List α} (h : Own w base e size cells v l) {g : Nat} (hg : w.grownBy w' (some g)) (hne : ∀ k, v.ownBlock = some k → k ≠ g) : Own w' base e size cells v l := by
  refine ⟨h.1, ?_⟩
  have hlt := World.ownsRow.lt h
  rcases h.2 with hn | ⟨b, cap, cur, rfl, hbg, hb, rest⟩
  · exact .inl hn
  · exact .inr ⟨b, cap, cur, rfl, hbg, (hg.block b (hlt b rfl).2 (fun e => hne b rfl (Option.some.inj e))).trans hb, rest⟩
end Go.Proofs.Ytkjmacdekfbfhaa
