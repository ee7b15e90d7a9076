/- 'append(out, l...)' of a whole slice, nil let in. -/
import Derived.Test.YtkjmacdekfbfhaaOwn
import Derived.Laws.AppendOwnNone
namespace Go.Proofs.Ytkjmacdekfbfhaa
open Go.RowKit
set_option linter.unusedSimpArgs false
set_option linter.unusedVariables false

theorem flatMap_cut {α : Type} {cells : α → List Value} {size : Nat} (hsz : ∀ x, (cells x).length = size) (l : List α) (j : Nat) (u : Value) (h : (l.flatMap cells)[j]? = some u) : ∃ i r x, j = i * size + r ∧ l[i]? = some x ∧ (cells x)[r]? = some u := by
  induction l generalizing j with
  | nil => simp at h
  | cons y l ih =>
    rw [List.flatMap_cons] at h
    rcases Nat.lt_or_ge j size with hj | hj
    · rw [List.getElem?_append_left (by rw [hsz]; exact hj)] at h
      exact ⟨0, j, y, by omega, rfl, h⟩
    · rw [List.getElem?_append_right (by rw [hsz]; exact hj), hsz] at h
      obtain ⟨i, r, x, h1, h2, h3⟩ := ih _ h
      exact ⟨i + 1, r, x, by rw [Nat.add_mul]; omega, h2, h3⟩
theorem SliceIs.cells {α : Type} {w : World} {size : Nat} {cells : α → List Value} {a : Addr} {len cap : Nat} {l : List α} (h : SliceIs w size cells (some a) len cap l) (hsz : ∀ x, (cells x).length = size) : ∀ j u, (l.flatMap cells)[j]? = some u → w.cell? (a.add j) = some u := by
  intro j u hj
  obtain ⟨i, r, x, rfl, hi, hr⟩ := flatMap_cut hsz l j u hj
  exact (h.2.2.2.2 a rfl).1 i x hi r u hr
/-- 'append(out, l...)'. -/
theorem wpList_cat {α : Type} {P : Program} (w : World) {ops : Array Oper} {rest : List Oper} {o : Oper} {a : Act} {Q : Exit → Act → World → Prop} (hgd : o.guard = none) (s x : Operand) (t : TypeId)
    (ho : o.op = .call { callee := .builtin .append, args := #[s, x], argTypes := #[t, t] })
    (base : Nat) (e : TypeId) (z : Value) (size bytes : Nat) (cells : α → List Value) (ht : P.underlying t = some (.slice e)) (hi : (P.info? e).map (fun i => (i.zero, i.size, i.bytes)) = some (some z, size, bytes))
    (hzs : z.cells.size = size) (hsz : 0 < size) (hcs : ∀ x, (cells x).length = size) (hone : ∀ x, ∀ u ∈ cells x, u.oneCell' = true)
    (v : Value) (l : List α) (hs : a.eval s = v) (hown : Own w base e size cells v l)
    (A : Option Addr) (m c : Nat) (ys : List α) (hx : a.eval x = .slice A m c) (hys : SliceIs w size cells A m c ys)
    (hlen : l.length + m < 1000000) (hby : bytes ≤ 100000) (hbase : base ≤ w.heap.size)
    (h : ∀ v' w', Own w' base e size cells v' (l ++ ys) → Below base w w' → w.grownBy w' v.ownBlock → wpList P ops Q rest (a.put o.dst v') w') : wpList P ops Q (o :: rest) a w := by
  obtain ⟨i, h1, h2, h3, h4⟩ := info_parts hi
  cases A with
  | none =>
    obtain ⟨rfl, rfl⟩ := hys.2.2.2.1 rfl
    have hn : ys = [] := List.eq_nil_of_length_eq_zero hys.1
    subst hn
    refine wpList_append_own_none hgd s x t ho base e i size ht h1 v l.length (l.flatMap cells) hs hown hx ?_
    exact h v w (by rw [List.append_nil]; exact hown) (Below.refl _ _) (World.grownBy.refl w _)
  | some ad =>
    have hyl := hys.1
    refine wpList_append_own w hgd s x t ho base e i z size bytes ht h1 h2 h3 h4 hzs hsz v l.length (l.flatMap cells) hs hown ad m c (ys.flatMap cells) hx (by rw [flatMap_len hcs, hyl]) (hys.cells hcs)
      (fun u hu => by obtain ⟨y, _, hy⟩ := List.mem_flatMap.1 hu; exact hone y u hy) (by unfold maxLen; omega) (by have := Nat.mul_le_mul (show l.length + m ≤ 1000000 by omega) hby; omega) hbase ?_
    intro v' w' ho' hgrow _
    refine h v' w' ?_ ((Below.refl base w).grown hgrow hbase fun k hk => (World.ownsRow.lt hown k hk).1) hgrow
    show w'.ownsRow base e size v' (l ++ ys).length ((l ++ ys).flatMap cells)
    rw [List.length_append, List.flatMap_append, hyl]
    exact ho'
end Go.Proofs.Ytkjmacdekfbfhaa
