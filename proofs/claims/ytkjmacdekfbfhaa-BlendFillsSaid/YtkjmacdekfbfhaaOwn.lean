/- Slices that a call builds by append: what they hold, as a list. -/
import Derived.Test.YtkjmacdekfbfhaaOpen
import Derived.Test.YtkjmacdekfbfhaaBlk
import Derived.Laws.AppendOwn
import Derived.OwnWalk
namespace Go.Proofs.Ytkjmacdekfbfhaa
open Go.RowKit
set_option linter.unusedSimpArgs false
set_option linter.unusedVariables false

/-- v is a slice of the call's own (blocks from base on) that holds the list l. -/
def Own {α : Type} (w : World) (base : Nat) (e : TypeId) (size : Nat) (cells : α → List Value) (v : Value) (l : List α) : Prop := w.ownsRow base e size v l.length (l.flatMap cells)

theorem flatMap_len {α : Type} {cells : α → List Value} {size : Nat} (hsz : ∀ x, (cells x).length = size) (l : List α) : (l.flatMap cells).length = l.length * size := by
  induction l with
  | nil => simp
  | cons x l ih => simp only [List.flatMap_cons, List.length_append, ih, hsz, List.length_cons]; rw [Nat.add_mul, Nat.one_mul, Nat.add_comm]
theorem flatMap_at {α : Type} {cells : α → List Value} {size : Nat} (hsz : ∀ x, (cells x).length = size) (l : List α) (i j : Nat) (x : α) (hi : l[i]? = some x) (hj : j < size) : (l.flatMap cells)[i * size + j]? = (cells x)[j]? := by
  induction l generalizing i with
  | nil => simp at hi
  | cons y l ih =>
    rw [List.flatMap_cons]
    cases i with
    | zero =>
      simp at hi; subst hi
      rw [Nat.zero_mul, Nat.zero_add, List.getElem?_append_left (by rw [hsz]; exact hj)]
    | succ i =>
      rw [List.getElem?_append_right (by rw [hsz, Nat.add_mul]; omega), hsz]
      rw [show (i + 1) * size + j - size = i * size + j by rw [Nat.add_mul]; omega]
      exact ih i (by simpa using hi)
theorem Own.slice {α : Type} {w : World} {base e size : Nat} {cells : α → List Value} {v : Value} {l : List α} (h : Own w base e size cells v l) (hsz : ∀ x, (cells x).length = size) :
    ∃ A cap, v = .slice A l.length cap ∧ SliceIs w size cells A l.length cap l := by
  rcases h.2 with ⟨rfl, h0⟩ | ⟨g, cap, cur, rfl, hb, hg, hnc, hcm, hcs, htk⟩
  · rw [h0]
    exact ⟨none, 0, rfl, h0, Nat.le_refl _, Nat.zero_le _, (fun _ => ⟨rfl, rfl⟩), fun a ha => by cases ha⟩
  · have hlt : g < w.heap.size := by
      rcases Nat.lt_or_ge g w.heap.size with hlt | hge
      · exact hlt
      · rw [Array.getElem?_eq_none hge] at hg; cases hg
    refine ⟨some ⟨g, 0, none⟩, cap, rfl, rfl, hnc, hcm, (fun h => by cases h), fun a ha => ?_⟩
    cases ha
    refine ⟨?_, fun _ => ⟨hlt, rfl⟩⟩
    intro i x hi j u hj
    have hj' : j < size := by
      have := (List.getElem?_eq_some_iff.1 hj).1
      rwa [hsz] at this
    have h1 := flatMap_at hsz l i j x hi hj'
    have h2 := (h.cells (g := g) rfl) (i * size + j) u (h1.trans hj)
    exact h2
theorem Own.nil {α : Type} (w : World) (base e size : Nat) (cells : α → List Value) : Own w base e size cells (.slice none 0 0) ([] : List α) := World.ownsRow_nil _ _ _ _
theorem Own.below {α : Type} {w w' : World} {base e size B : Nat} {cells : α → List Value} {v : Value} {l : List α} (h : Own w base e size cells v l) (hb : Below B w w') (hB : ∀ k, v.ownBlock = some k → k < B) : Own w' base e size cells v l := by
  refine ⟨h.1, ?_⟩
  rcases h.2 with hn | ⟨g, cap, cur, rfl, hbg, hg, rest⟩
  · exact .inl hn
  · exact .inr ⟨g, cap, cur, rfl, hbg, (hb.block g (hB g rfl)).trans hg, rest⟩
theorem Own.call {α : Type} {w w' : World} {base e size : Nat} {cells : α → List Value} {v : Value} {l : List α} (h : Own w base e size cells v l) (hb : Below w.heap.size w w') : Own w' base e size cells v l :=
  h.below hb fun k hk => (World.ownsRow.lt h k hk).2
theorem Own.alloc {α : Type} {w : World} {base e size : Nat} {cells : α → List Value} {v : Value} {l : List α} (h : Own w base e size cells v l) (o : Obj) : Own (w.alloc o) base e size cells v l := World.ownsRow.alloc h o
theorem Own.mono {α : Type} {w : World} {base base' e size : Nat} {cells : α → List Value} {v : Value} {l : List α} (h : Own w base e size cells v l) (hb : base' ≤ base) : Own w base' e size cells v l := by
  refine ⟨h.1, ?_⟩
  rcases h.2 with hn | ⟨g, cap, cur, rfl, hbg, rest⟩
  · exact .inl hn
  · exact .inr ⟨g, cap, cur, rfl, Nat.le_trans hb hbg, rest⟩

/-- 'append(out, x)' of one element. -/
theorem wpList_push {α : Type} {P : Program} (w : World) {ops : Array Oper} {rest : List Oper} {o : Oper} {a : Act} {Q : Exit → Act → World → Prop} (hgd : o.guard = none) (s x : Operand) (t : TypeId)
    (ho : o.op = .call { callee := .builtin .append, args := #[s, x], argTypes := #[t, t] })
    (base : Nat) (e : TypeId) (z : Value) (size bytes : Nat) (cells : α → List Value) (ht : P.underlying t = some (.slice e)) (hi : (P.info? e).map (fun i => (i.zero, i.size, i.bytes)) = some (some z, size, bytes))
    (hzs : z.cells.size = size) (hsz : 0 < size) (hcs : ∀ x, (cells x).length = size) (hone : ∀ x, ∀ u ∈ cells x, u.oneCell' = true)
    (v : Value) (l : List α) (hs : a.eval s = v) (hown : Own w base e size cells v l)
    (ad : Addr) (c : Nat) (y : α) (hx : a.eval x = .slice (some ad) 1 c) (hnews : ∀ j u, (cells y)[j]? = some u → w.cell? (ad.add j) = some u)
    (hlen : l.length < 1000000) (hby : bytes ≤ 100000) (hbase : base ≤ w.heap.size)
    (h : ∀ v' w', Own w' base e size cells v' (l ++ [y]) → Below base w w' → w.grownBy w' v.ownBlock → wpList P ops Q rest (a.put o.dst v') w') : wpList P ops Q (o :: rest) a w := by
  obtain ⟨i, h1, h2, h3, h4⟩ := info_parts hi
  refine wpList_append_own w hgd s x t ho base e i z size bytes ht h1 h2 h3 h4 hzs hsz v l.length (l.flatMap cells) hs hown ad 1 c (cells y) hx (by rw [hcs, Nat.one_mul]) hnews (hone y) (by unfold maxLen; omega)
    (by have := Nat.mul_le_mul (show l.length + 1 ≤ 1000000 by omega) hby; omega) hbase ?_
  intro v' w' ho' hgrow _
  refine h v' w' ?_ ((Below.refl base w).grown hgrow hbase fun k hk => (World.ownsRow.lt hown k hk).1) hgrow
  show w'.ownsRow base e size v' (l ++ [y]).length ((l ++ [y]).flatMap cells)
  simpa using ho'
abbrev OwnI (w : World) (base : Nat) (v : Value) (l : List Int) : Prop := Own w base 2 1 (fun n : Int => [Value.int .i64 n]) v l
theorem info_i64 : (Try.prog.info? 2).map (fun i => (i.zero, i.size, i.bytes)) = some (some (.int .i64 0), 1, 8) := by kernel_rfl
theorem push_int {ops : Array Oper} {rest : List Oper} {o : Oper} {a : Act} {Q : Exit → Act → World → Prop} (w : World) (hgd : o.guard = none) (s x : Operand)
    (ho : o.op = .call { callee := .builtin .append, args := #[s, x], argTypes := #[52, 52] }) (base : Nat) (v : Value) (l : List Int) (hs : a.eval s = v) (hown : OwnI w base v l)
    (ad : Addr) (c : Nat) (y : Int) (hx : a.eval x = .slice (some ad) 1 c) (hnews : w.cell? ad = some (.int .i64 y)) (hlen : l.length < 1000000) (hbase : base ≤ w.heap.size)
    (h : ∀ v' w', OwnI w' base v' (l ++ [y]) → Below base w w' → wpList Try.prog ops Q rest (a.put o.dst v') w') : wpList Try.prog ops Q (o :: rest) a w := by
  refine wpList_push w hgd s x 52 ho base 2 _ 1 8 _ Try.underlying52 info_i64 (by rfl) (by decide) (fun _ => rfl) (fun _ u hu => by simp at hu; subst hu; rfl) v l hs hown ad c y hx ?_ hlen (by decide) hbase (fun v' w' h1 h2 _ => h v' w' h1 h2)
  intro j u hj
  cases j with
  | zero => simp at hj; subst hj; rw [show ad.add 0 = ad by simp [Addr.add]]; exact hnews
  | succ j => simp at hj
end Go.Proofs.Ytkjmacdekfbfhaa
