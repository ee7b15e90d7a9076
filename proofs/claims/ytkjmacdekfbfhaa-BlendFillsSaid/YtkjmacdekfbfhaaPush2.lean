/- 'append(out, x)' of one element, where the new slice lies; an object's own slice. -/
import Derived.Test.YtkjmacdekfbfhaaUpd
import Derived.Lib.AppendZeros
namespace Go.Proofs.Ytkjmacdekfbfhaa
open Go.RowKit
set_option linter.unusedSimpArgs false
set_option linter.unusedVariables false
theorem wpList_push2 {α : Type} {P : Program} (w : World) {ops : Array Oper} {rest : List Oper} {o : Oper} {a : Act} {Q : Exit → Act → World → Prop} (hgd : o.guard = none) (s x : Operand) (t : TypeId)
    (ho : o.op = .call { callee := .builtin .append, args := #[s, x], argTypes := #[t, t] })
    (base : Nat) (e : TypeId) (z : Value) (size bytes : Nat) (cells : α → List Value) (ht : P.underlying t = some (.slice e)) (hi : (P.info? e).map (fun i => (i.zero, i.size, i.bytes)) = some (some z, size, bytes))
    (hzs : z.cells.size = size) (hsz : 0 < size) (hcs : ∀ x, (cells x).length = size) (hone : ∀ x, ∀ u ∈ cells x, u.oneCell' = true)
    (v : Value) (l : List α) (hs : a.eval s = v) (hown : Own w base e size cells v l)
    (ad : Addr) (c : Nat) (y : α) (hx : a.eval x = .slice (some ad) 1 c) (hnews : ∀ j u, (cells y)[j]? = some u → w.cell? (ad.add j) = some u)
    (hlen : l.length < 1000000) (hby : bytes ≤ 100000) (hbase : base ≤ w.heap.size)
    (h : ∀ v' w', Own w' base e size cells v' (l ++ [y]) → Upd (fun k => v.ownBlock = some k) w w' → (v'.ownBlock = v.ownBlock ∨ v'.ownBlock = some w.heap.size) → wpList P ops Q rest (a.put o.dst v') w') : wpList P ops Q (o :: rest) a w := by
  obtain ⟨i, h1, h2, h3, h4⟩ := info_parts hi
  have hb1 : (l.length + 1) * bytes ≤ 140737488355328 := by have := Nat.mul_le_mul (show l.length + 1 ≤ 1000000 by omega) hby; omega
  have hnl : (cells y).length = 1 * i.size := by rw [hcs, h3, Nat.one_mul]
  obtain ⟨v', w', hr, k1, k2, k3⟩ := run_append_own (P := P) w base t o.type e i z size bytes ht h1 h2 h3 h4 hzs hsz v l.length (l.flatMap cells) hown ad 1 c (cells y) (by rw [hcs, Nat.one_mul]) hnews (hone y) (by unfold maxLen; omega) hb1 hbase
  have hwhere : v'.ownBlock = v.ownBlock ∨ v'.ownBlock = some w.heap.size := by
    rcases hown.2 with ⟨rfl, hn⟩ | ⟨g, cap, cur, rfl, hbg, hg, hnc, hcm, hcs', htake⟩
    · right
      have hr2 := run_append_nil (P := P) w t o.type e i z ht h1 h2 ad 1 c (cells y) hnl hnews (by omega) (by omega) (by rw [h4]; omega)
      rw [hr2] at hr
      injection hr with e1 e2
      rw [← e1]; rfl
    · by_cases hroom : l.length + 1 ≤ cap
      · left
        have hr2 := run_append_room (P := P) w t o.type e i ht h1 g l.length cap cur hg ad 1 c (cells y) hnl hnews (hone y) hroom (by rw [hnl, hcs', h3, ← Nat.add_mul]; exact Nat.mul_le_mul_right _ hroom)
        rw [hr2] at hr
        injection hr with e1 e2
        rw [← e1]; rfl
      · right
        have hl2 : (l.flatMap cells).length = l.length * i.size := by rw [flatMap_len hcs, h3]
        have hr2 := run_append_grow (P := P) w t o.type e i z ht h1 h2 ⟨g, 0, none⟩ l.length cap (l.flatMap cells) hl2 (World.ownsRow.cells hown (g := g) rfl) ad 1 c (cells y) hnl hnews (by omega) (by omega) (growslice_fits (by omega) (by rw [h4]; exact hb1))
        rw [hr2] at hr
        injection hr with e1 e2
        rw [← e1]; rfl
  refine Lib.wpList_append_run w hgd s x t t ho v _ hs hx v' w' hr ?_
  refine h v' w' ?_ ⟨k2.os, k2.tape, k2.output, k2.size, fun k hk hn => k2.block k hk (fun e => hn e.symm)⟩ hwhere
  show w'.ownsRow base e size v' (l ++ [y]).length ((l ++ [y]).flatMap cells)
  simpa using k1
end Go.Proofs.Ytkjmacdekfbfhaa
