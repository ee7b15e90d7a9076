/- Samples in a block that a call sorts in place: reading, storing, exchanging. -/
import Derived.Test.YtkjmacdekfbfhaaSlib3
import Derived.Test.YtkjmacdekfbfhaaRegT
import Derived.Test.YtkjmacdekfbfhaaStableP
import Derived.Deep.MidRow
namespace Go.Proofs.Ytkjmacdekfbfhaa
open Go.RowKit
set_option linter.unusedSimpArgs false
set_option linter.unusedVariables false
abbrev tSmp : TypeId := 65
def Smp.row (x : Smp) : Array Value := #[.int .i64 x.tick, .int .i64 x.value]
/-- Block g begins with the samples l. -/
def Arr (w : World) (g : Nat) (l : List Smp) : Prop := ∃ cs, Blk w g tSmp cs ∧ l.length * 2 ≤ cs.size ∧ cs.toList.take (l.length * 2) = l.flatMap Smp.cells
theorem take_mid {α : Type} (T Y : List α) (o n : Nat) (hY : Y.length = 2) (h1 : o + 2 ≤ n) (h2 : n ≤ T.length) : (T.take o ++ (Y ++ T.drop (o + 2))).take n = (T.take n).take o ++ (Y ++ (T.take n).drop (o + 2)) := by
  rw [List.take_append, List.length_take, Nat.min_eq_left (by omega), List.take_of_length_le (l := T.take o) (by simp; omega), List.take_append, List.take_of_length_le (l := Y) (by omega), hY, List.take_take, Nat.min_eq_left (by omega), List.drop_take, Nat.sub_sub]
section
variable {w w' : World} {g i : Nat} {l : List Smp} {x y : Smp}
theorem Arr.lt (h : Arr w g l) : g < w.heap.size := by obtain ⟨cs, hb, -⟩ := h; exact hb.lt
theorem Arr.range (h : Arr w g l) (hi : l[i]? = some x) : w.rangeAt g (i * 2) x.cells := by
  obtain ⟨cs, hb, hs, ht⟩ := h
  intro j v hv
  have hj : j < 2 := (List.getElem?_eq_some_iff.1 hv).1
  have h1 := flatMap_at (size := 2) smp_len l i j x hi hj
  have hil := (List.getElem?_eq_some_iff.1 hi).1
  rw [← ht, List.getElem?_take, if_pos (by omega)] at h1
  exact (hb.cell _).trans (by rw [← Array.getElem?_toList, h1]; exact hv)
theorem Arr.there (h : Arr w g l) (hi : i < l.length) : w.there g (i * 2) 2 := by
  obtain ⟨cs, hb, hs, ht⟩ := h
  exact fun j hj => ⟨by rw [hb.cell, Array.getElem?_eq_getElem (by omega)]; rfl, hb.frozen _⟩
theorem Arr.load (h : Arr w g l) (hi : l[i]? = some x) : (Instr.loadAt tSmp (.pointer (some ⟨g, i * 2, none⟩))).run Try.prog w = .ok (.agg x.row) w :=
  run_loadAt_mid w g (i * 2) tSmp x.cells _ (h.range hi) Try.underlying65 rfl (by kernel_rfl)
theorem Arr.set (h : Arr w g l) (hi : i < l.length) (y : Smp) : Arr (w.setCells g (i * 2) y.cells) g (l.set i y) ∧ w.grownBy (w.setCells g (i * 2) y.cells) (some g) := by
  obtain ⟨cs, hb, hs, ht⟩ := h
  have hfit : i * 2 + y.cells.length ≤ cs.size := by rw [smp_len]; omega
  obtain ⟨h1, h2⟩ := hb.setCells hfit
  refine ⟨⟨_, h1, by rw [spl_size hfit, List.length_set]; exact hs, ?_⟩, h2⟩
  rw [List.length_set]
  have e1 : (spl cs (i * 2) y.cells).toList = cs.toList.take (i * 2) ++ (y.cells ++ cs.toList.drop (i * 2 + 2)) := rfl
  rw [e1, List.set_eq_take_append_cons_drop, if_pos hi, List.flatMap_append, List.flatMap_cons, ← flat_take smp_len, ← flat_drop smp_len, ← ht, take_mid cs.toList y.cells (i * 2) (l.length * 2) rfl (by omega) (by simpa using hs), Nat.add_mul]
theorem Arr.stores {P : Program} (h : Arr w g l) (hi : i < l.length) (y : Smp) : (storeCells ⟨g, i * 2, none⟩ [.int .i64 y.tick, .int .i64 y.value] 0).run P w = .ok () (w.setCells g (i * 2) y.cells) := by
  have ht := h.there hi
  have := run_storeCells_cells (P := P) g (i * 2) y.cells 0 w (fun j hj => by simpa using (ht j (by rw [smp_len] at hj; exact hj)).1) (fun j hj => by simpa using (ht j (by rw [smp_len] at hj; exact hj)).2) (smp_one y)
  simp only [Nat.add_zero] at this
  exact this
theorem Arr.upd {S : Nat → Prop} (h : Arr w g l) (hu : Upd S w w') (hg : ¬ S g) : Arr w' g l := by
  obtain ⟨cs, hb, h2⟩ := h
  exact ⟨cs, hb.upd hu hg, h2⟩
theorem Arr.call (h : Arr w g l) (hb : Below w.heap.size w w') : Arr w' g l := by
  obtain ⟨cs, hb1, h2⟩ := h
  exact ⟨cs, hb1.call hb, h2⟩
theorem Arr.drew (h : Arr w g l) : Arr w.drew g l := h
theorem Arr.is (h : Arr w g l) {c : Nat} (hc : l.length ≤ c) (hm : c ≤ maxLen) : SmpsAre w (some ⟨g, 0, none⟩) l.length c l := by
  refine ⟨rfl, hc, hm, (fun h => by cases h), fun a ha => ?_⟩
  cases ha
  exact ⟨fun i x hi j v hj => by rw [Addr.add_mid, Nat.zero_add]; exact h.range hi j v hj, fun _ => ⟨h.lt, rfl⟩⟩
end
theorem Arr.ld {w : World} {g i o : Nat} {l : List Smp} {y : Smp} {ops : Array Oper} {rest : List Oper} {op : Oper} {a : Act} {Q : Exit → Act → World → Prop} (h : Arr w g l) (hi : l[i]? = some y) (hgd : op.guard = none) (x : Operand) (ho : op.op = .load tSmp x)
    (hx : a.eval x = .pointer (some ⟨g, o, none⟩)) (he : o = i * 2) (H : wpList Try.prog ops Q rest (a.put op.dst (.agg y.row)) w) : wpList Try.prog ops Q (op :: rest) a w := by
  subst he
  exact wpList_load_mid hgd tSmp x ho g (i * 2) hx y.cells _ (h.range hi) Try.underlying65 rfl (by kernel_rfl) H
theorem exec_at {a : Act} {o : Oper} {x i : Operand} {g n c k : Nat} {w : World} (ho : o.op = .indexAddr 48 x i) (hx : a.eval x = .slice (some ⟨g, 0, none⟩) n c) (hi : a.eval i = .int .i64 (k : Int)) (hk : k < n) : (execOp a.eval o).run Try.prog w = .ok (.value (.pointer (some ⟨g, k * 2, none⟩))) w := by
  unfold execOp
  have h1 : (0 : Int) ≤ (k : Int) := by omega
  have h2 : (k : Int) < (n : Int) := by omega
  simp only [ho, hx, hi]
  go_simp
theorem Arr.store {w : World} {g i o : Nat} {l : List Smp} {ops : Array Oper} {rest : List Oper} {op : Oper} {a : Act} {Q : Exit → Act → World → Prop} (h : Arr w g l) (hi : i < l.length) (y : Smp) (hgd : op.guard = none) (x z : Operand) (ho : op.op = .store tSmp x z)
    (hx : a.eval x = .pointer (some ⟨g, o, none⟩)) (he : o = i * 2) (hy : a.eval z = .agg y.row)
    (H : ∀ w', Arr w' g (l.set i y) → Upd (fun k => k = g) w w' → wpList Try.prog ops Q rest (a.put op.dst undef) w') : wpList Try.prog ops Q (op :: rest) a w := by
  subst he
  obtain ⟨h1, h2⟩ := h.set hi y
  exact wpList_store_mid hgd tSmp x z ho g (i * 2) y.row hx hy (h.there hi) (by kernel_rfl) (by simp [Smp.row, Value.oneCell']) (H _ h1 ((Upd.refl _ w).grown h2 (fun k e => by cases e; exact .inl rfl)))
/-- What a step of the sort does: the samples are l', other blocks are as they were. -/
def SrtP (w : World) (g : Nat) (l : List Smp) (e : Ending) (w' : World) : Prop := e = .returned (.tuple #[]) ∧ Arr w' g l ∧ Upd (fun k => k = g) w w'
/-- Two elements exchanged. -/
theorem swap2 {α : Type} (P M Q : List α) (x y : α) : ((P ++ x :: (M ++ y :: Q)).set P.length y).set (P.length + 1 + M.length) x = P ++ y :: (M ++ x :: Q) := by
  rw [List.set_append_right _ _ (Nat.le_refl _), Nat.sub_self, List.set_cons_zero, List.set_append_right _ _ (by omega), show P.length + 1 + M.length - P.length = M.length + 1 by omega, List.set_cons_succ, List.set_append_right _ _ (Nat.le_refl _), Nat.sub_self, List.set_cons_zero]
theorem swap2_fst {α : Type} (P M Q : List α) (x y : α) : (P ++ x :: (M ++ y :: Q))[P.length]? = some x := by simp
theorem swap2_snd {α : Type} (P M Q : List α) (x y : α) : (P ++ x :: (M ++ y :: Q))[P.length + 1 + M.length]? = some y := by
  rw [List.getElem?_append_right (by omega), show P.length + 1 + M.length - P.length = M.length + 1 by omega, List.getElem?_cons_succ, List.getElem?_append_right (Nat.le_refl _), Nat.sub_self]; rfl
end Go.Proofs.Ytkjmacdekfbfhaa
