/- What a call that writes into some blocks leaves as it was; a row of cells with some cells written over. -/
import Derived.Test.YtkjmacdekfbfhaaKeep
namespace Go.Proofs.Ytkjmacdekfbfhaa
open Go.RowKit
set_option linter.unusedSimpArgs false
set_option linter.unusedVariables false
/-- Of the blocks that there were just those of S may have been written. -/
structure Upd (S : Nat → Prop) (w w' : World) : Prop where
  os : w'.os = w.os
  tape : w'.tape = w.tape
  output : w'.output = w.output
  size : w.heap.size ≤ w'.heap.size
  block : ∀ k, k < w.heap.size → ¬ S k → w'.heap[k]? = w.heap[k]?
section
variable {S T : Nat → Prop} {w w1 w' : World}
theorem Upd.refl (S : Nat → Prop) (w : World) : Upd S w w := ⟨rfl, rfl, rfl, Nat.le_refl _, fun _ _ _ => rfl⟩
theorem Upd.of_below (h : Below w.heap.size w w') : Upd S w w' := ⟨h.os, h.tape, h.output, h.size, fun k hk _ => h.block k hk⟩
theorem Upd.below {B : Nat} (h : Upd S w w') (hS : ∀ k, S k → B ≤ k) (hB : B ≤ w.heap.size) : Below B w w' :=
  ⟨h.os, h.tape, h.output, h.size, fun k hk => h.block k (by omega) (fun hs => by have := hS k hs; omega)⟩
theorem Upd.trans (h : Upd S w w1) (h2 : Upd T w1 w') (hT : ∀ k, T k → S k ∨ w.heap.size ≤ k) : Upd S w w' :=
  ⟨h2.os.trans h.os, h2.tape.trans h.tape, h2.output.trans h.output, Nat.le_trans h.size h2.size, fun k hk hs =>
    (h2.block k (Nat.lt_of_lt_of_le hk h.size) (fun ht => by rcases hT k ht with h3 | h3; exact hs h3; omega)).trans (h.block k hk hs)⟩
theorem Upd.call (h : Upd S w w1) (h2 : Below w1.heap.size w1 w') : Upd S w w' := h.trans (T := fun _ => False) (Upd.of_below h2) (fun _ hk => hk.elim)
theorem Upd.mono (h : Upd S w w') (hT : ∀ k, S k → T k) : Upd T w w' := ⟨h.os, h.tape, h.output, h.size, fun k hk ht => h.block k hk (fun hs => ht (hT k hs))⟩
theorem Upd.grown {row : Option Nat} (h : Upd S w w1) (hg : w1.grownBy w' row) (hr : ∀ k, row = some k → S k ∨ w.heap.size ≤ k) : Upd S w w' :=
  h.trans (T := fun k => row = some k) ⟨hg.os, hg.tape, hg.output, hg.size, fun k hk hn => hg.block k hk (fun e => hn e.symm)⟩ hr
theorem Upd.drew (h : Upd S w w') : Upd S w w'.drew := ⟨h.os, h.tape, h.output, h.size, h.block⟩
theorem Upd.alloc (h : Upd S w w') (o : Obj) : Upd S w (w'.alloc o) :=
  ⟨h.os, h.tape, h.output, by have := h.size; simp; omega, fun k hk hn => (Below.heap_alloc _ _ _ (Nat.lt_of_lt_of_le hk h.size)).trans (h.block k hk hn)⟩
theorem Upd.setCell (h : Upd S w w') {p : Addr} (hp : S p.block ∨ w.heap.size ≤ p.block) (u : Value) : Upd S w (w'.setCell p u) :=
  ⟨h.os, h.tape, h.output, by have := h.size; simp [World.setCell]; omega, fun k hk hn => (Below.heap_setCell _ _ _ _ (fun e => by subst e; rcases hp with h3 | h3; exact hn h3; omega)).trans (h.block k hk hn)⟩
theorem Blk.upd {g : Nat} {t : TypeId} {cs : Array Value} (h : Blk w g t cs) (hu : Upd S w w') (hg : ¬ S g) : Blk w' g t cs := (hu.block g h.lt hg).trans h
theorem Own.upd {α : Type} {base e size : Nat} {cells : α → List Value} {v : Value} {l : List α} (h : Own w base e size cells v l) (hu : Upd S w w') (hne : ∀ k, v.ownBlock = some k → ¬ S k) : Own w' base e size cells v l := by
  refine ⟨h.1, ?_⟩
  have hlt := World.ownsRow.lt h
  rcases h.2 with hn | ⟨b, cap, cur, rfl, hbg, hb, rest⟩
  · exact .inl hn
  · exact .inr ⟨b, cap, cur, rfl, hbg, (hu.block b (hlt b rfl).2 (hne b rfl)).trans hb, rest⟩
theorem slice_upd {α : Type} {size : Nat} {cells : α → List Value} {A : Option Addr} {len cap : Nat} {l : List α} (h : SliceIs w size cells A len cap l) (hu : Upd S w w') (hne : ∀ a, A = some a → ¬ S a.block) : SliceIs w' size cells A len cap l := by
  refine ⟨h.1, h.2.1, h.2.2.1, h.2.2.2.1, fun a ha => ?_⟩
  obtain ⟨h1, h2⟩ := h.2.2.2.2 a ha
  refine ⟨fun i x hi j v hj => ?_, fun hl => ⟨Nat.lt_of_lt_of_le (h2 hl).1 hu.size, (h2 hl).2⟩⟩
  have hlt : a.block < w.heap.size := by
    refine (h2 ?_).1
    have := (List.getElem?_eq_some_iff.1 hi).1
    rw [← h.1]; omega
  have hbl : (a.add (i * size + j)).block = a.block := by unfold Addr.add; split <;> rfl
  have := h1 i x hi j v hj
  exact (World.cell?_of_block (w := w) (hu.block _ (by rw [hbl]; exact hlt) (by rw [hbl]; exact hne a ha))).trans this
end
theorem Own.drewN_ {α : Type} {w : World} {base e size : Nat} {cells : α → List Value} {v : Value} {l : List α} (h : Own w base e size cells v l) (n : Nat) : Own (w.drewN n) base e size cells v l := h
theorem Upd.drewN_ {S : Nat → Prop} {w w' : World} (h : Upd S w w') (n : Nat) : Upd S w (w'.drewN n) := ⟨h.os, h.tape, h.output, h.size, h.block⟩
theorem new_atU {T : Nat → Prop} {W W1 : World} (S : Upd T W W1) (cs : Array Value) (t : TypeId) : ∃ g, W1.heap.size = g ∧ Blk (W1.alloc (.cells cs t)) g t cs ∧ W.heap.size ≤ g := ⟨_, rfl, Blk.new _ _ _, S.size⟩
theorem below_drewN {B : Nat} {a w : World} (h : Below B a w) (n : Nat) : Below B a (w.drewN n) := ⟨h.os, h.tape, h.output, h.size, h.block⟩
/-- A row with the cells vs from o on. -/
def spl (cs : Array Value) (o : Nat) (vs : List Value) : Array Value := (cs.toList.take o ++ (vs ++ cs.toList.drop (o + vs.length))).toArray
theorem spl_size {cs : Array Value} {o : Nat} {vs : List Value} (h : o + vs.length ≤ cs.size) : (spl cs o vs).size = cs.size := by
  unfold spl; simp; omega
theorem Blk.setCells {w : World} {g : Nat} {t : TypeId} {cs : Array Value} (h : Blk w g t cs) {o : Nat} {vs : List Value} (hs : o + vs.length ≤ cs.size) : Blk (w.setCells g o vs) g t (spl cs o vs) ∧ w.grownBy (w.setCells g o vs) (some g) := by
  obtain ⟨cs', h1, h2, h3⟩ := setCells_blk g t vs o w cs h
  have e : cs' = spl cs o vs := by
    apply Array.ext (by rw [h2, spl_size hs])
    intro i hi1 hi2
    have := h3 i
    rw [Array.getElem?_eq_getElem hi1] at this
    have h4 : (spl cs o vs)[i]? = some (spl cs o vs)[i] := Array.getElem?_eq_getElem hi2
    suffices hh : (if o ≤ i ∧ i < o + vs.length ∧ i < cs.size then vs[i - o]? else cs[i]?) = (spl cs o vs)[i]? by
      rw [hh, h4] at this; exact Option.some.inj this
    have hi : i < cs.size := by omega
    unfold spl
    simp only [List.getElem?_toArray]
    rcases Nat.lt_or_ge i o with hio | hio
    · rw [if_neg (by omega), List.getElem?_append_left (by simp; omega), List.getElem?_take, if_pos hio]; simp
    · rw [List.getElem?_append_right (by simp; omega)]
      simp only [List.length_take, Array.length_toList, Nat.min_eq_left (show o ≤ cs.size by omega)]
      rcases Nat.lt_or_ge i (o + vs.length) with h5 | h5
      · rw [if_pos (by omega), List.getElem?_append_left (by omega)]
      · rw [if_neg (by omega), List.getElem?_append_right (by omega), List.getElem?_drop, show o + vs.length + (i - o - vs.length) = i by omega]; simp
  obtain ⟨k1, k2, k3, k4, k5⟩ := setCells_heap g vs o w
  rw [e] at h1
  exact ⟨h1, ⟨k2, k3, k4, by omega, fun k _ hne => k5 k (fun e => hne (by rw [e]))⟩⟩
theorem flat_take {α : Type} {cells : α → List Value} {size : Nat} (hsz : ∀ x, (cells x).length = size) (l : List α) (i : Nat) : (l.flatMap cells).take (i * size) = (l.take i).flatMap cells := by
  induction l generalizing i with
  | nil => simp
  | cons y l ih =>
    cases i with
    | zero => simp
    | succ i => rw [List.flatMap_cons, List.take_append, hsz, List.take_of_length_le (by rw [hsz, Nat.add_mul]; omega), show (i + 1) * size - size = i * size by rw [Nat.add_mul]; omega, ih, List.take_succ_cons, List.flatMap_cons]
theorem flat_drop {α : Type} {cells : α → List Value} {size : Nat} (hsz : ∀ x, (cells x).length = size) (l : List α) (i : Nat) : (l.flatMap cells).drop (i * size) = (l.drop i).flatMap cells := by
  induction l generalizing i with
  | nil => simp
  | cons y l ih =>
    cases i with
    | zero => simp
    | succ i => rw [List.flatMap_cons, List.drop_append, hsz, List.drop_of_length_le (by rw [hsz, Nat.add_mul]; omega), show (i + 1) * size - size = i * size by rw [Nat.add_mul]; omega, ih, List.drop_succ_cons, List.nil_append]
end Go.Proofs.Ytkjmacdekfbfhaa
