/- A ring, plain: what it keeps, in order. -/
import Derived.Test.YtfeccjjheiillaaSer4
import Derived.Test.YtfeccjjheiillaaTrial
namespace Go.Proofs.Ytfeccjjheiillaa
set_option linter.unusedVariables false
set_option linter.unusedSimpArgs false
def ringq (ph : List Adv) (fr : Nat) : List Adv := ph.drop fr ++ ph.take fr
def pushq (l : List Adv) (room : Nat) (x : Adv) : List Adv := if room < (l ++ [x]).length then (l ++ [x]).drop 1 else l ++ [x]
def RI (ph : List Adv) (fr room : Nat) : Prop := ph.length ≤ room ∧ (ph.length < room → fr = 0) ∧ fr < room
theorem ringq_len (ph : List Adv) (fr room : Nat) (h : RI ph fr room) : (ringq ph fr).length = ph.length := by
  unfold ringq
  rw [List.length_append, List.length_drop, List.length_take]
  have := h.1
  have := h.2.1
  have := h.2.2
  omega
theorem ring_room {ph : List Adv} {fr room : Nat} (h : RI ph fr room) (hl : ph.length < room) (x : Adv) : RI (ph ++ [x]) fr room ∧ ringq (ph ++ [x]) fr = pushq (ringq ph fr) room x := by
  have h0 := h.2.1 hl
  subst h0
  refine ⟨⟨by simp; omega, fun _ => rfl, h.2.2⟩, ?_⟩
  unfold ringq pushq
  simp only [List.drop_zero, List.take_zero, List.append_nil, List.length_append, List.length_singleton]
  rw [if_neg (by omega)]
theorem ring_full {ph : List Adv} {fr room : Nat} (h : RI ph fr room) (hl : ph.length = room) (x : Adv) : RI (ph.set fr x) ((fr + 1) % room) room ∧ ringq (ph.set fr x) ((fr + 1) % room) = pushq (ringq ph fr) room x := by
  have h2 := h.2.2
  have hlt : fr < ph.length := by omega
  refine ⟨⟨by simp; omega, fun hh => by simp at hh; omega, Nat.mod_lt _ (by omega)⟩, ?_⟩
  have e0 : pushq (ringq ph fr) room x = ph.drop (fr + 1) ++ ph.take fr ++ [x] := by
    unfold pushq
    rw [if_pos (by rw [List.length_append, ringq_len ph fr room h]; simp; omega)]
    unfold ringq
    rw [List.drop_eq_getElem_cons hlt]
    rfl
  rw [e0]
  unfold ringq
  rw [List.set_eq_take_append_cons_drop, if_pos hlt]
  have hl2 : (ph.take fr).length = fr := by rw [List.length_take]; omega
  rcases Nat.lt_or_ge (fr + 1) room with h3 | h3
  · rw [Nat.mod_eq_of_lt h3]
    have e1 : (ph.take fr ++ x :: ph.drop (fr + 1)).drop (fr + 1) = ph.drop (fr + 1) := by
      rw [List.drop_append, List.drop_of_length_le (by omega), hl2, show fr + 1 - fr = 1 by omega]; simp
    have e2 : (ph.take fr ++ x :: ph.drop (fr + 1)).take (fr + 1) = ph.take fr ++ [x] := by
      rw [List.take_append, List.take_of_length_le (by omega), hl2, show fr + 1 - fr = 1 by omega]; simp
    rw [e1, e2, List.append_assoc]
  · have : fr + 1 = room := by omega
    rw [this, Nat.mod_self, List.drop_of_length_le (show ph.length ≤ room by omega)]
    simp
theorem ring_at {ph : List Adv} {fr room : Nat} (h : RI ph fr room) {i : Nat} (hi : i < ph.length) : (fr + i) % ph.length < ph.length ∧ ph[(fr + i) % ph.length]? = (ringq ph fr)[i]? := by
  have h1 := h.1
  have h2 := h.2.1
  have h3 := h.2.2
  refine ⟨Nat.mod_lt _ (by omega), ?_⟩
  unfold ringq
  rcases Nat.lt_or_ge (fr + i) ph.length with h4 | h4
  · rw [Nat.mod_eq_of_lt h4, List.getElem?_append_left (by rw [List.length_drop]; omega), List.getElem?_drop]
  · have e : (fr + i) % ph.length = fr + i - ph.length := by
      rw [Nat.mod_eq_sub_mod h4, Nat.mod_eq_of_lt (by omega)]
    rw [e, List.getElem?_append_right (by rw [List.length_drop]; omega), List.length_drop, List.getElem?_take, if_pos (by omega)]
    congr 1
    omega
theorem push_len {l : List Adv} {room : Nat} (h : l.length ≤ room) (h1 : 1 ≤ room) (x : Adv) : (pushq l room x).length ≤ room ∧ 1 ≤ (pushq l room x).length := by
  unfold pushq
  split
  · simp at *; omega
  · simp at *; omega
theorem push_good {l : List Adv} (h : ∀ y ∈ l, y.good) {x : Adv} (hx : x.good) (room : Nat) : ∀ y ∈ pushq l room x, y.good := by
  intro y hy
  unfold pushq at hy
  have key : ∀ y ∈ l ++ [x], y.good := fun y hy => by
    rw [List.mem_append] at hy
    rcases hy with hy | hy
    · exact h y hy
    · simp at hy; subst hy; exact hx
  split at hy
  · exact key y (List.mem_of_mem_drop hy)
  · exact key y hy
end Go.Proofs.Ytfeccjjheiillaa
