/- '[]byte(s)' and an append of one byte to it: what is known of the slice, whichever way the append goes. -/
import Derived.Test.YtkjmacdekfbfhaaBase
import Derived.Laws.IdiomStrings
import Derived.ArgAppend
import Derived.OwnWalk
import Derived.Below
import Derived.Handy
namespace Go.Proofs.Ytkjmacdekfbfhaa
open Go.RowKit
set_option linter.unusedSimpArgs false
set_option linter.unusedVariables false

/-- The slice at block b reads as the bytes ns. -/
def BytesAt (w : World) (b : Nat) (ns : List Nat) : Prop := ∀ (j n : Nat), ns[j]? = some n → w.cell? ⟨b, j, none⟩ = some (.int .u8 (n : Int))
theorem BytesAt.below {w w' : World} {b : Nat} {ns : List Nat} {B : Nat} (h : BytesAt w b ns) (hb : Below B w w') (hB : b < B) : BytesAt w' b ns :=
  fun j n hj => (hb.cell (p := ⟨b, j, none⟩) hB).trans (h j n hj)

theorem BytesAt.alloc {w : World} {b : Nat} {ns : List Nat} (h : BytesAt w b ns) (hb : b < w.heap.size) (o : Obj) : BytesAt (w.alloc o) b ns :=
  h.below ((Below.refl w.heap.size w).alloc (Nat.le_refl _) o) hb
theorem spare_alloc {w : World} {b n cap : Nat} (h : ∀ j, n ≤ j → j < cap → (w.cell? ⟨b, j, none⟩).isSome = true ∧ w.frozen? ⟨b, j, none⟩ = false) (hb : b < w.heap.size) (o : Obj) :
    ∀ j, n ≤ j → j < cap → ((w.alloc o).cell? ⟨b, j, none⟩).isSome = true ∧ (w.alloc o).frozen? ⟨b, j, none⟩ = false := fun j h1 h2 => by
  have hB := (Below.refl w.heap.size w).alloc (Nat.le_refl _) o
  rw [hB.cell (p := ⟨b, j, none⟩) hb, hB.frozen (p := ⟨b, j, none⟩) hb]
  exact h j h1 h2
theorem cell_new_row (w : World) (cs : Array Value) (t : TypeId) (fr : Nat × Nat) (i : Nat) : (w.alloc (.cells cs t fr)).cell? ⟨w.heap.size, i, none⟩ = cs[i]? :=
  cell_of_row _ _ _ cs t fr (heap_alloc_new w _)
theorem frozen_new_row (w : World) (cs : Array Value) (t : TypeId) (i n : Nat) (hi : i < n) : (w.alloc (.cells cs t (n, n + 1))).frozen? ⟨w.heap.size, i, none⟩ = false := by
  have h : (w.alloc (.cells cs t (n, n + 1))).heap[w.heap.size]? = some (.cells cs t (n, n + 1)) := heap_alloc_new w _
  simp only [World.frozen?, h]
  simp
  intro h
  omega

theorem conv_bytes {P : Program} (w : World) (src dst e : TypeId) (s : ByteArray) (hm : s.size ≤ maxLen) (hs : P.underlying src = some .string) (hd : P.underlying dst = some (.slice e)) (he : P.underlying e = some (.int .u8)) :
    ∃ (W1 : World) (cap : Nat), (convert src dst (.string s)).run P w = .ok (.slice (some ⟨w.heap.size, 0, none⟩) s.size cap) W1 ∧ s.size ≤ cap ∧ cap ≤ maxLen ∧ W1.heap.size = w.heap.size + 1 ∧ Below w.heap.size w W1 ∧
      BytesAt W1 w.heap.size (s.data.toList.map (·.toNat)) ∧ ∀ j, s.size ≤ j → j < cap → (W1.cell? ⟨w.heap.size, j, none⟩).isSome = true ∧ W1.frozen? ⟨w.heap.size, j, none⟩ = false := by
  have hge := grownCap_ge w s.size 0 e
  have hsz : (bytesRow s (grownCap w s.size 0 e)).size = grownCap w s.size 0 e := by
    simp [bytesRow]; show s.size + _ = _; omega
  refine ⟨_, _, run_bytes_of_string w src dst e s hs hd he, hge, grownCap_le_maxLen w s.size 0 e hm, by simp, ((Below.refl _ _).drew).alloc (Nat.le_refl _) _, ?_, ?_⟩
  · intro j n hj
    have := cell_new_row w.drew (bytesRow s (grownCap w s.size 0 e)) e ((bytesRow s (grownCap w s.size 0 e)).size, (bytesRow s (grownCap w s.size 0 e)).size + 1) j
    refine Eq.trans this ?_
    unfold bytesRow
    rw [Array.getElem?_append_left (by
      obtain ⟨h, _⟩ := List.getElem?_eq_some_iff.1 hj
      simpa using h)]
    rw [List.getElem?_map] at hj
    obtain ⟨x, hx, rfl⟩ := Option.map_eq_some_iff.1 hj
    simp only [Array.getElem?_toList] at hx
    rw [Array.getElem?_map, hx]
    rfl
  · intro j h1 h2
    refine ⟨?_, ?_⟩
    · have := cell_new_row w.drew (bytesRow s (grownCap w s.size 0 e)) e ((bytesRow s (grownCap w s.size 0 e)).size, (bytesRow s (grownCap w s.size 0 e)).size + 1) j
      rw [show (w.drew.alloc (.cells (bytesRow s (grownCap w s.size 0 e)) e ((bytesRow s (grownCap w s.size 0 e)).size, (bytesRow s (grownCap w s.size 0 e)).size + 1))).cell? ⟨w.heap.size, j, none⟩ = _ from this]
      rw [Array.getElem?_eq_getElem (by omega)]; rfl
    · exact frozen_new_row w.drew _ e j _ (by omega)

theorem wpList_append_byte {P : Program} (w : World) {ops : Array Oper} {rest : List Oper} {o : Oper} {a : Act} {Q : Exit → Act → World → Prop}
    (hg : o.guard = none) (s x : Operand) (t : TypeId) (hop : o.op = Op.call { callee := Callee.builtin Builtin.append, args := #[s, x], argTypes := #[t, t] })
    (e : TypeId) (i : TypeInfo) (z : Value) (h1 : P.underlying t = some (.slice e)) (h2 : P.info? e = some i) (h3 : i.zero = some z) (h4 : i.size = 1) (h5 : i.bytes = 1) (h6 : z.cells.size = 1)
    (b n cap : Nat) (ns : List Nat) (hs : a.eval s = .slice (some ⟨b, 0, none⟩) n cap) (hn : ns.length = n) (hcap : n ≤ cap) (hcm : cap ≤ maxLen) (hat : BytesAt w b ns) (hlt : b < w.heap.size)
    (hspare : ∀ j, n ≤ j → j < cap → (w.cell? ⟨b, j, none⟩).isSome = true ∧ w.frozen? ⟨b, j, none⟩ = false)
    (g c : Nat) (v : Nat) (hx : a.eval x = .slice (some ⟨g, 0, none⟩) 1 c) (hc : w.cell? ⟨g, 0, none⟩ = some (.int .u8 (v : Int))) (b1 : n + 1 ≤ 100000)
    (hK : ∀ (b' cap' : Nat) (w' : World), b ≤ b' → b' < w'.heap.size → w.heap.size ≤ w'.heap.size → BytesAt w' b' (ns ++ [v]) → Below b w w' → wpList P ops Q rest (a.put o.dst (.slice (some ⟨b', 0, none⟩) (n + 1) cap')) w') :
    wpList P ops Q (o :: rest) a w := by
  have hnews : ∀ j u, [Value.int .u8 (v : Int)][j]? = some u → w.cell? ((⟨g, 0, none⟩ : Addr).add j) = some u := by
    intro j u hj
    cases j with
    | zero => simp at hj; subst hj; exact hc
    | succ j => simp at hj
  refine wpList_append_arg w hg s x t hop e i z 1 1 h1 h2 h3 h4 h5 h6 (by omega) b 0 n cap (ns.map fun n : Nat => Value.int .u8 (n : Int)) hs (by simpa using hn) ?_ ⟨g, 0, none⟩ 1 c [Value.int .u8 (v : Int)] hx rfl hnews (by simp [Value.oneCell']) ?_ (by unfold maxLen; omega) (by omega) ?_ ?_
  · intro j u hj
    rw [List.getElem?_map] at hj
    obtain ⟨m, hm, rfl⟩ := Option.map_eq_some_iff.1 hj
    rw [Nat.zero_add]
    exact hat j m hm
  · intro hr j hj
    simp at hj
    subst hj
    have := hspare n (Nat.le_refl _) (by omega)
    simpa using this
  · intro hr
    have hs1 : ∀ j, j < [Value.int .u8 (v : Int)].length → (w.cell? ⟨b, 0 + n * 1 + j, none⟩).isSome = true := by
      intro j hj
      simp at hj
      subst hj
      have := (hspare n (Nat.le_refl _) (by omega)).1
      simpa using this
    refine hK b cap _ (Nat.le_refl _) (by simp [World.setCells, World.setCell]; exact hlt) (by simp [World.setCells, World.setCell]) ?_ ?_
    · intro j m hj
      rcases Nat.lt_or_ge j ns.length with h | h
      · rw [List.getElem?_append_left h] at hj
        rw [World.cell?_setCells_out b _ _ _ _ (fun _ _ => .inl (by simp; omega))]
        exact hat j m hj
      · rw [List.getElem?_append_right h] at hj
        have hj0 : j = ns.length := by
          rcases Nat.eq_zero_or_pos (j - ns.length) with h0 | h0
          · omega
          · rw [List.getElem?_eq_none (by simp; omega)] at hj; simp at hj
        subst hj0
        simp at hj
        subst hj
        have := World.cell?_setCells_in b [Value.int .u8 (v : Int)] (0 + n * 1) w hs1 0 (by simp)
        simp at this
        rw [show (0 + n * 1 : Nat) = n by omega] at *
        rw [hn]
        exact this
    · exact (Below.refl _ _).setCell (p := ⟨b, 0 + n * 1, none⟩) (Nat.le_refl _) _
  · intro hr v' w' hown hgrow
    obtain ⟨hl, hv⟩ := hown
    rcases hv with ⟨_, h0⟩ | ⟨g', cap', cur, rfl, hg', hh, _, _, hcs, htk⟩
    · omega
    · refine hK g' cap' w' (by omega) ?_ hgrow.size ?_ ((Below.refl b w).grown hgrow (by omega) (fun k hk => by cases hk))
      · rcases Nat.lt_or_ge g' w'.heap.size with h | h
        · exact h
        · rw [Array.getElem?_eq_none h] at hh; cases hh
      · intro j m hj
        rw [cell_of_row w' g' j cur e (0, 0) hh]
        have hjl : j < n + 1 := by
          obtain ⟨h, _⟩ := List.getElem?_eq_some_iff.1 hj
          simp at h; omega
        have : (cur.toList.take ((n + 1) * 1))[j]? = ((ns.map fun n : Nat => Value.int .u8 (n : Int)) ++ [Value.int .u8 (v : Int)])[j]? := by rw [htk]
        rw [List.getElem?_take_of_lt (by omega)] at this
        simp only [Array.getElem?_toList] at this
        rw [this, show (ns.map fun n : Nat => Value.int .u8 (n : Int)) ++ [Value.int .u8 (v : Int)] = (ns ++ [v]).map fun n : Nat => Value.int .u8 (n : Int) by simp, List.getElem?_map, hj]
        rfl

/-- 'string(b)' of a slice that reads as the bytes ns. -/
theorem run_string_of {P : Program} (w : World) (src e dst : TypeId) (hs : P.underlying src = some (.slice e)) (he : P.underlying e = some (.int .u8)) (hd : P.underlying dst = some .string) (b len cap : Nat) (ns : List Nat) (hlen : ns.length = len) (h : BytesAt w b ns) :
    (convert src dst (.slice (some ⟨b, 0, none⟩) len cap)).run P w = .ok (.string (strOfNums (ns.map fun n : Nat => (n : Int)))) w := by
  refine run_convert_bytes_arg w src e hs he b 0 len cap _ (by simpa using hlen) (fun i hi => ?_) dst hd
  have hx : ns[i]? = some (ns[i]'(by omega)) := List.getElem?_eq_getElem _
  rw [Nat.zero_add, h i _ hx]
  simp [List.getD, hx]
end Go.Proofs.Ytkjmacdekfbfhaa
