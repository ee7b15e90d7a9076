/- Handles, plain: what a table knows against the list of epochs (for HandlePlays). -/
import Derived.Test.YtkjmacdekfbfhaaLive
import Derived.Test.YtkjmacdekfbfhaaFree20
namespace Go.Proofs.Ytkjmacdekfbfhaa
open Go.RowKit
set_option linter.unusedSimpArgs false
set_option linter.unusedVariables false
theorem liveq_put (E : List Int) {e : Int} (h : 0 ≤ e) : liveq (E ++ [e]) = liveq E + 1 := by
  unfold liveq; rw [List.filter_append]; simp [h]
theorem liveq_set : ∀ (E : List Int) (m : Nat) (x : Int), E[m]? = some x → 0 ≤ x → liveq (E.set m (-1)) = liveq E - 1
  | [], m, x, h, _ => by simp at h
  | y :: E, 0, x, h, hx => by
    simp at h; subst h
    unfold liveq; rw [List.set_cons_zero, List.filter_cons_of_neg (by simp), List.filter_cons_of_pos (by simpa using hx)]; simp
  | y :: E, m + 1, x, h, hx => by
    have ih := liveq_set E m x (by simpa using h) hx
    unfold liveq at *
    rw [List.set_cons_succ]
    by_cases hy : 0 ≤ y
    · rw [List.filter_cons_of_pos (by simpa using hy), List.filter_cons_of_pos (by simpa using hy)]; simp; omega
    · rw [List.filter_cons_of_neg (by simpa using hy), List.filter_cons_of_neg (by simpa using hy)]; exact ih
/-- fp knows just the epochs that are there. -/
def FpOf (fp : Int → Option Nat) (E : List Int) : Prop := ∀ n : Int, fp n = none ↔ findq E n ≠ 0
theorem find_of {fp : Int → Option Nat} {E : List Int} (h : FpOf fp E) (n : Int) : ferr fp ((E.length : Int) + 1) n = findq E n := by
  have h1 := h n
  unfold ferr
  by_cases c : n < 1 ∨ (E.length : Int) < n
  · rw [if_pos (by omega)]; unfold findq; rw [if_pos c]
  · rw [if_neg (by omega)]
    unfold findq at h1 ⊢
    rw [if_neg c] at h1 ⊢
    by_cases d : (E[(n - 1).toNat]?).getD 0 < 0
    · rw [if_pos d] at h1 ⊢; rw [if_pos (h1.2 (by decide))]
    · rw [if_neg d] at h1 ⊢; rw [if_neg (fun e => h1.1 e rfl)]
/-- The numbers that are there, rising. -/
def liveNs : Nat → List Int → List Int
  | _, [] => []
  | k, e :: E => if 0 ≤ e then ((k : Int) + 1) :: liveNs (k + 1) E else liveNs (k + 1) E
theorem liveNs_mem : ∀ (E : List Int) (k : Nat) (x : Int), x ∈ liveNs k E ↔ ∃ i : Nat, x = (k : Int) + i + 1 ∧ ∃ e, E[i]? = some e ∧ 0 ≤ e
  | [], k, x => by simp [liveNs]
  | e :: E, k, x => by
    have ih := liveNs_mem E (k + 1) x
    unfold liveNs
    constructor
    · intro h
      by_cases he : 0 ≤ e
      · rw [if_pos he] at h
        rcases List.mem_cons.1 h with rfl | h
        · exact ⟨0, by simp, e, by simp, he⟩
        · obtain ⟨i, h1, e', h2, h3⟩ := ih.1 h; exact ⟨i + 1, by omega, e', by simpa using h2, h3⟩
      · rw [if_neg he] at h
        obtain ⟨i, h1, e', h2, h3⟩ := ih.1 h; exact ⟨i + 1, by omega, e', by simpa using h2, h3⟩
    · rintro ⟨i, h1, e', h2, h3⟩
      cases i with
      | zero => simp at h2; subst h2; rw [if_pos h3]; simp at h1; simp [h1]
      | succ i =>
        have : x ∈ liveNs (k + 1) E := ih.2 ⟨i, by omega, e', by simpa using h2, h3⟩
        split
        · exact List.mem_cons_of_mem _ this
        · exact this
theorem liveNs_sorted : ∀ (E : List Int) (k : Nat), (liveNs k E).Pairwise (· < ·)
  | [], k => by simp [liveNs]
  | e :: E, k => by
    unfold liveNs
    split
    · refine List.pairwise_cons.2 ⟨fun x hx => ?_, liveNs_sorted E (k + 1)⟩
      obtain ⟨i, h1, -⟩ := (liveNs_mem E (k + 1) x).1 hx
      omega
    · exact liveNs_sorted E (k + 1)
theorem liveNs_snoc : ∀ (E : List Int) (k : Nat) (e : Int), liveNs k (E ++ [e]) = liveNs k E ++ (if 0 ≤ e then [(k : Int) + E.length + 1] else [])
  | [], k, e => by simp [liveNs]
  | y :: E, k, e => by
    rw [List.cons_append]; unfold liveNs; rw [liveNs_snoc E (k + 1) e]
    have h : ((k + 1 : Nat) : Int) + (E.length : Int) + 1 = (k : Int) + ((y :: E).length : Int) + 1 := by simp; omega
    rw [h]; split <;> simp
theorem perm_sorted_eq : ∀ (l m : List Int), l.Pairwise (· ≤ ·) → m.Pairwise (· ≤ ·) → l.Perm m → l = m := fun l m h1 h2 hp => hp.eq_of_pairwise (fun a b _ _ h1 h2 => Int.le_antisymm h1 h2) h1 h2
theorem srt_live {ks : List Int} {E : List Int} (hp : ks.Perm (liveNs 0 E)) : srt ks = liveNs 0 E := by
  refine perm_sorted_eq _ _ ?_ ((liveNs_sorted E 0).imp Int.le_of_lt) ((List.mergeSort_perm _ _).trans hp)
  have h := List.pairwise_mergeSort (le := fun x y : Int => decide (x ≤ y)) (by simp; omega) (by simp; omega) ks
  exact h.imp (by simp)
theorem findq_zero (E : List Int) (x : Int) : findq E x = 0 ↔ x ∈ liveNs 0 E := by
  rw [liveNs_mem]
  unfold findq
  constructor
  · intro h
    by_cases c : x < 1 ∨ (E.length : Int) < x
    · rw [if_pos c] at h; omega
    rw [if_neg c] at h
    have hl : (x - 1).toNat < E.length := by omega
    rw [List.getElem?_eq_getElem hl] at h
    refine ⟨(x - 1).toNat, by omega, _, List.getElem?_eq_getElem hl, ?_⟩
    by_cases d : E[(x - 1).toNat] < 0
    · rw [Option.getD_some, if_pos d] at h; exact absurd h (by decide)
    · omega
  · rintro ⟨i, h1, e, h2, h3⟩
    have hl := (List.getElem?_eq_some_iff.1 h2).1
    rw [if_neg (by omega), show (x - 1).toNat = i by omega, h2]
    simp; omega
theorem ks_perm {ks : List Int} {fp : Int → Option Nat} {E : List Int} (hn : ks.Nodup) (hm : ∀ x, x ∈ ks ↔ fp x ≠ none) (h : FpOf fp E) : ks.Perm (liveNs 0 E) :=
  (List.perm_ext_iff_of_nodup hn ((liveNs_sorted E 0).imp (fun h => by omega))).2 fun x => by
    rw [hm x, ← findq_zero, Ne, h x]; exact Decidable.not_not
theorem liveNs_len : ∀ (E : List Int) (k : Nat), ((liveNs k E).length : Int) = liveq E
  | [], k => rfl
  | e :: E, k => by
    have ih := liveNs_len E (k + 1)
    rw [liveNs]
    unfold liveq at *
    by_cases h : 0 ≤ e
    · rw [if_pos h, List.filter_cons_of_pos (by simpa using h)]; simp; omega
    · rw [if_neg h, List.filter_cons_of_neg (by simpa using h)]; exact ih
theorem ks_len {ks : List Int} {fp : Int → Option Nat} {E : List Int} (hn : ks.Nodup) (hm : ∀ x, x ∈ ks ↔ fp x ≠ none) (h : FpOf fp E) : (ks.length : Int) = liveq E := by
  rw [(ks_perm hn hm h).length_eq]; exact liveNs_len E 0
theorem FpOf.nil : FpOf (fun _ => none) [] := fun n => by
  unfold findq
  rw [if_pos (by simp; omega)]; simp
theorem FpOf.put {fp : Int → Option Nat} {E : List Int} (h : FpOf fp E) {e : Int} (he : 0 ≤ e) (g : Nat) : FpOf (fpPut fp ((E.length : Int) + 1) g) (E ++ [e]) := fun n => by
  have h1 := h n
  unfold fpPut
  unfold findq at h1 ⊢
  rw [List.length_append]
  by_cases c : n = (E.length : Int) + 1
  · subst c
    rw [if_pos rfl, if_neg (by simp; omega), show ((E.length : Int) + 1 - 1).toNat = E.length by omega]
    simp; omega
  · rw [if_neg c, h1]
    by_cases d : n < 1 ∨ (E.length : Int) < n
    · rw [if_pos d, if_pos (by simp; omega)]
    · have d2 : ¬ (n < 1 ∨ ((E.length + [e].length : Nat) : Int) < n) := by simp only [List.length_cons, List.length_nil]; omega
      rw [if_neg d, if_neg d2, List.getElem?_append_left (by omega)]
theorem FpOf.del {fp : Int → Option Nat} {E : List Int} (h : FpOf fp E) {m : Nat} (hm : m < E.length) : FpOf (fpDel fp ((m : Int) + 1)) (E.set m (-1)) := fun n => by
  have h1 := h n
  unfold fpDel
  unfold findq at h1 ⊢
  rw [List.length_set]
  by_cases c : n = (m : Int) + 1
  · subst c
    rw [if_pos rfl, if_neg (by omega), show ((m : Int) + 1 - 1).toNat = m by omega, List.getElem?_set_self hm]
    simp
  · rw [if_neg c, h1]
    by_cases d : n < 1 ∨ (E.length : Int) < n
    · rw [if_pos d, if_pos d]
    · rw [if_neg d, if_neg d, List.getElem?_set_ne (by omega)]
end Go.Proofs.Ytkjmacdekfbfhaa
