/- Ranks, plain. -/
import Derived.Test.YtkjmacdekfbfhaaRank1
import Derived.Lib.SlKeysI
namespace Go.Proofs.Ytkjmacdekfbfhaa
open Go.RowKit
set_option linter.unusedSimpArgs false
set_option linter.unusedVariables false
def upq (l : List Int) (v : Int) : Nat := l.countP fun x => decide (x ≤ v)
theorem upq_le (l : List Int) (v : Int) : upq l v ≤ l.length := List.countP_le_length
theorem upq_next {l : List Int} {k : Nat} {x : Int} (h : l[k]? = some x) (v : Int) : upq (l.take (k + 1)) v = upq (l.take k) v + if x ≤ v then 1 else 0 := by
  rw [take_next h]; unfold upq; rw [List.countP_append]; simp [List.countP_cons]
def shareq (l : List Smp) (v : Int) : Int := if l.length = 0 then 0 else 1000 * (upq (valq l) v : Int) / (l.length : Int)
/-- What Nth hands back. -/
def nidx (n : Nat) (share : Int) : Nat := (max (ceilq (share * n) 1000) 1 - 1).toNat
def nthq (l : List Smp) (share : Int) : Int × Bool := if l.length = 0 ∨ share < 0 ∨ 1000 < share then (0, false) else ((sortI (valq l)).getD (nidx l.length share) 0, true)
theorem ceil_bd {n : Nat} {share : Int} (h0 : 0 ≤ share) (h1 : share ≤ 1000) : 0 ≤ ceilq (share * n) 1000 ∧ ceilq (share * n) 1000 ≤ n ∧ share * n ≤ 1000 * ceilq (share * n) 1000 ∧ 1000 * (ceilq (share * n) 1000 - 1) < share * n := by
  unfold ceilq
  rw [if_neg (by omega)]
  have h2 : 0 ≤ share * (n : Int) := Int.mul_nonneg h0 (by omega)
  have h3 : share * (n : Int) ≤ 1000 * n := Int.mul_le_mul_of_nonneg_right h1 (by omega)
  generalize share * (n : Int) = X at *
  omega
theorem nidx_bd {n : Nat} {share : Int} (h0 : 0 ≤ share) (h1 : share ≤ 1000) (hn : n ≠ 0) : nidx n share < n ∧ share * n ≤ 1000 * (nidx n share + 1 : Nat) ∧ (1 ≤ nidx n share → 1000 * (nidx n share : Int) < share * n) := by
  have h := ceil_bd (n := n) h0 h1
  unfold nidx
  generalize ceilq (share * n) 1000 = C at *
  generalize share * (n : Int) = X at *
  refine ⟨by omega, by push_cast; omega, fun h => by omega⟩
theorem nidx_mono {n : Nat} {s t : Int} (h : s ≤ t) : nidx n s ≤ nidx n t := by
  have h2 : s * (n : Int) ≤ t * n := Int.mul_le_mul_of_nonneg_right h (by omega)
  unfold nidx ceilq
  rw [if_neg (by omega), if_neg (by omega)]
  generalize s * (n : Int) = X at *
  generalize t * (n : Int) = Y at *
  omega
theorem sortI_sorted (l : List Int) : (sortI l).Pairwise (· ≤ ·) := by
  have h := List.pairwise_mergeSort (le := fun x y : Int => decide (x ≤ y)) (by intro a b c; simp; omega) (by intro a b; simp; omega) l
  exact h.imp (by intro a b; simp)
theorem sortI_perm (l : List Int) : (sortI l).Perm l := List.mergeSort_perm _ _
theorem upq_sort (l : List Int) (v : Int) : upq (sortI l) v = upq l v := (sortI_perm l).countP_eq _
theorem upq_ge {S : List Int} (hs : S.Pairwise (· ≤ ·)) {i : Nat} {v : Int} (h : S[i]? = some v) : i + 1 ≤ upq S v := by
  have hi : i < S.length := (List.getElem?_eq_some_iff.1 h).1
  have e : S = S.take (i + 1) ++ S.drop (i + 1) := (List.take_append_drop _ _).symm
  have h1 : upq (S.take (i + 1)) v = i + 1 := by
    unfold upq
    rw [List.countP_eq_length.2, List.length_take]; · omega
    intro x hx
    obtain ⟨j, hj⟩ := List.getElem?_of_mem hx
    have hj2 : j < i + 1 := by have := (List.getElem?_eq_some_iff.1 hj).1; rw [List.length_take] at this; omega
    rw [List.getElem?_take_of_lt hj2] at hj
    rcases Nat.lt_or_ge j i with hlt | hge
    · have := List.pairwise_iff_getElem.1 hs j i (by omega) hi hlt
      rw [List.getElem?_eq_getElem (by omega)] at hj h
      injection hj with hj; injection h with h
      simp; omega
    · obtain rfl : j = i := by omega
      rw [h] at hj; injection hj with hj; simp; omega
  have h2 : upq S v = upq (S.take (i + 1)) v + upq (S.drop (i + 1)) v := by
    unfold upq; rw [← List.countP_append, ← e]
  omega
theorem upq_lt {S : List Int} (hs : S.Pairwise (· ≤ ·)) {i : Nat} {v : Int} (h : S[i]? = some v) : upq S (v - 1) ≤ i := by
  have hi : i < S.length := (List.getElem?_eq_some_iff.1 h).1
  have e : S = S.take i ++ S.drop i := (List.take_append_drop _ _).symm
  have h1 : upq (S.drop i) (v - 1) = 0 := by
    unfold upq
    rw [List.countP_eq_zero]
    intro x hx
    obtain ⟨j, hj⟩ := List.getElem?_of_mem hx
    rw [List.getElem?_drop] at hj
    have hij : i + j < S.length := (List.getElem?_eq_some_iff.1 hj).1
    rcases Nat.eq_zero_or_pos j with rfl | hpos
    · rw [Nat.add_zero, h] at hj; injection hj with hj; simp; omega
    · have := List.pairwise_iff_getElem.1 hs i (i + j) hi hij (by omega)
      rw [List.getElem?_eq_getElem hij] at hj
      rw [List.getElem?_eq_getElem hi] at h
      injection hj with hj; injection h with h
      simp; omega
  have h2 : upq S (v - 1) = upq (S.take i) (v - 1) + upq (S.drop i) (v - 1) := by
    unfold upq; rw [← List.countP_append, ← e]
  have h3 := upq_le (S.take i) (v - 1)
  rw [List.length_take] at h3
  omega
/-- What the law asks of the Nth value. -/
structure NthOk (l : List Smp) (share n : Int) : Prop where
  lo : (sortI (valq l)).headD 0 ≤ n
  up : n ≠ (sortI (valq l)).headD 0 → 1000 * (upq (valq l) (n - 1) : Int) < share * l.length
  ge : share * l.length ≤ 1000 * (upq (valq l) n : Int)
  pos : 0 < upq (valq l) n
theorem nth_ok {l : List Smp} {share : Int} (h0 : 0 ≤ share) (h1 : share ≤ 1000) (hl : l.length ≠ 0) : NthOk l share ((sortI (valq l)).getD (nidx l.length share) 0) := by
  have hS := sortI_sorted (valq l)
  have hL : (sortI (valq l)).length = l.length := by rw [sortI_len, valq_len]
  obtain ⟨b1, b2, b3⟩ := nidx_bd h0 h1 hl
  generalize hi : nidx l.length share = i at *
  have hv : (sortI (valq l))[i]? = some ((sortI (valq l)).getD i 0) := by rw [List.getD_eq_getElem?_getD, List.getElem?_eq_getElem (by omega)]; rfl
  have u1 := upq_ge hS hv
  have u2 := upq_lt hS hv
  rw [upq_sort] at u1 u2
  generalize hn : (sortI (valq l)).getD i 0 = n at *
  have hh : (sortI (valq l))[0]? = some ((sortI (valq l)).headD 0) := by
    cases hc : sortI (valq l) with
    | nil => rw [hc] at hL; simp at hL; omega
    | cons a b => rfl
  have hlo : (sortI (valq l)).headD 0 ≤ n := by
    rcases Nat.eq_zero_or_pos i with rfl | hpos
    · rw [hh] at hv; injection hv with hv; omega
    · have := List.pairwise_iff_getElem.1 hS 0 i (by omega) (by omega) hpos
      rw [List.getElem?_eq_getElem (by omega)] at hh hv
      injection hh with hh; injection hv with hv
      omega
  refine ⟨hlo, fun hne => ?_, ?_, by omega⟩
  · have hi1 : 1 ≤ i := by
      rcases Nat.eq_zero_or_pos i with rfl | hpos
      · rw [hh] at hv; injection hv with hv; exact absurd hv.symm hne
      · exact hpos
    have := b3 hi1
    omega
  · have : (i + 1 : Nat) ≤ upq (valq l) n := u1
    omega
theorem nth_mono {l : List Smp} {s t : Int} (h0 : 0 ≤ s) (h : s ≤ t) (h1 : t ≤ 1000) (hl : l.length ≠ 0) : (sortI (valq l)).getD (nidx l.length s) 0 ≤ (sortI (valq l)).getD (nidx l.length t) 0 := by
  have hS := sortI_sorted (valq l)
  have hL : (sortI (valq l)).length = l.length := by rw [sortI_len, valq_len]
  have a := (nidx_bd h0 (by omega) hl).1
  have b := (nidx_bd (by omega) h1 hl).1
  have c := nidx_mono (n := l.length) h
  generalize nidx l.length s = i at *
  generalize nidx l.length t = j at *
  rw [List.getD_eq_getElem?_getD, List.getD_eq_getElem?_getD, List.getElem?_eq_getElem (by omega), List.getElem?_eq_getElem (by omega)]
  rcases Nat.eq_or_lt_of_le c with rfl | hlt
  · exact Int.le_refl _
  · exact List.pairwise_iff_getElem.1 hS i j (by omega) (by omega) hlt
/-- Insertion of a value behind those that are no greater. -/
def insI (x : Int) (l : List Int) : List Int := l.takeWhile (fun y => decide (y ≤ x)) ++ x :: l.dropWhile (fun y => decide (y ≤ x))
def isortI (l : List Int) : List Int := l.foldl (fun a x => insI x a) []
theorem insI_perm (x : Int) (l : List Int) : (insI x l).Perm (x :: l) := by
  unfold insI
  refine List.perm_middle.trans ?_
  rw [List.takeWhile_append_dropWhile]
theorem insI_sorted {x : Int} {l : List Int} (h : l.Pairwise (· ≤ ·)) : (insI x l).Pairwise (· ≤ ·) := by
  unfold insI
  induction l with
  | nil => simp
  | cons y l ih =>
    have hy := List.pairwise_cons.1 h
    by_cases hyx : y ≤ x
    · have e1 : (y :: l).takeWhile (fun y => decide (y ≤ x)) = y :: l.takeWhile (fun y => decide (y ≤ x)) := by simp [List.takeWhile_cons, hyx]
      have e2 : (y :: l).dropWhile (fun y => decide (y ≤ x)) = l.dropWhile (fun y => decide (y ≤ x)) := by simp [List.dropWhile_cons, hyx]
      rw [e1, e2, List.cons_append]
      refine List.pairwise_cons.2 ⟨fun z hz => ?_, ih hy.2⟩
      have : z ∈ x :: l := (insI_perm x l).mem_iff.1 hz
      rcases List.mem_cons.1 this with rfl | hz
      · exact hyx
      · exact hy.1 z hz
    · have e1 : (y :: l).takeWhile (fun y => decide (y ≤ x)) = [] := by simp [List.takeWhile_cons, hyx]
      have e2 : (y :: l).dropWhile (fun y => decide (y ≤ x)) = y :: l := by simp [List.dropWhile_cons, hyx]
      rw [e1, e2, List.nil_append]
      refine List.pairwise_cons.2 ⟨fun z hz => ?_, h⟩
      rcases List.mem_cons.1 hz with rfl | hz
      · omega
      · have := hy.1 z hz; omega
theorem isortI_both (l : List Int) : (isortI l).Perm l ∧ (isortI l).Pairwise (· ≤ ·) := by
  have key : ∀ (l a : List Int), a.Pairwise (· ≤ ·) → (l.foldl (fun a x => insI x a) a).Perm (a ++ l) ∧ (l.foldl (fun a x => insI x a) a).Pairwise (· ≤ ·) := by
    intro l
    induction l with
    | nil => intro a h; exact ⟨by simp, h⟩
    | cons x l ih =>
      intro a h
      obtain ⟨h1, h2⟩ := ih (insI x a) (insI_sorted h)
      refine ⟨h1.trans ?_, h2⟩
      exact ((insI_perm x a).append_right l).trans (by rw [List.cons_append]; exact List.perm_middle.symm)
  have := key l [] List.Pairwise.nil
  unfold isortI
  simpa using this
theorem isort_sort (l : List Int) : isortI l = sortI l := by
  obtain ⟨h1, h2⟩ := isortI_both l
  have e1 : sortI (isortI l) = isortI l := List.mergeSort_of_pairwise (h2.imp (by intro a b h; simpa using h))
  rw [← e1]
  exact Go.mergeSort_of_perm_i h1
end Go.Proofs.Ytkjmacdekfbfhaa
