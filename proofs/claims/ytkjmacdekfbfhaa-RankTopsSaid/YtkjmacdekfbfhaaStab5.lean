/- The symmetric merge: where both runs are parted (plain facts, no program in sight). -/
import Derived.Test.YtkjmacdekfbfhaaStab3
namespace Go.Proofs.Ytkjmacdekfbfhaa
open Go.RowKit
set_option linter.unusedSimpArgs false
set_option linter.unusedVariables false
/-- A falling test over an interval ends at one place. -/
theorem mono_split (f : Nat → Bool) : ∀ (d lo hi : Nat), hi = lo + d → (∀ c c', lo ≤ c → c ≤ c' → c' < hi → f c' = true → f c = true) → ∃ K, lo ≤ K ∧ K ≤ hi ∧ ∀ c, lo ≤ c → c < hi → f c = decide (c < K)
  | 0, lo, hi, h, _ => ⟨lo, Nat.le_refl _, by omega, fun c h1 h2 => by omega⟩
  | d + 1, lo, hi, h, hm => by
    obtain ⟨K, h1, h2, h3⟩ := mono_split f d lo (lo + d) rfl (fun c c' p1 p2 p3 p4 => hm c c' p1 p2 (by omega) p4)
    cases hf : f (lo + d)
    · refine ⟨K, h1, by omega, fun c p1 p2 => ?_⟩
      by_cases e : c = lo + d
      · subst e; rw [hf]; symm; simpa using h2
      · exact h3 c p1 (by omega)
    · refine ⟨lo + d + 1, by omega, by omega, fun c p1 p2 => ?_⟩
      rw [hm c (lo + d) p1 (by omega) (by omega) hf]; symm; simp; omega
theorem geb_refl (x : Smp) : geb x x = true := by unfold geb; simp
theorem srt_at {X : List Smp} (h : SrtS geb X) {i j : Nat} {x y : Smp} (hij : i ≤ j) (hx : X[i]? = some x) (hy : X[j]? = some y) : geb x y = true := by
  by_cases e : i = j
  · subst e; rw [hx] at hy; cases hy; exact geb_refl x
  · obtain ⟨h1, rfl⟩ := List.getElem?_eq_some_iff.1 hx
    obtain ⟨h2, rfl⟩ := List.getElem?_eq_some_iff.1 hy
    exact List.pairwise_iff_getElem.1 h i j h1 h2 (by omega)
/-- One sample laid into a run: ahead of it those of greater values. -/
theorem left_split (x : Smp) (Y : List Smp) (m b : Nat) (hb : b = m + Y.length) (hY : SrtS geb Y) :
    ∃ K, m ≤ K ∧ K ≤ b ∧ (∀ c, m ≤ c → c < b → ∃ y, Y[c - m]? = some y ∧ geb x y = !decide (c < K)) ∧ mg geb [x] Y = Y.take (K - m) ++ x :: Y.drop (K - m) := by
  obtain ⟨K, h1, h2, h3⟩ := mono_split (fun c => !((Y[c - m]?).elim true fun y => geb x y)) Y.length m b hb (fun c c' p1 p2 p3 p4 => by
    obtain ⟨y, hy⟩ : ∃ y, Y[c - m]? = some y := ⟨_, List.getElem?_eq_getElem (by omega)⟩
    obtain ⟨y', hy'⟩ : ∃ y, Y[c' - m]? = some y := ⟨_, List.getElem?_eq_getElem (by omega)⟩
    simp only [hy, hy', Option.elim] at p4 ⊢
    simp only [Bool.not_eq_true'] at p4 ⊢
    cases h : geb x y
    · rfl
    · rw [geb_tr _ _ _ h (srt_at hY (by omega) hy hy')] at p4; cases p4)
  have key : ∀ c, m ≤ c → c < b → ∃ y, Y[c - m]? = some y ∧ geb x y = !decide (c < K) := fun c p1 p2 => by
    have hy : Y[c - m]? = some (Y[c - m]'(by omega)) := List.getElem?_eq_getElem (by omega)
    have := h3 c p1 p2
    simp only [hy, Option.elim] at this
    exact ⟨_, hy, by rw [← this]; simp⟩
  refine ⟨K, h1, h2, key, ?_⟩
  conv => lhs; rw [← List.take_append_drop (K - m) Y]
  refine mg_one geb (fun y hy => ?_) (fun y hy => ?_)
  · obtain ⟨i, hi⟩ := List.getElem?_of_mem hy
    rw [List.getElem?_take] at hi
    split at hi
    · obtain ⟨y', h4, h5⟩ := key (m + i) (by omega) (by omega)
      rw [show m + i - m = i by omega, hi] at h4
      cases h4
      rw [h5]; simp; omega
    · cases hi
  · obtain ⟨i, hi⟩ := List.getElem?_of_mem hy
    rw [List.getElem?_drop] at hi
    have hlt := (List.getElem?_eq_some_iff.1 hi).1
    obtain ⟨y', h4, h5⟩ := key (K + i) (by omega) (by omega)
    rw [show K + i - m = K - m + i by omega, hi] at h4
    cases h4
    rw [h5]; simp
theorem right_split (y : Smp) (X : List Smp) (a m : Nat) (hm : m = a + X.length) (hX : SrtS geb X) :
    ∃ K, a ≤ K ∧ K ≤ m ∧ (∀ c, a ≤ c → c < m → ∃ x, X[c - a]? = some x ∧ geb x y = decide (c < K)) ∧ mg geb X [y] = X.take (K - a) ++ y :: X.drop (K - a) := by
  obtain ⟨K, h1, h2, h3⟩ := mono_split (fun c => (X[c - a]?).elim true fun x => geb x y) X.length a m hm (fun c c' p1 p2 p3 p4 => by
    obtain ⟨x, hx⟩ : ∃ x, X[c - a]? = some x := ⟨_, List.getElem?_eq_getElem (by omega)⟩
    obtain ⟨x', hx'⟩ : ∃ x, X[c' - a]? = some x := ⟨_, List.getElem?_eq_getElem (by omega)⟩
    simp only [hx, hx', Option.elim] at p4 ⊢
    exact geb_tr _ _ _ (srt_at hX (by omega) hx hx') p4)
  have key : ∀ c, a ≤ c → c < m → ∃ x, X[c - a]? = some x ∧ geb x y = decide (c < K) := fun c p1 p2 => by
    have hx : X[c - a]? = some (X[c - a]'(by omega)) := List.getElem?_eq_getElem (by omega)
    have := h3 c p1 p2
    simp only [hx, Option.elim] at this
    exact ⟨_, hx, this⟩
  refine ⟨K, h1, h2, key, ?_⟩
  conv => lhs; rw [← List.take_append_drop (K - a) X]
  refine mg_last geb (fun x hx => ?_) (fun x hx => ?_)
  · obtain ⟨i, hi⟩ := List.getElem?_of_mem hx
    rw [List.getElem?_take] at hi
    split at hi
    · obtain ⟨x', h4, h5⟩ := key (a + i) (by omega) (by omega)
      rw [show a + i - a = i by omega, hi] at h4
      cases h4
      rw [h5]; simp; omega
    · cases hi
  · obtain ⟨i, hi⟩ := List.getElem?_of_mem hx
    rw [List.getElem?_drop] at hi
    have hlt := (List.getElem?_eq_some_iff.1 hi).1
    obtain ⟨x', h4, h5⟩ := key (K + i) (by omega) (by omega)
    rw [show K + i - a = K - a + i by omega, hi] at h4
    cases h4
    rw [h5]; simp
/-- Both runs parted symmetrically. -/
theorem sym_split (X Y : List Smp) (a m b mid n lo hi : Nat) (hX : m = a + X.length) (hY : b = m + Y.length) (h1 : a < m) (h2 : m < b) (hmid : mid = (a + b) / 2) (hn : n = mid + m)
    (hbr : (mid < m ∧ lo = n - b ∧ hi = mid) ∨ (m ≤ mid ∧ lo = a ∧ hi = m)) (sX : SrtS geb X) (sY : SrtS geb Y) :
    ∃ K, (lo ≤ K ∧ K ≤ hi ∧ a ≤ K ∧ K ≤ m ∧ K ≤ mid ∧ n ≤ b + K) ∧ (∀ c, lo ≤ c → c < hi → ∃ x y, X[c - a]? = some x ∧ Y[n - 1 - c - m]? = some y ∧ geb x y = decide (c < K)) ∧
      ∃ X1 X2 Y1 Y2, X = X1 ++ X2 ∧ Y = Y1 ++ Y2 ∧ X1.length = K - a ∧ X2.length = m - K ∧ Y1.length = mid - K ∧ Y2.length = b + K - n ∧ mg geb X Y = mg geb X1 Y1 ++ mg geb X2 Y2 := by
  have hb1 : a ≤ lo := by omega
  have hb2 : hi ≤ m := by omega
  have hb3 : hi ≤ mid := by omega
  have hb4 : n ≤ b + lo := by omega
  have hlh : lo ≤ hi := by omega
  obtain ⟨K, k1, k2, k3⟩ := mono_split (fun c => (X[c - a]?).elim true fun x => (Y[n - 1 - c - m]?).elim true fun y => geb x y) (hi - lo) lo hi (by omega) (fun c c' p1 p2 p3 p4 => by
    have hx : X[c - a]? = some (X[c - a]'(by omega)) := List.getElem?_eq_getElem (by omega)
    have hx' : X[c' - a]? = some (X[c' - a]'(by omega)) := List.getElem?_eq_getElem (by omega)
    have hy : Y[n - 1 - c - m]? = some (Y[n - 1 - c - m]'(by omega)) := List.getElem?_eq_getElem (by omega)
    have hy' : Y[n - 1 - c' - m]? = some (Y[n - 1 - c' - m]'(by omega)) := List.getElem?_eq_getElem (by omega)
    simp only [hx, hx', hy, hy', Option.elim] at p4 ⊢
    exact geb_tr _ _ _ (geb_tr _ _ _ (srt_at sX (by omega) hx hx') p4) (srt_at sY (by omega) hy' hy))
  have key : ∀ c, lo ≤ c → c < hi → ∃ x y, X[c - a]? = some x ∧ Y[n - 1 - c - m]? = some y ∧ geb x y = decide (c < K) := fun c p1 p2 => by
    have hx : X[c - a]? = some (X[c - a]'(by omega)) := List.getElem?_eq_getElem (by omega)
    have hy : Y[n - 1 - c - m]? = some (Y[n - 1 - c - m]'(by omega)) := List.getElem?_eq_getElem (by omega)
    have := k3 c p1 p2
    simp only [hx, hy, Option.elim] at this
    exact ⟨_, _, hx, hy, this⟩
  refine ⟨K, ⟨k1, k2, by omega, by omega, by omega, by omega⟩, key, X.take (K - a), X.drop (K - a), Y.take (mid - K), Y.drop (mid - K), (List.take_append_drop _ _).symm, (List.take_append_drop _ _).symm, by rw [List.length_take]; omega, by rw [List.length_drop]; omega, by rw [List.length_take]; omega, by rw [List.length_drop]; omega, ?_⟩
  conv => lhs; rw [← List.take_append_drop (K - a) X, ← List.take_append_drop (mid - K) Y]
  refine mg_split geb _ _ (fun x hx y hy => ?_) (fun x hx y hy => ?_)
  · obtain ⟨i, hi1⟩ := List.getElem?_of_mem hx
    obtain ⟨j, hj1⟩ := List.getElem?_of_mem hy
    rw [List.getElem?_drop] at hi1
    rw [List.getElem?_take] at hj1
    have hil := (List.getElem?_eq_some_iff.1 hi1).1
    split at hj1
    · have hjl := (List.getElem?_eq_some_iff.1 hj1).1
      obtain ⟨x', y', h4, h5, h6⟩ := key K k1 (by omega)
      cases hg : geb x y
      · rfl
      · have t1 := srt_at sX (show K - a ≤ K - a + i by omega) h4 hi1
        have t2 := srt_at sY (show j ≤ n - 1 - K - m by omega) hj1 h5
        have := geb_tr _ _ _ (geb_tr _ _ _ t1 hg) t2
        rw [h6] at this; simp at this
    · cases hj1
  · obtain ⟨i, hi1⟩ := List.getElem?_of_mem hx
    obtain ⟨j, hj1⟩ := List.getElem?_of_mem hy
    rw [List.getElem?_take] at hi1
    rw [List.getElem?_drop] at hj1
    have hjl := (List.getElem?_eq_some_iff.1 hj1).1
    split at hi1
    · obtain ⟨x', y', h4, h5, h6⟩ := key (K - 1) (by omega) (by omega)
      have t1 := srt_at sX (show i ≤ K - 1 - a by omega) hi1 h4
      have t2 := srt_at sY (show n - 1 - (K - 1) - m ≤ mid - K + j by omega) h5 hj1
      have h7 : geb x' y' = true := by rw [h6]; simp; omega
      exact geb_tr _ _ _ (geb_tr _ _ _ t1 h7) t2
    · cases hi1
end Go.Proofs.Ytkjmacdekfbfhaa
