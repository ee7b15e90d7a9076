/- slices.symMergeCmpFunc at samples: what stands behind the search. -/
import Derived.Test.YtkjmacdekfbfhaaStab7
namespace Go.Proofs.Ytkjmacdekfbfhaa
open Go.RowKit
set_option linter.unusedSimpArgs false
set_option linter.unusedVariables false
set_option maxHeartbeats 8000000
set_option maxRecDepth 100000
/-- What the merge is asked of two runs that lie there. -/
def SymQ (N : Nat) : Prop := ∀ (g n c a m b : Nat) (P X Y Q : List Smp) (w : World), b - a ≤ N → a = P.length → m = a + X.length → b = m + Y.length → 0 < X.length → 0 < Y.length → b + Q.length = n → n ≤ 100000 → SrtS geb X → SrtS geb Y → Arr w g (P ++ X ++ Y ++ Q) →
    Calls Try.prog 158 #[.slice (some ⟨g, 0, none⟩) n c, .int .i64 a, .int .i64 m, .int .i64 b, fTop] w (SrtP w g (P ++ mg geb X Y ++ Q))
theorem nil_of {α : Type} {l : List α} (h : l.length = 0) : l = [] := List.eq_nil_of_length_eq_zero h
/-- Behind the search: rotated, and both halves merged. -/
theorem sym_tail (N : Nat) (IH : SymQ N) (g n c a m b mid K e : Nat) (P Q X1 X2 Y1 Y2 : List Smp) (hN : b - a ≤ N + 1) (ha : a = P.length) (h1 : a ≤ K) (h2 : K ≤ m) (h3 : K ≤ mid) (h4 : e ≤ b) (he : e + K = mid + m) (hmb : m < b) (ham : a < m) (hmid : mid = (a + b) / 2) (hab : a + 2 ≤ b)
    (lX1 : X1.length = K - a) (lX2 : X2.length = m - K) (lY1 : Y1.length = mid - K) (lY2 : Y2.length = b - e) (hn : b + Q.length = n) (hn2 : n ≤ 100000) (s1 : SrtS geb X1) (s2 : SrtS geb X2) (s3 : SrtS geb Y1) (s4 : SrtS geb Y2) :
    ∃ L2 L3 : List Smp, (∀ W, K < m → K < mid → Arr W g (P ++ X1 ++ X2 ++ Y1 ++ (Y2 ++ Q)) → Calls Try.prog 174 #[.slice (some ⟨g, 0, none⟩) n c, .int .i64 K, .int .i64 m, .int .i64 e, fTop] W (SrtP W g L2)) ∧ (¬ (K < m ∧ K < mid) → P ++ X1 ++ X2 ++ Y1 ++ (Y2 ++ Q) = L2) ∧
      (∀ W, a < K → K < mid → Arr W g L2 → Calls Try.prog 158 #[.slice (some ⟨g, 0, none⟩) n c, .int .i64 a, .int .i64 K, .int .i64 mid, fTop] W (SrtP W g L3)) ∧ (¬ (a < K ∧ K < mid) → L2 = L3) ∧
      (∀ W, K < m → e < b → Arr W g L3 → Calls Try.prog 158 #[.slice (some ⟨g, 0, none⟩) n c, .int .i64 mid, .int .i64 e, .int .i64 b, fTop] W (SrtP W g (P ++ mg geb X1 Y1 ++ mg geb X2 Y2 ++ Q))) ∧ (¬ (K < m ∧ e < b) → L3 = P ++ mg geb X1 Y1 ++ mg geb X2 Y2 ++ Q) := by
  refine ⟨P ++ X1 ++ Y1 ++ (X2 ++ Y2 ++ Q), P ++ mg geb X1 Y1 ++ (X2 ++ Y2 ++ Q), fun W p1 p2 hA => ?_, fun hq => ?_, fun W p1 p2 hA => ?_, fun hq => ?_, fun W p1 p2 hA => ?_, fun hq => ?_⟩
  · refine slices_rotate g n c K m e (P ++ X1) X2 Y1 (Y2 ++ Q) _ fTop W (by rw [List.length_append]; omega) (by omega) (by omega) (by rw [List.length_append]; omega) hn2 (by omega) (by omega) ?_ hA
    simp
  · by_cases hk : K < m
    · rw [nil_of (l := Y1) (by omega)]; simp
    · rw [nil_of (l := X2) (by omega)]; simp
  · exact IH g n c a K mid P X1 Y1 (X2 ++ Y2 ++ Q) W (by omega) ha (by omega) (by omega) (by omega) (by omega) (by rw [List.length_append, List.length_append]; omega) hn2 s1 s3 hA
  · by_cases hk : a < K
    · rw [nil_of (l := Y1) (by omega), mg_nil]; simp
    · rw [nil_of (l := X1) (by omega), nil_mg]; simp
  · have hml := mg_len geb X1 Y1
    have := IH g n c mid e b (P ++ mg geb X1 Y1) X2 Y2 Q W (by omega) (by rw [List.length_append]; omega) (by omega) (by omega) (by omega) (by omega) hn hn2 s2 s4 (by simpa using hA)
    simpa using this
  · by_cases hk : K < m
    · rw [nil_of (l := Y2) (by omega), mg_nil]; simp
    · rw [nil_of (l := X2) (by omega), nil_mg]; simp
end Go.Proofs.Ytkjmacdekfbfhaa
