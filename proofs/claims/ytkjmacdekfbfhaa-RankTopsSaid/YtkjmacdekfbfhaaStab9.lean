/- slices.symMergeCmpFunc at samples; slices.stableCmpFunc at no samples. -/
import Derived.Test.YtkjmacdekfbfhaaStab8a
import Derived.Test.YtkjmacdekfbfhaaStab8b
import Derived.Test.YtkjmacdekfbfhaaStab4
namespace Go.Proofs.Ytkjmacdekfbfhaa
open Go.RowKit
set_option linter.unusedSimpArgs false
set_option linter.unusedVariables false
set_option maxHeartbeats 8000000
set_option maxRecDepth 100000
theorem slices_sym : ∀ N, SymQ N
  | 0 => fun g n c a m b P X Y Q w hN ha hm hb hX hY hn hn2 sX sY h => by omega
  | N + 1 => fun g n c a m b P X Y Q w hN ha hm hb hX hY hn hn2 sX sY h => by
    have IH := slices_sym N
    by_cases h1 : X.length = 1
    · obtain ⟨x, rfl⟩ := List.length_eq_one_iff.1 h1
      exact slices_symLeft g n c a m b P Q x Y w ha (by simpa using hm) hb hY hn hn2 sY h
    · by_cases h2 : Y.length = 1
      · obtain ⟨y, rfl⟩ := List.length_eq_one_iff.1 h2
        exact slices_symRight g n c a m b P Q y X w ha hm (by simpa using hb) (by omega) hn hn2 sX h
      · by_cases h3 : (a + b) / 2 < m
        · exact slices_symStep_a N IH g n c a m b _ _ P X Y Q w hN ha hm hb (by omega) (by omega) hn hn2 h3 rfl rfl sX sY h
        · exact slices_symStep_b N IH g n c a m b _ _ P X Y Q w hN ha hm hb (by omega) (by omega) hn hn2 h3 rfl rfl sX sY h
theorem smp_insert0 (fv : Value) (w : World) : Calls Try.prog 157 #[.slice none 0 0, .int .i64 0, .int .i64 0, fv] w fun e w' => e = .returned (.tuple #[]) ∧ w = w' := by
  go_enter Try.func157, Try.ntmps157
  go_wp2
  refine wp_loop_rounds 1 ?_
  rw [rounds_succ]
  go_wp2
  go_returns
  exact ⟨rfl, rfl⟩
theorem smp_stable0 (fv : Value) (w : World) : Calls Try.prog 125 #[.slice none 0 0, .int .i64 0, fv] w fun e w' => e = .returned (.tuple #[]) ∧ w = w' := by
  go_enter Try.func125, Try.ntmps125
  go_wp2
  refine wp_loop_rounds 1 ?_
  rw [rounds_succ]
  go_wp2_with (go_at_call 157; refine (smp_insert0 _ _).mono ?_; rintro e w1 ⟨rfl, rfl⟩)
  refine wp_loop_rounds 1 ?_
  rw [rounds_succ]
  go_wp2
  go_returns
  exact ⟨rfl, rfl⟩
theorem slices_ins (g n c a b : Nat) (P S Q L : List Smp) (w : World) (ha : a = P.length) (hb : b = a + S.length) (hn : b + Q.length = n) (hm : n ≤ 100000) (hL : P ++ isrtS geb S ++ Q = L) (h : Arr w g (P ++ S ++ Q)) :
    Calls Try.prog 157 #[.slice (some ⟨g, 0, none⟩) n c, .int .i64 a, .int .i64 b, fTop] w (SrtP w g L) := by
  subst hL; exact slices_insertion g n c a b P S Q w ha hb hn hm h
theorem slices_mrg (g n c a m b : Nat) (P X Y Q L : List Smp) (w : World) (ha : a = P.length) (hm : m = a + X.length) (hb : b = m + Y.length) (hX : 0 < X.length) (hY : 0 < Y.length) (hn : b + Q.length = n) (hn2 : n ≤ 100000) (hL : P ++ isrtS geb (X ++ Y) ++ Q = L) (h : Arr w g (P ++ isrtS geb X ++ isrtS geb Y ++ Q)) :
    Calls Try.prog 158 #[.slice (some ⟨g, 0, none⟩) n c, .int .i64 a, .int .i64 m, .int .i64 b, fTop] w (SrtP w g L) := by
  rw [isrtS_append geb_tot geb_tr] at hL
  subst hL
  exact slices_sym (b - a) g n c a m b P (isrtS geb X) (isrtS geb Y) Q w (Nat.le_refl _) ha (by rw [isrtS_len]; exact hm) (by rw [isrtS_len]; exact hb) (by rw [isrtS_len]; exact hX) (by rw [isrtS_len]; exact hY) hn hn2 (isrtS_srt geb_tot geb_tr X) (isrtS_srt geb_tot geb_tr Y) h
theorem stable_1 (g n c : Nat) (l : List Smp) (w : World) (hn : l.length = n) (h1 : n < 20) (h : Arr w g l) : Calls Try.prog 125 #[.slice (some ⟨g, 0, none⟩) n c, .int .i64 n, fTop] w (SrtP w g (isrtS geb l)) := by
  have HC := Lib.hid (slices_ins g n c 0 n [] l [] (isrtS geb l) w rfl (by omega) (by simp) (by omega) (by simp) (by simpa using h))
  have z1 : (n : Int) < 20 := by omega
  clear h h1 hn
  go_enter Try.func125, Try.ntmps125
  go_wp2
  refine wp_loop_rounds 1 ?_
  rw [rounds_succ]
  go_wp2_with fail
  with_reducible (refine Calls.mono HC.out ?_)
  rintro e w1 ⟨rfl, ha1, hu1⟩
  have A1 := Lib.hid ha1
  have U1 := Lib.hid hu1
  clear ha1 hu1
  go_wp2
  refine wp_loop_rounds 1 ?_
  rw [rounds_succ]
  go_wp2
  go_returns
  exact ⟨rfl, A1.out, U1.out⟩
end Go.Proofs.Ytkjmacdekfbfhaa
