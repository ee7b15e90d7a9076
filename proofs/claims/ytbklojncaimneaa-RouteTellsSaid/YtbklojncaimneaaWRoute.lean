/- The laws on package route: each walk, out of the contracts of the functions that it calls. -/
import Derived.Test.YtbklojncaimneaaRoute
namespace Go.Proofs.Ytbklojncaimneaa
open Go.RowKit
set_option linter.unusedSimpArgs false
set_option linter.unusedVariables false
set_option maxHeartbeats 400000

theorem i64_small {n : Int} (h : -100 ≤ n ∧ n ≤ 100) : I64 n := by unfold I64; omega
theorem ex_bits (w : World) : Calls Try.prog 38 #[.int .i64 8] w fun e w' => e = .returned (.int .i64 3) ∧ w = w' :=
  (route_Bits 8 w (i64_small (by omega))).mono fun _ _ h => h
theorem ex_right (w : World) : Calls Try.prog 37 #[.int .i64 6] w fun e w' => e = .returned (.bool false) ∧ w = w' :=
  (route_Right 6 w (i64_small (by omega))).mono fun _ _ h => h
theorem ex_of (w : World) : Calls Try.prog 36 #[.agg #[.int .u64 9, .int .u64 0], .int .i64 1] w fun e w' => e = .returned (.int .i64 0) ∧ Below w.heap.size w w' :=
  (route_Of 9 0 1 w (i64_small (by omega)) (by omega) (by omega)).mono fun _ _ h => by
    have := ofq_bd 9 0 1
    have e : ofq 9 0 1 = 0 := by have := this.2.2 (by decide); omega
    rw [e] at h; exact h
theorem awake05 (w : World) : Calls Try.prog 34 #[] w fun e w' => e = .returned (.bool true) ∧ Below w.heap.size w w' := by
  go_enter Try.func34, Try.ntmps34
  go_wp2_with (first | (go_at_call 38; refine (ex_bits _).mono ?_; rintro e w1 ⟨rfl, rfl⟩) | (go_at_call 37; refine (ex_right _).mono ?_; rintro e w1 ⟨rfl, rfl⟩) | (go_at_call 36; refine (ex_of _).mono ?_; rintro e w1 ⟨rfl, hb⟩))
  go_ret
  exact ⟨rfl, hb⟩
theorem walk_RouteTells (hi lo n : Int) (w : World) (h1 : U64 hi) (h2 : U64 lo) (hn : I64 n) :
    Calls Try.prog 9 #[.agg #[.int .u64 hi, .int .u64 lo], .int .i64 n] w fun e w' => e = .returned (.bool true) ∧ Below w.heap.size w w' := by
  obtain ⟨x, rfl⟩ := Int.eq_ofNat_of_zero_le h1.1
  obtain ⟨y, rfl⟩ := Int.eq_ofNat_of_zero_le h2.1
  have hx : x < 18446744073709551616 := by have := h1.2; omega
  have hy : y < 18446744073709551616 := by have := h2.2; omega
  clear h1 h2
  have bd := ofq_bd x y n
  have b0 := (bitsq_bd n).1
  have b6 := (bitsq_bd n).2
  by_cases h : rightq n = true
  · obtain ⟨b1, b2⟩ := bd.2.2 h
    have e2 : rbitsq n = bitsq n := by unfold rbitsq; rw [h]; rfl
    clear bd
    go_enter Try.func9, Try.ntmps9
    go_wp2_with (go_at_call 34; refine (awake05 _).mono ?_; rintro e w1 ⟨rfl, hb1⟩; have q0 := (hb1.cell (p := ⟨w.heap.size, 0, none⟩) (by simp)).trans (cell_new_row w _ _ _ 0); have q1 := (hb1.cell (p := ⟨w.heap.size, 1, none⟩) (by simp)).trans (cell_new_row w _ _ _ 1); have z1 : w.heap.size < w1.heap.size := (by have := hb1.size; simp at this; omega); simp at q0 q1)
    go_wp2_with (first | (go_at_call 35; refine (ref_Bits _ _ hn).mono ?_; rintro e w1 ⟨rfl, rfl⟩) | (go_at_call 36; refine (route_Of x y n _ hn hx hy).mono ?_; rintro e w2 ⟨rfl, hb2⟩; have p0 := (hb2.cell (p := ⟨w.heap.size, 0, none⟩) z1).trans q0; have p1 := (hb2.cell (p := ⟨w.heap.size, 1, none⟩) z1).trans q1) | (go_at_call 37; refine (route_Right _ _ hn).mono ?_; rintro e w1 ⟨rfl, rfl⟩) | (go_at_call 38; refine (route_Bits _ _ hn).mono ?_; rintro e w1 ⟨rfl, rfl⟩) | (go_at_call 39; refine (ref_Of x y n _ hn hx hy).mono ?_; rintro e w3 ⟨rfl, hb3⟩))
    go_ret
    refine ⟨rfl, ?_⟩
    have c1 := ((Below.refl w.heap.size w).alloc (Nat.le_refl _) _).trans (hb1.mono (by simp))
    exact (c1.trans (hb2.mono (Nat.le_of_lt z1))).trans (hb3.mono (Nat.le_trans (Nat.le_of_lt z1) hb2.size))
  · have h' : rightq n = false := by simpa using h
    have e2 : rbitsq n = -1 := by unfold rbitsq; rw [h']; rfl
    have e3 : ofq x y n = -1 := by unfold ofq; rw [h']; rfl
    have e4 : bitsq n = 0 := by
      unfold rightq at h'; simp at h'
      unfold bitsq; simp [h']
    clear bd b0 b6 h
    go_enter Try.func9, Try.ntmps9
    go_wp2_with (go_at_call 34; refine (awake05 _).mono ?_; rintro e w1 ⟨rfl, hb1⟩; have q0 := (hb1.cell (p := ⟨w.heap.size, 0, none⟩) (by simp)).trans (cell_new_row w _ _ _ 0); have q1 := (hb1.cell (p := ⟨w.heap.size, 1, none⟩) (by simp)).trans (cell_new_row w _ _ _ 1); have z1 : w.heap.size < w1.heap.size := (by have := hb1.size; simp at this; omega); simp at q0 q1)
    go_wp2_with (first | (go_at_call 35; refine (ref_Bits _ _ hn).mono ?_; rintro e w1 ⟨rfl, rfl⟩) | (go_at_call 36; refine (route_Of x y n _ hn hx hy).mono ?_; rintro e w2 ⟨rfl, hb2⟩; have p0 := (hb2.cell (p := ⟨w.heap.size, 0, none⟩) z1).trans q0; have p1 := (hb2.cell (p := ⟨w.heap.size, 1, none⟩) z1).trans q1) | (go_at_call 37; refine (route_Right _ _ hn).mono ?_; rintro e w1 ⟨rfl, rfl⟩) | (go_at_call 38; refine (route_Bits _ _ hn).mono ?_; rintro e w1 ⟨rfl, rfl⟩) | (go_at_call 39; refine (ref_Of x y n _ hn hx hy).mono ?_; rintro e w3 ⟨rfl, hb3⟩))
    go_ret
    refine ⟨rfl, ?_⟩
    have c1 := ((Below.refl w.heap.size w).alloc (Nat.le_refl _) _).trans (hb1.mono (by simp))
    exact (c1.trans (hb2.mono (Nat.le_of_lt z1))).trans (hb3.mono (Nat.le_trans (Nat.le_of_lt z1) hb2.size))
end Go.Proofs.Ytbklojncaimneaa
