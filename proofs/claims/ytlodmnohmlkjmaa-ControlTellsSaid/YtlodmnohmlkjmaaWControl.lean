/- The laws on package control: each walk, out of the contracts of the functions that it calls. -/
import Derived.Test.YtlodmnohmlkjmaaControlP
namespace Go.Proofs.Ytlodmnohmlkjmaa
open Go.RowKit
set_option linter.unusedSimpArgs false
set_option linter.unusedVariables false
set_option maxHeartbeats 400000

def usualP : Pol := ⟨1, 10, 100, 100, 5, 3⟩
theorem usual_fit : usualP.fit := by unfold Pol.fit I64 usualP; simp
theorem usual13 (w : World) : Calls Try.prog 59 #[] w fun e w' => e = .returned (.agg #[.int .i64 1, .int .i64 10, .int .i64 100, .int .i64 100, .int .i64 5, .int .i64 3]) ∧ Below w.heap.size w w' := by
  go_enter Try.func59, Try.ntmps59
  go_wp2
  go_returns
  exact ⟨rfl, by go_grown⟩
theorem ex_want (w : World) : Calls Try.prog 16 #[.agg #[.int .i64 1, .int .i64 10, .int .i64 100, .int .i64 100, .int .i64 5, .int .i64 3], .int .i64 250] w fun e w' => e = .returned (.int .i64 3) ∧ Below w.heap.size w w' :=
  (control_Want usualP 250 w usual_fit (by unfold I64; omega)).mono fun _ _ h => by
    rw [show wantq usualP 250 = 3 by decide +kernel] at h; exact h
theorem ex_near (w : World) : Calls Try.prog 17 #[.agg #[.int .i64 1, .int .i64 10, .int .i64 100, .int .i64 100, .int .i64 5, .int .i64 3], .int .i64 219, .int .i64 2] w fun e w' => e = .returned (.bool true) ∧ Below w.heap.size w w' :=
  (control_Near usualP 219 2 w usual_fit (by unfold I64; omega)).mono fun _ _ h => by
    rw [show nearq usualP 219 2 = true by decide +kernel] at h; exact h
theorem ex_far (w : World) : Calls Try.prog 17 #[.agg #[.int .i64 1, .int .i64 10, .int .i64 100, .int .i64 100, .int .i64 5, .int .i64 3], .int .i64 221, .int .i64 2] w fun e w' => e = .returned (.bool false) ∧ Below w.heap.size w w' :=
  (control_Near usualP 221 2 w usual_fit (by unfold I64; omega)).mono fun _ _ h => by
    rw [show nearq usualP 221 2 = false by decide +kernel] at h; exact h
theorem awake13 (w : World) : Calls Try.prog 13 #[] w fun e w' => e = .returned (.bool true) ∧ Below w.heap.size w w' := by
  go_enter Try.func13, Try.ntmps13
  go_wp2_with fail
  refine (usual13 _).mono ?_
  rintro e v1 ⟨rfl, hb1⟩
  go_wp2_with fail
  refine (ex_want _).mono ?_
  rintro e v2 ⟨rfl, hb2⟩
  go_wp2_with fail
  refine (usual13 _).mono ?_
  rintro e v3 ⟨rfl, hb3⟩
  go_wp2_with fail
  refine (ex_near _).mono ?_
  rintro e v4 ⟨rfl, hb4⟩
  go_wp2_with fail
  refine (usual13 _).mono ?_
  rintro e v5 ⟨rfl, hb5⟩
  go_wp2_with fail
  refine (ex_far _).mono ?_
  rintro e v6 ⟨rfl, hb6⟩
  go_wp2_with fail
  go_ret
  refine ⟨rfl, ?_⟩
  have s1 := hb1.size; have s2 := hb2.size; have s3 := hb3.size; have s4 := hb4.size; have s5 := hb5.size
  exact ((((hb1.trans (hb2.mono (by omega))).trans (hb3.mono (by omega))).trans (hb4.mono (by omega))).trans (hb5.mono (by omega))).trans (hb6.mono (by omega))
theorem walk_ControlEnds (a0 a1 a2 a3 a4 a5 n : Int) (w : World) (h0 : I64 a0) (h1 : I64 a1) (h2 : I64 a2) (h3 : I64 a3) (h4 : I64 a4) (h5 : I64 a5) (hn : I64 n) :
    Calls Try.prog 12 #[.agg #[.int .i64 a0, .int .i64 a1, .int .i64 a2, .int .i64 a3, .int .i64 a4, .int .i64 a5], .int .i64 n] w fun e w' => e = .returned (.bool true) ∧ Below w.heap.size w w' := by
  obtain ⟨p, rfl, rfl, rfl, rfl, rfl, rfl⟩ : ∃ p : Pol, a0 = p.min ∧ a1 = p.max ∧ a2 = p.target ∧ a3 = p.tol ∧ a4 = p.window ∧ a5 = p.hold := ⟨⟨a0, a1, a2, a3, a4, a5⟩, rfl, rfl, rfl, rfl, rfl, rfl⟩
  have hp : p.fit := ⟨h0, h1, h2, h3, h4, h5⟩
  clear h0 h1 h3 h4 h5
  by_cases hk : p.okP
  · have r1 := polOk_true hk
    by_cases c1 : n < 0
    · have e1 : lowq p n = 0 := if_neg (by omega)
      have e2 : lowIs p n = false := decide_eq_false (by omega)
      have e3 : highq p n = 0 := if_neg (by omega)
      have e4 : highIs p n = false := decide_eq_false (by omega)
      clear hk
      go_enter Try.func12, Try.ntmps12
      go_wp2_with (first | (go_at_call 13; refine (awake13 _).mono ?_; rintro e v1 ⟨rfl, hb1⟩; obtain ⟨hc1, hf1⟩ := bcell hb1; have hB1 : Below w.heap.size w v1 := Below.trans (by go_grown) (hb1.mono (by first | omega | (simp; done) | (simp; omega))); have hz1 : w.heap.size < v1.heap.size := (by have := hb1.size; first | omega | (simp at this; omega)); have hs1 := hb1.size; (try simp only [World.size_alloc, World.size_setCell, World.size_drew] at hs1); clear hb1) | (go_at_call 56; refine (control_Low p n _ hp hn).mono ?_; rintro e v2 ⟨rfl, hb2⟩; obtain ⟨hc2, hf2⟩ := bcell hb2; have hB2 : Below w.heap.size w v2 := Below.trans (by go_grown) (hb2.mono (by first | omega | (simp; done) | (simp; omega))); have hz2 : w.heap.size < v2.heap.size := (by have := hb2.size; first | omega | (simp at this; omega)); have hs2 := hb2.size; (try simp only [World.size_alloc, World.size_setCell, World.size_drew] at hs2); clear hb2) | (go_at_call 57; refine (control_High p n _ hp hn).mono ?_; rintro e v3 ⟨rfl, hb3⟩; obtain ⟨hc3, hf3⟩ := bcell hb3; have hB3 : Below w.heap.size w v3 := Below.trans (by go_grown) (hb3.mono (by first | omega | (simp; done) | (simp; omega))); have hz3 : w.heap.size < v3.heap.size := (by have := hb3.size; first | omega | (simp at this; omega)); have hs3 := hb3.size; (try simp only [World.size_alloc, World.size_setCell, World.size_drew] at hs3); clear hb3) | (go_at_call 14; refine (ref_Right p _).mono ?_; rintro e v4 ⟨rfl, hb4⟩; obtain ⟨hc4, hf4⟩ := bcell hb4; have hB4 : Below w.heap.size w v4 := Below.trans (by go_grown) (hb4.mono (by first | omega | (simp; done) | (simp; omega))); have hz4 : w.heap.size < v4.heap.size := (by have := hb4.size; first | omega | (simp at this; omega)); have hs4 := hb4.size; (try simp only [World.size_alloc, World.size_setCell, World.size_drew] at hs4); clear hb4))
      go_ret
      exact ⟨rfl, by go_grown⟩
    · by_cases c2 : 1073741824 < n
      · have e1 : lowq p n = 0 := if_neg (by omega)
        have e2 : lowIs p n = false := decide_eq_false (by omega)
        have e3 : highq p n = 0 := if_neg (by omega)
        have e4 : highIs p n = false := decide_eq_false (by omega)
        clear hk
        go_enter Try.func12, Try.ntmps12
        go_wp2_with (first | (go_at_call 13; refine (awake13 _).mono ?_; rintro e v5 ⟨rfl, hb5⟩; obtain ⟨hc5, hf5⟩ := bcell hb5; have hB5 : Below w.heap.size w v5 := Below.trans (by go_grown) (hb5.mono (by first | omega | (simp; done) | (simp; omega))); have hz5 : w.heap.size < v5.heap.size := (by have := hb5.size; first | omega | (simp at this; omega)); have hs5 := hb5.size; (try simp only [World.size_alloc, World.size_setCell, World.size_drew] at hs5); clear hb5) | (go_at_call 56; refine (control_Low p n _ hp hn).mono ?_; rintro e v6 ⟨rfl, hb6⟩; obtain ⟨hc6, hf6⟩ := bcell hb6; have hB6 : Below w.heap.size w v6 := Below.trans (by go_grown) (hb6.mono (by first | omega | (simp; done) | (simp; omega))); have hz6 : w.heap.size < v6.heap.size := (by have := hb6.size; first | omega | (simp at this; omega)); have hs6 := hb6.size; (try simp only [World.size_alloc, World.size_setCell, World.size_drew] at hs6); clear hb6) | (go_at_call 57; refine (control_High p n _ hp hn).mono ?_; rintro e v7 ⟨rfl, hb7⟩; obtain ⟨hc7, hf7⟩ := bcell hb7; have hB7 : Below w.heap.size w v7 := Below.trans (by go_grown) (hb7.mono (by first | omega | (simp; done) | (simp; omega))); have hz7 : w.heap.size < v7.heap.size := (by have := hb7.size; first | omega | (simp at this; omega)); have hs7 := hb7.size; (try simp only [World.size_alloc, World.size_setCell, World.size_drew] at hs7); clear hb7) | (go_at_call 14; refine (ref_Right p _).mono ?_; rintro e v8 ⟨rfl, hb8⟩; obtain ⟨hc8, hf8⟩ := bcell hb8; have hB8 : Below w.heap.size w v8 := Below.trans (by go_grown) (hb8.mono (by first | omega | (simp; done) | (simp; omega))); have hz8 : w.heap.size < v8.heap.size := (by have := hb8.size; first | omega | (simp at this; omega)); have hs8 := hb8.size; (try simp only [World.size_alloc, World.size_setCell, World.size_drew] at hs8); clear hb8))
        go_ret
        exact ⟨rfl, by go_grown⟩
      · by_cases c3 : n = 0
        · subst c3
          have e1 : lowq p 0 = 0 := if_neg (by omega)
          have e2 : lowIs p 0 = false := decide_eq_false (by omega)
          have e3 : highq p 0 = 0 := by unfold highq; rw [if_pos ⟨hk, by omega, by omega⟩, Int.zero_mul]; decide
          have e4 : highIs p 0 = true := decide_eq_true ⟨hk, by omega, by omega⟩
          have e5 : satq 0 = 0 := by decide
          clear hk
          go_enter Try.func12, Try.ntmps12
          go_wp2_with (first | (go_at_call 13; refine (awake13 _).mono ?_; rintro e v9 ⟨rfl, hb9⟩; obtain ⟨hc9, hf9⟩ := bcell hb9; have hB9 : Below w.heap.size w v9 := Below.trans (by go_grown) (hb9.mono (by first | omega | (simp; done) | (simp; omega))); have hz9 : w.heap.size < v9.heap.size := (by have := hb9.size; first | omega | (simp at this; omega)); have hs9 := hb9.size; (try simp only [World.size_alloc, World.size_setCell, World.size_drew] at hs9); clear hb9) | (go_at_call 56; refine (control_Low p 0 _ hp hn).mono ?_; rintro e v10 ⟨rfl, hb10⟩; obtain ⟨hc10, hf10⟩ := bcell hb10; have hB10 : Below w.heap.size w v10 := Below.trans (by go_grown) (hb10.mono (by first | omega | (simp; done) | (simp; omega))); have hz10 : w.heap.size < v10.heap.size := (by have := hb10.size; first | omega | (simp at this; omega)); have hs10 := hb10.size; (try simp only [World.size_alloc, World.size_setCell, World.size_drew] at hs10); clear hb10) | (go_at_call 57; refine (control_High p 0 _ hp hn).mono ?_; rintro e v11 ⟨rfl, hb11⟩; obtain ⟨hc11, hf11⟩ := bcell hb11; have hB11 : Below w.heap.size w v11 := Below.trans (by go_grown) (hb11.mono (by first | omega | (simp; done) | (simp; omega))); have hz11 : w.heap.size < v11.heap.size := (by have := hb11.size; first | omega | (simp at this; omega)); have hs11 := hb11.size; (try simp only [World.size_alloc, World.size_setCell, World.size_drew] at hs11); clear hb11) | (go_at_call 14; refine (ref_Right p _).mono ?_; rintro e v12 ⟨rfl, hb12⟩; obtain ⟨hc12, hf12⟩ := bcell hb12; have hB12 : Below w.heap.size w v12 := Below.trans (by go_grown) (hb12.mono (by first | omega | (simp; done) | (simp; omega))); have hz12 : w.heap.size < v12.heap.size := (by have := hb12.size; first | omega | (simp at this; omega)); have hs12 := hb12.size; (try simp only [World.size_alloc, World.size_setCell, World.size_drew] at hs12); clear hb12) | (go_at_call 58; refine (ref_Mul _ _ _ hn h2).mono ?_; rintro e w1 ⟨rfl, rfl⟩))
          go_ret
          exact ⟨rfl, by go_grown⟩
        · have n1 : 1 ≤ n := by omega
          have n2 : n ≤ 1073741824 := by omega
          have n3 : decide (0 < n) = true := decide_eq_true (by omega)
          have d0 : (n == 0) = false := by simpa using c3
          have hT := hk.2.2.2.2.1
          have im : I64 (n - 1) := by unfold I64; omega
          have e1 : lowq p n = satq (satq ((n - 1) * p.target) + 1) := if_pos ⟨hk, by omega, by omega⟩
          have e2 : lowIs p n = true := decide_eq_true ⟨hk, by omega, by omega⟩
          have e3 : highq p n = satq (n * p.target) := if_pos ⟨hk, by omega, by omega⟩
          have e4 : highIs p n = true := decide_eq_true ⟨hk, by omega, by omega⟩
          have hmn : (n - 1) * p.target = n * p.target - p.target := by rw [Int.sub_mul, Int.one_mul]
          have hp0 : 0 ≤ (n - 1) * p.target := Int.mul_nonneg (by omega) (by omega)
          by_cases hx : satq (n * p.target) = 9223372036854775807
          · rw [hx] at e3
            have i2 : I64 (satq ((n - 1) * p.target)) := satq_I64 _
            clear hk c1 c2 hmn hp0 hT
            go_enter Try.func12, Try.ntmps12
            go_wp2_with (first | (go_at_call 13; refine (awake13 _).mono ?_; rintro e v13 ⟨rfl, hb13⟩; obtain ⟨hc13, hf13⟩ := bcell hb13; have hB13 : Below w.heap.size w v13 := Below.trans (by go_grown) (hb13.mono (by first | omega | (simp; done) | (simp; omega))); have hz13 : w.heap.size < v13.heap.size := (by have := hb13.size; first | omega | (simp at this; omega)); have hs13 := hb13.size; (try simp only [World.size_alloc, World.size_setCell, World.size_drew] at hs13); clear hb13) | (go_at_call 56; refine (control_Low p n _ hp hn).mono ?_; rintro e v14 ⟨rfl, hb14⟩; obtain ⟨hc14, hf14⟩ := bcell hb14; have hB14 : Below w.heap.size w v14 := Below.trans (by go_grown) (hb14.mono (by first | omega | (simp; done) | (simp; omega))); have hz14 : w.heap.size < v14.heap.size := (by have := hb14.size; first | omega | (simp at this; omega)); have hs14 := hb14.size; (try simp only [World.size_alloc, World.size_setCell, World.size_drew] at hs14); clear hb14) | (go_at_call 57; refine (control_High p n _ hp hn).mono ?_; rintro e v15 ⟨rfl, hb15⟩; obtain ⟨hc15, hf15⟩ := bcell hb15; have hB15 : Below w.heap.size w v15 := Below.trans (by go_grown) (hb15.mono (by first | omega | (simp; done) | (simp; omega))); have hz15 : w.heap.size < v15.heap.size := (by have := hb15.size; first | omega | (simp at this; omega)); have hs15 := hb15.size; (try simp only [World.size_alloc, World.size_setCell, World.size_drew] at hs15); clear hb15) | (go_at_call 14; refine (ref_Right p _).mono ?_; rintro e v16 ⟨rfl, hb16⟩; obtain ⟨hc16, hf16⟩ := bcell hb16; have hB16 : Below w.heap.size w v16 := Below.trans (by go_grown) (hb16.mono (by first | omega | (simp; done) | (simp; omega))); have hz16 : w.heap.size < v16.heap.size := (by have := hb16.size; first | omega | (simp at this; omega)); have hs16 := hb16.size; (try simp only [World.size_alloc, World.size_setCell, World.size_drew] at hs16); clear hb16) | (go_at_call 58; refine (ref_Mul _ _ _ (by assumption) (by assumption)).mono ?_; rintro e w1 ⟨rfl, rfl⟩) | (go_at_call 15; refine (ref_Add _ _ _ (by assumption) (by unfold I64; omega)).mono ?_; rintro e w1 ⟨rfl, rfl⟩))
            go_ret
            exact ⟨rfl, by go_grown⟩
          · have hlt : n * p.target < 9223372036854775807 := by unfold satq at hx; omega
            have w1 : wantq p ((n - 1) * p.target + 1) = n := want_of hk (by omega) (by omega) (by omega)
            have w2 : wantq p (n * p.target) = n := want_of hk (by omega) (by omega) (by omega)
            have w3 : wantq p ((n - 1) * p.target) = n - 1 := want_of hk (by omega) (by rw [Int.sub_mul (n - 1) 1, Int.one_mul]; omega) (Int.le_refl _)
            have w4 : wantq p (n * p.target + 1) = n + 1 := want_of hk (by omega) (by rw [show n + 1 - 1 = n by omega]; omega) (by rw [Int.add_mul, Int.one_mul]; omega)
            have s1 : satq (n * p.target) = n * p.target := satq_id (by unfold I64; omega)
            have s2 : satq ((n - 1) * p.target) = (n - 1) * p.target := satq_id (by unfold I64; omega)
            have s3 : satq ((n - 1) * p.target + 1) = (n - 1) * p.target + 1 := satq_id (by unfold I64; omega)
            rw [s2] at e1
            rw [s3] at e1
            rw [s1] at e3
            have i1 : I64 ((n - 1) * p.target) := by unfold I64; omega
            have i2 : I64 ((n - 1) * p.target + 1) := by unfold I64; omega
            have i3 : I64 (n * p.target) := by unfold I64; omega
            have i4 : I64 (n * p.target + 1) := by unfold I64; omega
            have x1 : wrap64 ((n - 1) * p.target) = (n - 1) * p.target := wrap64_id i1
            have x2 : wrap64 (n * p.target + 1) = n * p.target + 1 := wrap64_id i4
            have d1 : (n * p.target == 9223372036854775807) = false := by simp; omega
            clear hk c1 c2 hT hx hmn hp0
            go_enter Try.func12, Try.ntmps12
            go_wp2_with (first | (go_at_call 13; refine (awake13 _).mono ?_; rintro e v17 ⟨rfl, hb17⟩; obtain ⟨hc17, hf17⟩ := bcell hb17; have hB17 : Below w.heap.size w v17 := Below.trans (by go_grown) (hb17.mono (by first | omega | (simp; done) | (simp; omega))); have hz17 : w.heap.size < v17.heap.size := (by have := hb17.size; first | omega | (simp at this; omega)); have hs17 := hb17.size; (try simp only [World.size_alloc, World.size_setCell, World.size_drew] at hs17); clear hb17) | (go_at_call 56; refine (control_Low p n _ hp hn).mono ?_; rintro e v18 ⟨rfl, hb18⟩; obtain ⟨hc18, hf18⟩ := bcell hb18; have hB18 : Below w.heap.size w v18 := Below.trans (by go_grown) (hb18.mono (by first | omega | (simp; done) | (simp; omega))); have hz18 : w.heap.size < v18.heap.size := (by have := hb18.size; first | omega | (simp at this; omega)); have hs18 := hb18.size; (try simp only [World.size_alloc, World.size_setCell, World.size_drew] at hs18); clear hb18) | (go_at_call 57; refine (control_High p n _ hp hn).mono ?_; rintro e v19 ⟨rfl, hb19⟩; obtain ⟨hc19, hf19⟩ := bcell hb19; have hB19 : Below w.heap.size w v19 := Below.trans (by go_grown) (hb19.mono (by first | omega | (simp; done) | (simp; omega))); have hz19 : w.heap.size < v19.heap.size := (by have := hb19.size; first | omega | (simp at this; omega)); have hs19 := hb19.size; (try simp only [World.size_alloc, World.size_setCell, World.size_drew] at hs19); clear hb19) | (go_at_call 14; refine (ref_Right p _).mono ?_; rintro e v20 ⟨rfl, hb20⟩; obtain ⟨hc20, hf20⟩ := bcell hb20; have hB20 : Below w.heap.size w v20 := Below.trans (by go_grown) (hb20.mono (by first | omega | (simp; done) | (simp; omega))); have hz20 : w.heap.size < v20.heap.size := (by have := hb20.size; first | omega | (simp at this; omega)); have hs20 := hb20.size; (try simp only [World.size_alloc, World.size_setCell, World.size_drew] at hs20); clear hb20) | (go_at_call 58; refine (ref_Mul _ _ _ (by assumption) (by assumption)).mono ?_; rintro e w1 ⟨rfl, rfl⟩) | (go_at_call 15; refine (ref_Add _ _ _ (by assumption) (by unfold I64; omega)).mono ?_; rintro e w1 ⟨rfl, rfl⟩) | (go_at_call 16; refine (control_Want p _ _ hp (by assumption)).mono ?_; rintro e v21 ⟨rfl, hb21⟩; obtain ⟨hc21, hf21⟩ := bcell hb21; have hB21 : Below w.heap.size w v21 := Below.trans (by go_grown) (hb21.mono (by first | omega | (simp; done) | (simp; omega))); have hz21 : w.heap.size < v21.heap.size := (by have := hb21.size; first | omega | (simp at this; omega)); have hs21 := hb21.size; (try simp only [World.size_alloc, World.size_setCell, World.size_drew] at hs21); clear hb21))
            go_ret
            exact ⟨rfl, by go_grown⟩
  · have r1 := polOk_false hk
    have e1 : lowq p n = 0 := if_neg (fun h => hk h.1)
    have e2 : lowIs p n = false := decide_eq_false (fun h => hk h.1)
    have e3 : highq p n = 0 := if_neg (fun h => hk h.1)
    have e4 : highIs p n = false := decide_eq_false (fun h => hk h.1)
    clear hk
    go_enter Try.func12, Try.ntmps12
    go_wp2_with (first | (go_at_call 13; refine (awake13 _).mono ?_; rintro e v22 ⟨rfl, hb22⟩; obtain ⟨hc22, hf22⟩ := bcell hb22; have hB22 : Below w.heap.size w v22 := Below.trans (by go_grown) (hb22.mono (by first | omega | (simp; done) | (simp; omega))); have hz22 : w.heap.size < v22.heap.size := (by have := hb22.size; first | omega | (simp at this; omega)); have hs22 := hb22.size; (try simp only [World.size_alloc, World.size_setCell, World.size_drew] at hs22); clear hb22) | (go_at_call 56; refine (control_Low p n _ hp hn).mono ?_; rintro e v23 ⟨rfl, hb23⟩; obtain ⟨hc23, hf23⟩ := bcell hb23; have hB23 : Below w.heap.size w v23 := Below.trans (by go_grown) (hb23.mono (by first | omega | (simp; done) | (simp; omega))); have hz23 : w.heap.size < v23.heap.size := (by have := hb23.size; first | omega | (simp at this; omega)); have hs23 := hb23.size; (try simp only [World.size_alloc, World.size_setCell, World.size_drew] at hs23); clear hb23) | (go_at_call 57; refine (control_High p n _ hp hn).mono ?_; rintro e v24 ⟨rfl, hb24⟩; obtain ⟨hc24, hf24⟩ := bcell hb24; have hB24 : Below w.heap.size w v24 := Below.trans (by go_grown) (hb24.mono (by first | omega | (simp; done) | (simp; omega))); have hz24 : w.heap.size < v24.heap.size := (by have := hb24.size; first | omega | (simp at this; omega)); have hs24 := hb24.size; (try simp only [World.size_alloc, World.size_setCell, World.size_drew] at hs24); clear hb24) | (go_at_call 14; refine (ref_Right p _).mono ?_; rintro e v25 ⟨rfl, hb25⟩; obtain ⟨hc25, hf25⟩ := bcell hb25; have hB25 : Below w.heap.size w v25 := Below.trans (by go_grown) (hb25.mono (by first | omega | (simp; done) | (simp; omega))); have hz25 : w.heap.size < v25.heap.size := (by have := hb25.size; first | omega | (simp at this; omega)); have hs25 := hb25.size; (try simp only [World.size_alloc, World.size_setCell, World.size_drew] at hs25); clear hb25))
    go_ret
    exact ⟨rfl, by go_grown⟩
end Go.Proofs.Ytlodmnohmlkjmaa
