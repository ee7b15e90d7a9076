/- Results of trials compared: trial.Cmp, the reference's Cmp and less. -/
import Derived.Test.YtjodpffdlggjgaaGreatTrial
import Derived.Test.YtjodpffdlggjgaaGreatEqs
namespace Go.Proofs.YtjodpffdlggjgaaGreat
open Go.RowKit
set_option linter.unusedSimpArgs false
set_option linter.unusedVariables false
set_option maxHeartbeats 4000000
set_option maxRecDepth 100000

structure Res where
  A : Option Addr
  len : Nat
  cap : Nat
  ch : Int
  tn : Int
  least : Int
  most : Int
  spare : Int
  short : Int
abbrev Res.row (r : Res) : Array Value := #[.slice r.A r.len r.cap, .int .i64 r.ch, .int .i64 r.tn, .int .i64 r.least, .int .i64 r.most, .int .i64 r.spare, .int .i64 r.short]
def lessq (a b : Int) : Int := if a < b then -1 else if b < a then 1 else 0
def cmp44 (a b : Res) : Int := if a.short ≠ b.short then lessq a.short b.short else if a.spare ≠ b.spare then lessq a.spare b.spare else if a.ch ≠ b.ch then lessq a.ch b.ch else lessq a.tn b.tn
theorem ref44_less (a b : Int) (w : World) :
    Calls Tryz.prog 77 #[.int .i64 a, .int .i64 b] w fun e w' => e = .returned (.int .i64 (lessq a b)) ∧ w = w' := by
  go_enter Tryz.func77, Tryz.ntmps77
  go_wp2
  all_goals
    go_ret
    exact ⟨ret_int (by unfold lessq; first | rw [if_pos (by assumption)] | (rw [if_neg (by omega), if_pos (by assumption)]) | (rw [if_neg (by omega), if_neg (by omega)])), rfl⟩
theorem ref44_Cmp (a b : Res) (w : World) :
    Calls Tryz.prog 52 #[.agg a.row, .agg b.row] w fun e w' => e = .returned (.int .i64 (cmp44 a b)) ∧ Below w.heap.size w w' := by
  by_cases h1 : a.short = b.short
  · by_cases h2 : a.spare = b.spare
    · by_cases h3 : a.ch = b.ch
      · have HQ := Lib.hid (show cmp44 a b = lessq a.tn b.tn by unfold cmp44; rw [if_neg (by omega), if_neg (by omega), if_neg (by omega)])
        have d1 : (a.short == b.short) = true := by simpa using h1
        have d2 : (a.spare == b.spare) = true := by simpa using h2
        have d3 : (a.ch == b.ch) = true := by simpa using h3
        clear h1 h2 h3
        go_enter Tryz.func52, Tryz.ntmps52
        go_wp2_with (go_at_call 77; refine (ref44_less _ _ _).mono ?_; rintro e w1 ⟨rfl, rfl⟩)
        go_ret
        exact ⟨ret_int HQ.out.symm, by go_grown⟩
      · have HQ := Lib.hid (show cmp44 a b = lessq a.ch b.ch by unfold cmp44; rw [if_neg (by omega), if_neg (by omega), if_pos (by omega)])
        have d1 : (a.short == b.short) = true := by simpa using h1
        have d2 : (a.spare == b.spare) = true := by simpa using h2
        have d3 : (a.ch == b.ch) = false := by simpa using h3
        clear h1 h2 h3
        go_enter Tryz.func52, Tryz.ntmps52
        go_wp2_with (go_at_call 77; refine (ref44_less _ _ _).mono ?_; rintro e w1 ⟨rfl, rfl⟩)
        go_ret
        exact ⟨ret_int HQ.out.symm, by go_grown⟩
    · have HQ := Lib.hid (show cmp44 a b = lessq a.spare b.spare by unfold cmp44; rw [if_neg (by omega), if_pos (by omega)])
      have d1 : (a.short == b.short) = true := by simpa using h1
      have d2 : (a.spare == b.spare) = false := by simpa using h2
      clear h1 h2
      go_enter Tryz.func52, Tryz.ntmps52
      go_wp2_with (go_at_call 77; refine (ref44_less _ _ _).mono ?_; rintro e w1 ⟨rfl, rfl⟩)
      go_ret
      exact ⟨ret_int HQ.out.symm, by go_grown⟩
  · have HQ := Lib.hid (show cmp44 a b = lessq a.short b.short by unfold cmp44; rw [if_pos (by omega)])
    have d1 : (a.short == b.short) = false := by simpa using h1
    clear h1
    go_enter Tryz.func52, Tryz.ntmps52
    go_wp2_with (go_at_call 77; refine (ref44_less _ _ _).mono ?_; rintro e w1 ⟨rfl, rfl⟩)
    go_ret
    exact ⟨ret_int HQ.out.symm, by go_grown⟩
theorem below_alloc4 (w : World) (o1 o2 o3 o4 : Obj) : Below w.heap.size w ((((w.alloc o1).alloc o2).alloc o3).alloc o4) :=
  ((((Below.refl _ _).alloc (Nat.le_refl _) _).alloc (by simp) _).alloc (by simp; omega) _).alloc (by simp; omega) _
theorem arr44 (a0 a1 a2 a3 b0 b1 b2 b3 : Int) (b : Bool) (hb : (a0 == b0 && (a1 == b1 && (a2 == b2 && a3 == b3))) = b) :
    (∀ (W : World) (op : BinOp) (o1 o2 : Operand), (eqGuard op 100 o1 o2 (.agg #[.int .i64 a0, .int .i64 a1, .int .i64 a2, .int .i64 a3]) (.agg #[.int .i64 b0, .int .i64 b1, .int .i64 b2, .int .i64 b3])).run Tryz.prog W = .ok () W) ∧
    (∀ W : World, (binOp .eql 100 (.agg #[.int .i64 a0, .int .i64 a1, .int .i64 a2, .int .i64 a3]) (.agg #[.int .i64 b0, .int .i64 b1, .int .i64 b2, .int .i64 b3])).run Tryz.prog W = .ok (.bool b) W) :=
  have h := eq_arr_ints (t := 100) .i64 Tryz.underlying100 (by kernel_rfl) (by kernel_rfl) Tryz.underlying2 (by kernel_rfl) (by kernel_rfl) [a0, a1, a2, a3] [b0, b1, b2, b3] rfl rfl _ _ rfl rfl b (by rw [← hb]; simp [List.range, List.range.loop])
  ⟨h.1, h.2.1⟩
theorem cmp44_of (a b : Res) : (a.short == b.short && (a.spare == b.spare && (a.ch == b.ch && a.tn == b.tn))) = true → cmp44 a b = 0 := by
  intro h
  simp only [Bool.and_eq_true, beq_iff_eq] at h
  unfold cmp44 lessq
  rw [if_neg (by omega), if_neg (by omega), if_neg (by omega), if_neg (by omega), if_neg (by omega)]
set_option maxHeartbeats 8000000 in
theorem trial_Cmp (a b : Res) (w : World) :
    Calls Tryz.prog 27 #[.agg a.row, .agg b.row] w fun e w' => e = .returned (.int .i64 (cmp44 a b)) ∧ Below w.heap.size w w' := by
  by_cases hall : (a.short == b.short && (a.spare == b.spare && (a.ch == b.ch && a.tn == b.tn))) = true
  · have HQ := Lib.hid (cmp44_of a b hall)
    obtain ⟨q1, q2⟩ := arr44 a.short a.spare a.ch a.tn b.short b.spare b.ch b.tn true hall
    clear hall
    go_enter Tryz.func27, Tryz.ntmps27
    go_wp2
    go_ret
    exact ⟨ret_int HQ.out.symm, by go_grown⟩
  · have hall : (a.short == b.short && (a.spare == b.spare && (a.ch == b.ch && a.tn == b.tn))) = false := by simpa using hall
    obtain ⟨q1, q2⟩ := arr44 a.short a.spare a.ch a.tn b.short b.spare b.ch b.tn false hall
    by_cases h1 : a.short = b.short
    · by_cases h2 : a.spare = b.spare
      · by_cases h3 : a.ch = b.ch
        · have h4 : a.tn ≠ b.tn := fun h => by simp [h1, h2, h3, h] at hall
          rcases Int.lt_or_gt_of_ne h4 with h5 | h5
          · have HQ := Lib.hid (show cmp44 a b = -1 by unfold cmp44 lessq; rw [if_neg (by omega), if_neg (by omega), if_neg (by omega), if_pos h5])
            have g0 : decide (a.short < b.short) = false := by simp; omega
            have e0 : decide (b.short < a.short) = false := by simp; omega
            have g1 : decide (a.spare < b.spare) = false := by simp; omega
            have e1 : decide (b.spare < a.spare) = false := by simp; omega
            have g2 : decide (a.ch < b.ch) = false := by simp; omega
            have e2 : decide (b.ch < a.ch) = false := by simp; omega
            have g3 : decide (a.tn < b.tn) = true := by simp; omega
            clear hall h1 h5 h2 h3 h4
            go_enter Tryz.func27, Tryz.ntmps27
            go_wp2
            refine wp_loop_rounds 4 ?_
            rw [rounds_succ]
            go_wp2
            go_quiet (fail)
            go_wp2
            go_quiet (fail)
            go_wp2
            rw [rounds_succ]
            go_wp2
            go_quiet (fail)
            go_wp2
            go_quiet (fail)
            go_wp2
            rw [rounds_succ]
            go_wp2
            go_quiet (fail)
            go_wp2
            go_quiet (fail)
            go_wp2
            rw [rounds_succ]
            go_wp2
            go_quiet (fail)
            go_wp2
            go_ret
            exact ⟨ret_int HQ.out.symm, (by repeat (first | exact below_alloc4 w _ _ _ _ | refine below_drewN ?_ _))⟩
          · have HQ := Lib.hid (show cmp44 a b = 1 by unfold cmp44 lessq; rw [if_neg (by omega), if_neg (by omega), if_neg (by omega), if_neg (by omega), if_pos (by omega)])
            have g0 : decide (a.short < b.short) = false := by simp; omega
            have e0 : decide (b.short < a.short) = false := by simp; omega
            have g1 : decide (a.spare < b.spare) = false := by simp; omega
            have e1 : decide (b.spare < a.spare) = false := by simp; omega
            have g2 : decide (a.ch < b.ch) = false := by simp; omega
            have e2 : decide (b.ch < a.ch) = false := by simp; omega
            have g3 : decide (a.tn < b.tn) = false := by simp; omega
            have e3 : decide (b.tn < a.tn) = true := by simp; omega
            clear hall h1 h5 h2 h3 h4
            go_enter Tryz.func27, Tryz.ntmps27
            go_wp2
            refine wp_loop_rounds 4 ?_
            rw [rounds_succ]
            go_wp2
            go_quiet (fail)
            go_wp2
            go_quiet (fail)
            go_wp2
            rw [rounds_succ]
            go_wp2
            go_quiet (fail)
            go_wp2
            go_quiet (fail)
            go_wp2
            rw [rounds_succ]
            go_wp2
            go_quiet (fail)
            go_wp2
            go_quiet (fail)
            go_wp2
            rw [rounds_succ]
            go_wp2
            go_quiet (fail)
            go_wp2
            go_quiet (fail)
            go_wp2
            go_ret
            exact ⟨ret_int HQ.out.symm, (by repeat (first | exact below_alloc4 w _ _ _ _ | refine below_drewN ?_ _))⟩
        · rcases Int.lt_or_gt_of_ne h3 with h5 | h5
          · have HQ := Lib.hid (show cmp44 a b = -1 by unfold cmp44 lessq; rw [if_neg (by omega), if_neg (by omega), if_pos (by omega), if_pos h5])
            have g0 : decide (a.short < b.short) = false := by simp; omega
            have e0 : decide (b.short < a.short) = false := by simp; omega
            have g1 : decide (a.spare < b.spare) = false := by simp; omega
            have e1 : decide (b.spare < a.spare) = false := by simp; omega
            have g2 : decide (a.ch < b.ch) = true := by simp; omega
            clear hall h1 h5 h2 h3
            go_enter Tryz.func27, Tryz.ntmps27
            go_wp2
            refine wp_loop_rounds 3 ?_
            rw [rounds_succ]
            go_wp2
            go_quiet (fail)
            go_wp2
            go_quiet (fail)
            go_wp2
            rw [rounds_succ]
            go_wp2
            go_quiet (fail)
            go_wp2
            go_quiet (fail)
            go_wp2
            rw [rounds_succ]
            go_wp2
            go_quiet (fail)
            go_wp2
            go_ret
            exact ⟨ret_int HQ.out.symm, (by repeat (first | exact below_alloc4 w _ _ _ _ | refine below_drewN ?_ _))⟩
          · have HQ := Lib.hid (show cmp44 a b = 1 by unfold cmp44 lessq; rw [if_neg (by omega), if_neg (by omega), if_pos (by omega), if_neg (by omega), if_pos (by omega)])
            have g0 : decide (a.short < b.short) = false := by simp; omega
            have e0 : decide (b.short < a.short) = false := by simp; omega
            have g1 : decide (a.spare < b.spare) = false := by simp; omega
            have e1 : decide (b.spare < a.spare) = false := by simp; omega
            have g2 : decide (a.ch < b.ch) = false := by simp; omega
            have e2 : decide (b.ch < a.ch) = true := by simp; omega
            clear hall h1 h5 h2 h3
            go_enter Tryz.func27, Tryz.ntmps27
            go_wp2
            refine wp_loop_rounds 3 ?_
            rw [rounds_succ]
            go_wp2
            go_quiet (fail)
            go_wp2
            go_quiet (fail)
            go_wp2
            rw [rounds_succ]
            go_wp2
            go_quiet (fail)
            go_wp2
            go_quiet (fail)
            go_wp2
            rw [rounds_succ]
            go_wp2
            go_quiet (fail)
            go_wp2
            go_quiet (fail)
            go_wp2
            go_ret
            exact ⟨ret_int HQ.out.symm, (by repeat (first | exact below_alloc4 w _ _ _ _ | refine below_drewN ?_ _))⟩
      · rcases Int.lt_or_gt_of_ne h2 with h5 | h5
        · have HQ := Lib.hid (show cmp44 a b = -1 by unfold cmp44 lessq; rw [if_neg (by omega), if_pos (by omega), if_pos h5])
          have g0 : decide (a.short < b.short) = false := by simp; omega
          have e0 : decide (b.short < a.short) = false := by simp; omega
          have g1 : decide (a.spare < b.spare) = true := by simp; omega
          clear hall h1 h5 h2
          go_enter Tryz.func27, Tryz.ntmps27
          go_wp2
          refine wp_loop_rounds 2 ?_
          rw [rounds_succ]
          go_wp2
          go_quiet (fail)
          go_wp2
          go_quiet (fail)
          go_wp2
          rw [rounds_succ]
          go_wp2
          go_quiet (fail)
          go_wp2
          go_ret
          exact ⟨ret_int HQ.out.symm, (by repeat (first | exact below_alloc4 w _ _ _ _ | refine below_drewN ?_ _))⟩
        · have HQ := Lib.hid (show cmp44 a b = 1 by unfold cmp44 lessq; rw [if_neg (by omega), if_pos (by omega), if_neg (by omega), if_pos (by omega)])
          have g0 : decide (a.short < b.short) = false := by simp; omega
          have e0 : decide (b.short < a.short) = false := by simp; omega
          have g1 : decide (a.spare < b.spare) = false := by simp; omega
          have e1 : decide (b.spare < a.spare) = true := by simp; omega
          clear hall h1 h5 h2
          go_enter Tryz.func27, Tryz.ntmps27
          go_wp2
          refine wp_loop_rounds 2 ?_
          rw [rounds_succ]
          go_wp2
          go_quiet (fail)
          go_wp2
          go_quiet (fail)
          go_wp2
          rw [rounds_succ]
          go_wp2
          go_quiet (fail)
          go_wp2
          go_quiet (fail)
          go_wp2
          go_ret
          exact ⟨ret_int HQ.out.symm, (by repeat (first | exact below_alloc4 w _ _ _ _ | refine below_drewN ?_ _))⟩
    · rcases Int.lt_or_gt_of_ne h1 with h5 | h5
      · have HQ := Lib.hid (show cmp44 a b = -1 by unfold cmp44 lessq; rw [if_pos (by omega), if_pos h5])
        have g0 : decide (a.short < b.short) = true := by simp; omega
        clear hall h1 h5
        go_enter Tryz.func27, Tryz.ntmps27
        go_wp2
        refine wp_loop_rounds 1 ?_
        rw [rounds_succ]
        go_wp2
        go_quiet (fail)
        go_wp2
        go_ret
        exact ⟨ret_int HQ.out.symm, (by repeat (first | exact below_alloc4 w _ _ _ _ | refine below_drewN ?_ _))⟩
      · have HQ := Lib.hid (show cmp44 a b = 1 by unfold cmp44 lessq; rw [if_pos (by omega), if_neg (by omega), if_pos (by omega)])
        have g0 : decide (a.short < b.short) = false := by simp; omega
        have e0 : decide (b.short < a.short) = true := by simp; omega
        clear hall h1 h5
        go_enter Tryz.func27, Tryz.ntmps27
        go_wp2
        refine wp_loop_rounds 1 ?_
        rw [rounds_succ]
        go_wp2
        go_quiet (fail)
        go_wp2
        go_quiet (fail)
        go_wp2
        go_ret
        exact ⟨ret_int HQ.out.symm, (by repeat (first | exact below_alloc4 w _ _ _ _ | refine below_drewN ?_ _))⟩
end Go.Proofs.YtjodpffdlggjgaaGreat
