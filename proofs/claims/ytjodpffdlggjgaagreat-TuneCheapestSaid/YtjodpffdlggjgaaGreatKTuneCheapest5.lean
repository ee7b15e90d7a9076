/- Several texts in one. -/
import Derived.Test.YtjodpffdlggjgaaGreatTrial
import Derived.WalkMore
import Derived.Test.YtjodpffdlggjgaaGreatRegG
import Derived.Test.YtjodpffdlggjgaaGreatEqs
import Derived.Test.YtjodpffdlggjgaaGreatKeep
import Derived.Test.YtjodpffdlggjgaaGreatKTuneCheapest3
import Derived.Deep.CutRange
import Derived.StillTailTactics
import Derived.Test.YtjodpffdlggjgaaGreatKTuneCheapest4
import Derived.Test.YtjodpffdlggjgaaGreatRegT
import Derived.Test.YtjodpffdlggjgaaGreatRegL
/- Lists of api.Advice: how often they turn. -/
namespace Go.Proofs.YtjodpffdlggjgaaGreat
open Go.RowKit
set_option linter.unusedSimpArgs false
set_option linter.unusedVariables false
set_option maxHeartbeats 4000000
set_option maxRecDepth 100000

/-- Among the first k numbers of r: the turns so far, and the way (0, 1, -1). -/
def turnq (r : Nat → Int) : Nat → Nat × Int
  | 0 => (0, 0)
  | 1 => (0, 0)
  | k + 2 =>
    if r (k + 1) = r k then turnq r (k + 1)
    else if r k < r (k + 1) then ((turnq r (k + 1)).1 + if (turnq r (k + 1)).2 = -1 then 1 else 0, 1)
    else ((turnq r (k + 1)).1 + if (turnq r (k + 1)).2 = 1 then 1 else 0, -1)
theorem turnq_le (r : Nat → Int) (k : Nat) : (turnq r k).1 ≤ k := by
  match k with
  | 0 => simp [turnq]
  | 1 => simp [turnq]
  | k + 2 => have := turnq_le r (k + 1); unfold turnq; split <;> (try split) <;> (try simp only) <;> (try split) <;> omega
theorem turnq_way (r : Nat → Int) (k : Nat) : (turnq r k).2 = 0 ∨ (turnq r k).2 = 1 ∨ (turnq r k).2 = -1 := by
  match k with
  | 0 => simp [turnq]
  | 1 => simp [turnq]
  | k + 2 =>
    have := turnq_way r (k + 1)
    unfold turnq
    split
    · exact this
    · split <;> simp
theorem turn_eq {r : Nat → Int} {k : Nat} (h : r (k + 1) = r k) : turnq r (k + 2) = turnq r (k + 1) := by
  show (if r (k + 1) = r k then _ else _) = _
  rw [if_pos h]
theorem turn_up {r : Nat → Int} {k T : Nat} {W : Int} (h : r k < r (k + 1)) (e : turnq r (k + 1) = (T, W)) : turnq r (k + 2) = (T + if W = -1 then 1 else 0, 1) := by
  show (if r (k + 1) = r k then _ else _) = _
  rw [if_neg (by omega), if_pos h, e]
theorem turn_down {r : Nat → Int} {k T : Nat} {W : Int} (h : r (k + 1) < r k) (e : turnq r (k + 1) = (T, W)) : turnq r (k + 2) = (T + if W = 1 then 1 else 0, -1) := by
  show (if r (k + 1) = r k then _ else _) = _
  rw [if_neg (by omega), if_neg (by omega), e]
theorem steady_Turns (A : Option Addr) (len cap : Nat) (l : List Adv) (w : World) (hs : AdvsAre w A len cap l) (hn : len ≤ 1000) :
    Calls Tryz.prog 54 #[.slice A len cap] w fun e w' => e = .returned (.int .i64 ((turnq (replAt l) len).1 : Nat)) ∧ Below w.heap.size w w' := by
  have HS := Lib.hid hs
  clear hs
  go_enter Tryz.func54, Tryz.ntmps54
  go_wp2
  go_step3
  go_wp2
  go_step3
  go_wp2
  go_loopw [3, 4, 5] (fun tn wy i wr => ∃ k T : Nat, ∃ W : Int, (k = 0 ∨ k < len) ∧ i = .int .i64 ((k + 1 : Nat) : Int) ∧ tn = .int .i64 (T : Int) ∧ wy = .int .i64 W ∧ turnq (replAt l) (k + 1) = (T, W) ∧ Below w.heap.size w wr) (fun _ _ i _ => len - (intOf i).toNat)
  case atStart => exact ⟨0, 0, 0, .inl rfl, rfl, rfl, rfl, rfl, Below.refl _ _⟩
  case round =>
    obtain ⟨k, T, W, hk, rfl, rfl, rfl, hT, hbel⟩ := hrel
    by_cases hlt : k + 1 < len
    · obtain ⟨b, off, x, rfl, hx, hb, t0, t1, t2, t3, t4⟩ := HS.out.at_ (show k < len by omega)
      obtain ⟨b2, off2, y, hab, hy, hb2, s0, s1, s2, s3, s4⟩ := HS.out.at_ hlt
      cases hab
      have HX := Lib.hid (replAt_eq hx)
      have HY := Lib.hid (replAt_eq hy)
      have kt := (hbel.cell (p := ⟨b, off + k * 5 + 3, none⟩) hb).trans t3
      have ks := (hbel.cell (p := ⟨b, off + (k + 1) * 5 + 3, none⟩) hb).trans s3
      have hkl : (k : Int) < (len : Int) := by omega
      have hki : (k : Int) + 1 < (len : Int) := by omega
      have hle := turnq_le (replAt l) (k + 1)
      have hW := turnq_way (replAt l) (k + 1)
      rw [hT] at hle hW
      simp only at hle hW
      have HT := Lib.hid hT
      clear hx hy hb hb2 t0 t1 t2 t3 t4 s0 s1 s2 s3 s4 hT
      rcases Int.lt_trichotomy y.repl x.repl with hxy | hxy | hxy
      · have d1 : (y.repl == x.repl) = false := by simp; omega
        have d2 : decide (x.repl < y.repl) = false := by simp; omega
        have HN := Lib.hid (turn_down (by rw [HX.out, HY.out]; exact hxy) HT.out)
        clear hxy
        rcases hW with rfl | rfl | rfl
        all_goals
          go_wp2
          go_quiet (fail)
          go_wp2
          go_quiet (fail)
          go_wp2
          go_roundw
          case rel => exact ⟨k + 1, _, _, .inr hlt, by go_num, by go_num, rfl, HN.out, below_drewN hbel _⟩
          case measure => simp [intOf]; omega
      · have d1 : (y.repl == x.repl) = true := by simp; omega
        have HN := Lib.hid ((turn_eq (by rw [HX.out, HY.out]; exact hxy)).trans HT.out)
        clear hxy
        go_wp2
        go_quiet (fail)
        go_wp2
        go_roundw
        case rel => exact ⟨k + 1, _, _, .inr hlt, by go_num, rfl, rfl, HN.out, below_drewN hbel _⟩
        case measure => simp [intOf]; omega
      · have d1 : (y.repl == x.repl) = false := by simp; omega
        have d2 : decide (x.repl < y.repl) = true := by simp; omega
        have HN := Lib.hid (turn_up (by rw [HX.out, HY.out]; exact hxy) HT.out)
        clear hxy
        rcases hW with rfl | rfl | rfl
        all_goals
          go_wp2
          go_quiet (fail)
          go_wp2
          go_quiet (fail)
          go_wp2
          go_roundw
          case rel => exact ⟨k + 1, _, _, .inr hlt, by go_num, by go_num, rfl, HN.out, below_drewN hbel _⟩
          case measure => simp [intOf]; omega
    · go_wp2
      rw [Exit.noGoto_ret]
      go_ret
      refine ⟨?_, hbel⟩
      rcases hk with rfl | hk
      · cases hT
        rcases (show len = 0 ∨ len = 1 by omega) with rfl | rfl <;> rfl
      · exact ret_int (by rw [show len = k + 1 by omega, hT])
end Go.Proofs.YtjodpffdlggjgaaGreat
/- Results of trials compared: trial.Cmp, the reference's Cmp and less. -/
namespace Go.Proofs.YtjodpffdlggjgaaGreat
open Go.RowKit
set_option linter.unusedSimpArgs false
set_option linter.unusedVariables false
set_option maxHeartbeats 4000000
set_option maxRecDepth 100000

structure Res where
  A : Option Addr
  len : Nat
  cap : Nat
  ch : Int
  tn : Int
  least : Int
  most : Int
  spare : Int
  short : Int
abbrev Res.row (r : Res) : Array Value := #[.slice r.A r.len r.cap, .int .i64 r.ch, .int .i64 r.tn, .int .i64 r.least, .int .i64 r.most, .int .i64 r.spare, .int .i64 r.short]
def lessq (a b : Int) : Int := if a < b then -1 else if b < a then 1 else 0
def cmp44 (a b : Res) : Int := if a.short ≠ b.short then lessq a.short b.short else if a.spare ≠ b.spare then lessq a.spare b.spare else if a.ch ≠ b.ch then lessq a.ch b.ch else lessq a.tn b.tn
theorem ref44_less (a b : Int) (w : World) :
    Calls Tryz.prog 77 #[.int .i64 a, .int .i64 b] w fun e w' => e = .returned (.int .i64 (lessq a b)) ∧ w = w' := by
  go_enter Tryz.func77, Tryz.ntmps77
  go_wp2
  all_goals
    go_ret
    exact ⟨ret_int (by unfold lessq; first | rw [if_pos (by assumption)] | (rw [if_neg (by omega), if_pos (by assumption)]) | (rw [if_neg (by omega), if_neg (by omega)])), rfl⟩
theorem ref44_Cmp (a b : Res) (w : World) :
    Calls Tryz.prog 52 #[.agg a.row, .agg b.row] w fun e w' => e = .returned (.int .i64 (cmp44 a b)) ∧ Below w.heap.size w w' := by
  by_cases h1 : a.short = b.short
  · by_cases h2 : a.spare = b.spare
    · by_cases h3 : a.ch = b.ch
      · have HQ := Lib.hid (show cmp44 a b = lessq a.tn b.tn by unfold cmp44; rw [if_neg (by omega), if_neg (by omega), if_neg (by omega)])
        have d1 : (a.short == b.short) = true := by simpa using h1
        have d2 : (a.spare == b.spare) = true := by simpa using h2
        have d3 : (a.ch == b.ch) = true := by simpa using h3
        clear h1 h2 h3
        go_enter Tryz.func52, Tryz.ntmps52
        go_wp2_with (go_at_call 77; refine (ref44_less _ _ _).mono ?_; rintro e w1 ⟨rfl, rfl⟩)
        go_ret
        exact ⟨ret_int HQ.out.symm, by go_grown⟩
      · have HQ := Lib.hid (show cmp44 a b = lessq a.ch b.ch by unfold cmp44; rw [if_neg (by omega), if_neg (by omega), if_pos (by omega)])
        have d1 : (a.short == b.short) = true := by simpa using h1
        have d2 : (a.spare == b.spare) = true := by simpa using h2
        have d3 : (a.ch == b.ch) = false := by simpa using h3
        clear h1 h2 h3
        go_enter Tryz.func52, Tryz.ntmps52
        go_wp2_with (go_at_call 77; refine (ref44_less _ _ _).mono ?_; rintro e w1 ⟨rfl, rfl⟩)
        go_ret
        exact ⟨ret_int HQ.out.symm, by go_grown⟩
    · have HQ := Lib.hid (show cmp44 a b = lessq a.spare b.spare by unfold cmp44; rw [if_neg (by omega), if_pos (by omega)])
      have d1 : (a.short == b.short) = true := by simpa using h1
      have d2 : (a.spare == b.spare) = false := by simpa using h2
      clear h1 h2
      go_enter Tryz.func52, Tryz.ntmps52
      go_wp2_with (go_at_call 77; refine (ref44_less _ _ _).mono ?_; rintro e w1 ⟨rfl, rfl⟩)
      go_ret
      exact ⟨ret_int HQ.out.symm, by go_grown⟩
  · have HQ := Lib.hid (show cmp44 a b = lessq a.short b.short by unfold cmp44; rw [if_pos (by omega)])
    have d1 : (a.short == b.short) = false := by simpa using h1
    clear h1
    go_enter Tryz.func52, Tryz.ntmps52
    go_wp2_with (go_at_call 77; refine (ref44_less _ _ _).mono ?_; rintro e w1 ⟨rfl, rfl⟩)
    go_ret
    exact ⟨ret_int HQ.out.symm, by go_grown⟩
theorem below_alloc4 (w : World) (o1 o2 o3 o4 : Obj) : Below w.heap.size w ((((w.alloc o1).alloc o2).alloc o3).alloc o4) :=
  ((((Below.refl _ _).alloc (Nat.le_refl _) _).alloc (by simp) _).alloc (by simp; omega) _).alloc (by simp; omega) _
theorem arr44 (a0 a1 a2 a3 b0 b1 b2 b3 : Int) (b : Bool) (hb : (a0 == b0 && (a1 == b1 && (a2 == b2 && a3 == b3))) = b) :
    (∀ (W : World) (op : BinOp) (o1 o2 : Operand), (eqGuard op 100 o1 o2 (.agg #[.int .i64 a0, .int .i64 a1, .int .i64 a2, .int .i64 a3]) (.agg #[.int .i64 b0, .int .i64 b1, .int .i64 b2, .int .i64 b3])).run Tryz.prog W = .ok () W) ∧
    (∀ W : World, (binOp .eql 100 (.agg #[.int .i64 a0, .int .i64 a1, .int .i64 a2, .int .i64 a3]) (.agg #[.int .i64 b0, .int .i64 b1, .int .i64 b2, .int .i64 b3])).run Tryz.prog W = .ok (.bool b) W) :=
  have h := eq_arr_ints (t := 100) .i64 Tryz.underlying100 (by kernel_rfl) (by kernel_rfl) Tryz.underlying2 (by kernel_rfl) (by kernel_rfl) [a0, a1, a2, a3] [b0, b1, b2, b3] rfl rfl _ _ rfl rfl b (by rw [← hb]; simp [List.range, List.range.loop])
  ⟨h.1, h.2.1⟩
theorem cmp44_of (a b : Res) : (a.short == b.short && (a.spare == b.spare && (a.ch == b.ch && a.tn == b.tn))) = true → cmp44 a b = 0 := by
  intro h
  simp only [Bool.and_eq_true, beq_iff_eq] at h
  unfold cmp44 lessq
  rw [if_neg (by omega), if_neg (by omega), if_neg (by omega), if_neg (by omega), if_neg (by omega)]
set_option maxHeartbeats 8000000 in
theorem trial_Cmp (a b : Res) (w : World) :
    Calls Tryz.prog 27 #[.agg a.row, .agg b.row] w fun e w' => e = .returned (.int .i64 (cmp44 a b)) ∧ Below w.heap.size w w' := by
  by_cases hall : (a.short == b.short && (a.spare == b.spare && (a.ch == b.ch && a.tn == b.tn))) = true
  · have HQ := Lib.hid (cmp44_of a b hall)
    obtain ⟨q1, q2⟩ := arr44 a.short a.spare a.ch a.tn b.short b.spare b.ch b.tn true hall
    clear hall
    go_enter Tryz.func27, Tryz.ntmps27
    go_wp2
    go_ret
    exact ⟨ret_int HQ.out.symm, by go_grown⟩
  · have hall : (a.short == b.short && (a.spare == b.spare && (a.ch == b.ch && a.tn == b.tn))) = false := by simpa using hall
    obtain ⟨q1, q2⟩ := arr44 a.short a.spare a.ch a.tn b.short b.spare b.ch b.tn false hall
    by_cases h1 : a.short = b.short
    · by_cases h2 : a.spare = b.spare
      · by_cases h3 : a.ch = b.ch
        · have h4 : a.tn ≠ b.tn := fun h => by simp [h1, h2, h3, h] at hall
          rcases Int.lt_or_gt_of_ne h4 with h5 | h5
          · have HQ := Lib.hid (show cmp44 a b = -1 by unfold cmp44 lessq; rw [if_neg (by omega), if_neg (by omega), if_neg (by omega), if_pos h5])
            have g0 : decide (a.short < b.short) = false := by simp; omega
            have e0 : decide (b.short < a.short) = false := by simp; omega
            have g1 : decide (a.spare < b.spare) = false := by simp; omega
            have e1 : decide (b.spare < a.spare) = false := by simp; omega
            have g2 : decide (a.ch < b.ch) = false := by simp; omega
            have e2 : decide (b.ch < a.ch) = false := by simp; omega
            have g3 : decide (a.tn < b.tn) = true := by simp; omega
            clear hall h1 h5 h2 h3 h4
            go_enter Tryz.func27, Tryz.ntmps27
            go_wp2
            refine wp_loop_rounds 4 ?_
            rw [rounds_succ]
            go_wp2
            go_quiet (fail)
            go_wp2
            go_quiet (fail)
            go_wp2
            rw [rounds_succ]
            go_wp2
            go_quiet (fail)
            go_wp2
            go_quiet (fail)
            go_wp2
            rw [rounds_succ]
            go_wp2
            go_quiet (fail)
            go_wp2
            go_quiet (fail)
            go_wp2
            rw [rounds_succ]
            go_wp2
            go_quiet (fail)
            go_wp2
            go_ret
            exact ⟨ret_int HQ.out.symm, (by repeat (first | exact below_alloc4 w _ _ _ _ | refine below_drewN ?_ _))⟩
          · have HQ := Lib.hid (show cmp44 a b = 1 by unfold cmp44 lessq; rw [if_neg (by omega), if_neg (by omega), if_neg (by omega), if_neg (by omega), if_pos (by omega)])
            have g0 : decide (a.short < b.short) = false := by simp; omega
            have e0 : decide (b.short < a.short) = false := by simp; omega
            have g1 : decide (a.spare < b.spare) = false := by simp; omega
            have e1 : decide (b.spare < a.spare) = false := by simp; omega
            have g2 : decide (a.ch < b.ch) = false := by simp; omega
            have e2 : decide (b.ch < a.ch) = false := by simp; omega
            have g3 : decide (a.tn < b.tn) = false := by simp; omega
            have e3 : decide (b.tn < a.tn) = true := by simp; omega
            clear hall h1 h5 h2 h3 h4
            go_enter Tryz.func27, Tryz.ntmps27
            go_wp2
            refine wp_loop_rounds 4 ?_
            rw [rounds_succ]
            go_wp2
            go_quiet (fail)
            go_wp2
            go_quiet (fail)
            go_wp2
            rw [rounds_succ]
            go_wp2
            go_quiet (fail)
            go_wp2
            go_quiet (fail)
            go_wp2
            rw [rounds_succ]
            go_wp2
            go_quiet (fail)
            go_wp2
            go_quiet (fail)
            go_wp2
            rw [rounds_succ]
            go_wp2
            go_quiet (fail)
            go_wp2
            go_quiet (fail)
            go_wp2
            go_ret
            exact ⟨ret_int HQ.out.symm, (by repeat (first | exact below_alloc4 w _ _ _ _ | refine below_drewN ?_ _))⟩
        · rcases Int.lt_or_gt_of_ne h3 with h5 | h5
          · have HQ := Lib.hid (show cmp44 a b = -1 by unfold cmp44 lessq; rw [if_neg (by omega), if_neg (by omega), if_pos (by omega), if_pos h5])
            have g0 : decide (a.short < b.short) = false := by simp; omega
            have e0 : decide (b.short < a.short) = false := by simp; omega
            have g1 : decide (a.spare < b.spare) = false := by simp; omega
            have e1 : decide (b.spare < a.spare) = false := by simp; omega
            have g2 : decide (a.ch < b.ch) = true := by simp; omega
            clear hall h1 h5 h2 h3
            go_enter Tryz.func27, Tryz.ntmps27
            go_wp2
            refine wp_loop_rounds 3 ?_
            rw [rounds_succ]
            go_wp2
            go_quiet (fail)
            go_wp2
            go_quiet (fail)
            go_wp2
            rw [rounds_succ]
            go_wp2
            go_quiet (fail)
            go_wp2
            go_quiet (fail)
            go_wp2
            rw [rounds_succ]
            go_wp2
            go_quiet (fail)
            go_wp2
            go_ret
            exact ⟨ret_int HQ.out.symm, (by repeat (first | exact below_alloc4 w _ _ _ _ | refine below_drewN ?_ _))⟩
          · have HQ := Lib.hid (show cmp44 a b = 1 by unfold cmp44 lessq; rw [if_neg (by omega), if_neg (by omega), if_pos (by omega), if_neg (by omega), if_pos (by omega)])
            have g0 : decide (a.short < b.short) = false := by simp; omega
            have e0 : decide (b.short < a.short) = false := by simp; omega
            have g1 : decide (a.spare < b.spare) = false := by simp; omega
            have e1 : decide (b.spare < a.spare) = false := by simp; omega
            have g2 : decide (a.ch < b.ch) = false := by simp; omega
            have e2 : decide (b.ch < a.ch) = true := by simp; omega
            clear hall h1 h5 h2 h3
            go_enter Tryz.func27, Tryz.ntmps27
            go_wp2
            refine wp_loop_rounds 3 ?_
            rw [rounds_succ]
            go_wp2
            go_quiet (fail)
            go_wp2
            go_quiet (fail)
            go_wp2
            rw [rounds_succ]
            go_wp2
            go_quiet (fail)
            go_wp2
            go_quiet (fail)
            go_wp2
            rw [rounds_succ]
            go_wp2
            go_quiet (fail)
            go_wp2
            go_quiet (fail)
            go_wp2
            go_ret
            exact ⟨ret_int HQ.out.symm, (by repeat (first | exact below_alloc4 w _ _ _ _ | refine below_drewN ?_ _))⟩
      · rcases Int.lt_or_gt_of_ne h2 with h5 | h5
        · have HQ := Lib.hid (show cmp44 a b = -1 by unfold cmp44 lessq; rw [if_neg (by omega), if_pos (by omega), if_pos h5])
          have g0 : decide (a.short < b.short) = false := by simp; omega
          have e0 : decide (b.short < a.short) = false := by simp; omega
          have g1 : decide (a.spare < b.spare) = true := by simp; omega
          clear hall h1 h5 h2
          go_enter Tryz.func27, Tryz.ntmps27
          go_wp2
          refine wp_loop_rounds 2 ?_
          rw [rounds_succ]
          go_wp2
          go_quiet (fail)
          go_wp2
          go_quiet (fail)
          go_wp2
          rw [rounds_succ]
          go_wp2
          go_quiet (fail)
          go_wp2
          go_ret
          exact ⟨ret_int HQ.out.symm, (by repeat (first | exact below_alloc4 w _ _ _ _ | refine below_drewN ?_ _))⟩
        · have HQ := Lib.hid (show cmp44 a b = 1 by unfold cmp44 lessq; rw [if_neg (by omega), if_pos (by omega), if_neg (by omega), if_pos (by omega)])
          have g0 : decide (a.short < b.short) = false := by simp; omega
          have e0 : decide (b.short < a.short) = false := by simp; omega
          have g1 : decide (a.spare < b.spare) = false := by simp; omega
          have e1 : decide (b.spare < a.spare) = true := by simp; omega
          clear hall h1 h5 h2
          go_enter Tryz.func27, Tryz.ntmps27
          go_wp2
          refine wp_loop_rounds 2 ?_
          rw [rounds_succ]
          go_wp2
          go_quiet (fail)
          go_wp2
          go_quiet (fail)
          go_wp2
          rw [rounds_succ]
          go_wp2
          go_quiet (fail)
          go_wp2
          go_quiet (fail)
          go_wp2
          go_ret
          exact ⟨ret_int HQ.out.symm, (by repeat (first | exact below_alloc4 w _ _ _ _ | refine below_drewN ?_ _))⟩
    · rcases Int.lt_or_gt_of_ne h1 with h5 | h5
      · have HQ := Lib.hid (show cmp44 a b = -1 by unfold cmp44 lessq; rw [if_pos (by omega), if_pos h5])
        have g0 : decide (a.short < b.short) = true := by simp; omega
        clear hall h1 h5
        go_enter Tryz.func27, Tryz.ntmps27
        go_wp2
        refine wp_loop_rounds 1 ?_
        rw [rounds_succ]
        go_wp2
        go_quiet (fail)
        go_wp2
        go_ret
        exact ⟨ret_int HQ.out.symm, (by repeat (first | exact below_alloc4 w _ _ _ _ | refine below_drewN ?_ _))⟩
      · have HQ := Lib.hid (show cmp44 a b = 1 by unfold cmp44 lessq; rw [if_pos (by omega), if_neg (by omega), if_pos (by omega)])
        have g0 : decide (a.short < b.short) = false := by simp; omega
        have e0 : decide (b.short < a.short) = true := by simp; omega
        clear hall h1 h5
        go_enter Tryz.func27, Tryz.ntmps27
        go_wp2
        refine wp_loop_rounds 1 ?_
        rw [rounds_succ]
        go_wp2
        go_quiet (fail)
        go_wp2
        go_quiet (fail)
        go_wp2
        go_ret
        exact ⟨ret_int HQ.out.symm, (by repeat (first | exact below_alloc4 w _ _ _ _ | refine below_drewN ?_ _))⟩
end Go.Proofs.YtjodpffdlggjgaaGreat
/- trial.Judge. -/
namespace Go.Proofs.YtjodpffdlggjgaaGreat
open Go.RowKit
set_option linter.unusedSimpArgs false
set_option linter.unusedVariables false
set_option maxHeartbeats 4000000
set_option maxRecDepth 100000

structure J4 where
  least : Int
  most : Int
  spare : Int
  short : Int
def leftq (T : Int) (x : Adv) : Int := satq (satq (x.repl * T) - x.load)
def j4step (T : Int) (i : Nat) (s : J4) (x : Adv) : J4 :=
  ⟨if i = 0 then x.repl else min s.least x.repl, if i = 0 then x.repl else max s.most x.repl, if 0 ≤ leftq T x then satq (s.spare + leftq T x) else s.spare, if 0 ≤ leftq T x then s.short else satq (s.short + satq (0 - leftq T x))⟩
def j4 (T : Int) (l : List Adv) : Nat → J4
  | 0 => ⟨0, 0, 0, 0⟩
  | k + 1 => match l[k]? with
    | some x => j4step T k (j4 T l k) x
    | none => j4 T l k
theorem j4_succ {T : Int} {l : List Adv} {k : Nat} {x : Adv} (h : l[k]? = some x) : j4 T l (k + 1) = j4step T k (j4 T l k) x := by
  show (match l[k]? with | some x => j4step T k (j4 T l k) x | none => j4 T l k) = _
  rw [h]
theorem info_advJ : (Tryz.prog.info? 68).map (fun i => (i.zero, i.size, i.bytes)) = some (some (.agg #[.int .i64 0, .int .i64 0, .int .i64 0, .int .i64 0, .int .i64 0]), 5, 40) := by kernel_rfl
abbrev OwnJ (w : World) (base : Nat) (v : Value) (l : List Adv) : Prop := Own w base 68 5 Adv.cells v l
theorem adv_oneJ : ∀ x : Adv, ∀ u ∈ x.cells, u.oneCell' = true := by
  intro x u hu
  simp [Adv.cells] at hu
  rcases hu with rfl | rfl | rfl | rfl | rfl <;> rfl
theorem cat_adv {ops : Array Oper} {rest : List Oper} {o : Oper} {a : Act} {Q : Exit → Act → World → Prop} (w : World) (hgd : o.guard = none) (s x : Operand)
    (ho : o.op = .call { callee := .builtin .append, args := #[s, x], argTypes := #[26, 26] }) (base : Nat) (v : Value) (l : List Adv) (hs : a.eval s = v) (hown : OwnJ w base v l)
    (A : Option Addr) (m c : Nat) (ys : List Adv) (hx : a.eval x = .slice A m c) (hys : AdvsAre w A m c ys) (hlen : l.length + m < 1000000) (hbase : base ≤ w.heap.size)
    (h : ∀ v' w', OwnJ w' base v' (l ++ ys) → Below base w w' → w.grownBy w' v.ownBlock → wpList Tryz.prog ops Q rest (a.put o.dst v') w') : wpList Tryz.prog ops Q (o :: rest) a w :=
  wpList_cat w hgd s x _ ho base 68 _ 5 40 _ Tryz.underlying26 info_advJ (by rfl) (by decide) (fun _ => rfl) adv_oneJ v l hs hown A m c ys hx hys hlen (by decide) hbase h
theorem j4_I64 (T : Int) (l : List Adv) (hg : ∀ x ∈ l, x.good) (k : Nat) : I64 (j4 T l k).spare ∧ I64 (j4 T l k).short := by
  induction k with
  | zero => exact ⟨by unfold j4 I64; simp, by unfold j4 I64; simp⟩
  | succ k ih =>
    cases hx : l[k]? with
    | none =>
      have : j4 T l (k + 1) = j4 T l k := by
        show (match l[k]? with | some x => j4step T k (j4 T l k) x | none => j4 T l k) = _
        rw [hx]
      rw [this]; exact ih
    | some x =>
      rw [j4_succ hx]
      unfold j4step
      simp only
      split
      · exact ⟨satq_I64 _, ih.2⟩
      · exact ⟨ih.1, satq_I64 _⟩
theorem Blk.new_set2 (w : World) (gr i j : Nat) (u u2 : Value) (t : TypeId) (cs : Array Value) : Blk ((((w.setCell ⟨gr, i, none⟩ u).setCell ⟨gr, j, none⟩ u2).alloc (.cells cs t)).drew) w.heap.size t cs := by
  have := Blk.new ((w.setCell ⟨gr, i, none⟩ u).setCell ⟨gr, j, none⟩ u2) t cs
  simpa using this.drew
abbrev z64 : Array Value := #[.slice none 0 0, .int .i64 0, .int .i64 0, .int .i64 0, .int .i64 0, .int .i64 0, .int .i64 0]
def JI (w wr : World) (p : Pol) (gr : Nat) (v : Value) (l : List Adv) (c : Array Value) : Prop :=
  Blk wr w.heap.size 23 p.row ∧ Blk wr (w.heap.size + 1) 28 z64 ∧ Blk wr gr 28 c ∧ OwnJ wr (w.heap.size + 2) v l ∧ Below w.heap.size w wr ∧ w.heap.size + 1 < gr ∧ ∀ k, v.ownBlock = some k → k < gr
theorem JI.alloc {w wr : World} {p : Pol} {gr : Nat} {v : Value} {l : List Adv} {c : Array Value} (h : JI w wr p gr v l c) (o : Obj) : JI w (wr.alloc o) p gr v l c :=
  ⟨h.1.alloc o, h.2.1.alloc o, h.2.2.1.alloc o, h.2.2.2.1.alloc o, h.2.2.2.2.1.alloc h.2.2.2.2.1.size o, h.2.2.2.2.2⟩
theorem JI.drewN {w wr : World} {p : Pol} {gr : Nat} {v : Value} {l : List Adv} {c : Array Value} (h : JI w wr p gr v l c) (n : Nat) : JI w (wr.drewN n) p gr v l c :=
  ⟨h.1, h.2.1, h.2.2.1, h.2.2.2.1, below_drewN h.2.2.2.2.1 n, h.2.2.2.2.2⟩
theorem JI.drew {w wr : World} {p : Pol} {gr : Nat} {v : Value} {l : List Adv} {c : Array Value} (h : JI w wr p gr v l c) : JI w wr.drew p gr v l c :=
  ⟨h.1, h.2.1, h.2.2.1, h.2.2.2.1, h.2.2.2.2.1.drew, h.2.2.2.2.2⟩
theorem JI.set {w wr : World} {p : Pol} {gr : Nat} {v : Value} {l : List Adv} {c : Array Value} (h : JI w wr p gr v l c) (i : Nat) (u : Value) : JI w (wr.setCell ⟨gr, i, none⟩ u) p gr v l (c.setIfInBounds i u) :=
  ⟨h.1.far (by have := h.2.2.2.2.2.1; simp; omega) u, h.2.1.far (by have := h.2.2.2.2.2.1; simp; omega) u, h.2.2.1.set_ i u, Own.far h.2.2.2.1 (fun k hk => by have := h.2.2.2.2.2.2 k hk; simp; omega) u, h.2.2.2.2.1.setCell (by have := h.2.2.2.2.2.1; simp; omega) u, h.2.2.2.2.2⟩
theorem trial_Judge (p : Pol) (A : Option Addr) (len cap : Nat) (l : List Adv) (w : World) (hp : p.fit) (hs : AdvsAre w A len cap l) (hg : ∀ x ∈ l, x.good) (hn : len ≤ 1000) :
    Calls Tryz.prog 28 #[(.agg #[.int .i64 p.min, .int .i64 p.max, .int .i64 p.target, .int .i64 p.tol, .int .i64 p.window, .int .i64 p.hold]), .slice A len cap] w fun e w' => ∃ v, e = .returned (.agg #[v, .int .i64 (chq (replAt l) len : Nat), .int .i64 ((turnq (replAt l) len).1 : Nat), .int .i64 (j4 p.target l len).least, .int .i64 (j4 p.target l len).most, .int .i64 (j4 p.target l len).spare, .int .i64 (j4 p.target l len).short]) ∧ OwnJ w' w.heap.size v l ∧ Below w.heap.size w w' := by
  have HS := Lib.hid hs
  have HG := Lib.hid hg
  clear hs hg
  have e0 : Below w.heap.size w ((w.alloc (.cells p.row 23)).alloc (.cells #[.slice none 0 0, .int .i64 0, .int .i64 0, .int .i64 0, .int .i64 0, .int .i64 0, .int .i64 0] 28)) := by go_grown
  have E0 := Lib.hid e0
  clear e0
  go_enter Tryz.func28, Tryz.ntmps28
  go_wp2_with (first | (at_builtin; refine cat_adv _ rfl _ _ rfl (w.heap.size + 2) (.slice none 0 0) [] rfl (Own.nil _ _ _ _ _) A len cap l rfl (slice_keep HS.out E0.out) (by simp; omega) (by simp) ?_; intro v1 w1 ho1 hb1 hg1))
  have hc1 := (Below.refl ((w.alloc (.cells p.row 23)).alloc (.cells #[.slice none 0 0, .int .i64 0, .int .i64 0, .int .i64 0, .int .i64 0, .int .i64 0, .int .i64 0] 28)).heap.size _).grown hg1 (Nat.le_refl _) (fun k hk => by simp [Value.ownBlock] at hk)
  rw [List.nil_append] at ho1
  obtain ⟨A1, cp1, rfl, -⟩ := ho1.slice (fun _ => rfl)
  have E1 := Lib.hid (E0.out.trans (hc1.mono E0.out.size))
  clear hb1 hg1
  refine (history_Changes A len cap l _ (slice_keep HS.out E1.out) hn).mono ?_
  rintro e w2 ⟨rfl, hb2⟩
  have E2 := Lib.hid (E1.out.trans (hb2.mono E1.out.size))
  go_wp2_with fail
  refine (steady_Turns A len cap l _ (slice_keep HS.out E2.out) hn).mono ?_
  rintro e w3 ⟨rfl, hb3⟩
  have E3 := Lib.hid (E2.out.trans (hb3.mono E2.out.size))
  have b0 := ((((Blk.new w 23 p.row).alloc (.cells #[.slice none 0 0, .int .i64 0, .int .i64 0, .int .i64 0, .int .i64 0, .int .i64 0, .int .i64 0] 28)).call hc1).call hb2).call hb3
  have b1 := (((Blk.new_ w (.cells p.row 23) 28 #[.slice none 0 0, .int .i64 0, .int .i64 0, .int .i64 0, .int .i64 0, .int .i64 0, .int .i64 0]).call hc1).call hb2).call hb3
  have o1 := (ho1.call hb2).call hb3
  have B0 := Lib.hid b0
  have B1 := Lib.hid b1
  have O1 := Lib.hid o1
  clear hc1 hb2 hb3 b0 b1 o1 ho1 E0 E1 E2
  go_wp2
  have hg1 : w.heap.size + 1 < w3.heap.size := B1.out.lt
  have HJI : JI w (w3.alloc (.cells #[.slice A1 l.length cp1, .int .i64 (chq (replAt l) len : Nat), .int .i64 ((turnq (replAt l) len).1 : Nat), .int .i64 0, .int .i64 0, .int .i64 0, .int .i64 0] 28)) p w3.heap.size (.slice A1 l.length cp1) l #[.slice A1 l.length cp1, .int .i64 (chq (replAt l) len : Nat), .int .i64 ((turnq (replAt l) len).1 : Nat), .int .i64 0, .int .i64 0, .int .i64 0, .int .i64 0] :=
    ⟨B0.out.alloc _, B1.out.alloc _, Blk.new w3 _ _, O1.out.alloc _, E3.out.alloc E3.out.size _, hg1, fun k hk => (World.ownsRow.lt O1.out k hk).2⟩
  clear B0 B1 O1 E3 hg1
  generalize hCH : chq (replAt l) len = CH at *
  generalize hTN : (turnq (replAt l) len).1 = TN at *
  have HCH := Lib.hid hCH
  have HTN := Lib.hid hTN
  clear hCH hTN
  generalize w3.heap.size = gr at *
  generalize w3.alloc (.cells #[.slice A1 l.length cp1, .int .i64 (CH : Int), .int .i64 (TN : Int), .int .i64 0, .int .i64 0, .int .i64 0, .int .i64 0] 28) = W4 at *
  go_loopw [18] (fun i wr => ∃ k : Nat, k ≤ len ∧ i = .int .i64 k ∧ JI w wr p gr (.slice A1 l.length cp1) l #[.slice A1 l.length cp1, .int .i64 (CH : Int), .int .i64 (TN : Int), .int .i64 (j4 p.target l k).least, .int .i64 (j4 p.target l k).most, .int .i64 (j4 p.target l k).spare, .int .i64 (j4 p.target l k).short]) (fun i _ => len - (intOf i).toNat)
  case atStart => exact ⟨0, Nat.zero_le _, rfl, HJI⟩
  case round =>
    obtain ⟨k, hk, rfl, hji⟩ := hrel
    clear HJI
    have JJ := Lib.hid hji
    by_cases hlt : k < len
    · obtain ⟨b, off, x, rfl, hx, hb, t0, t1, t2, t3, t4⟩ := HS.out.at_ hlt
      have hxg := HG.out x (List.mem_of_getElem? hx)
      have HJ := Lib.hid (j4_succ (T := p.target) hx)
      have hJi := j4_I64 p.target l HG.out k
      generalize j4 p.target l k = J at *
      have hbel := hji.2.2.2.2.1
      have br := hji.2.2.1
      have kt0 := (hbel.cell (p := ⟨b, off + k * 5, none⟩) hb).trans t0
      have kt1 := (hbel.cell (p := ⟨b, off + k * 5 + 1, none⟩) hb).trans t1
      have kt2 := (hbel.cell (p := ⟨b, off + k * 5 + 2, none⟩) hb).trans t2
      have kt3 := (hbel.cell (p := ⟨b, off + k * 5 + 3, none⟩) hb).trans t3
      have kt4 := (hbel.cell (p := ⟨b, off + k * 5 + 4, none⟩) hb).trans t4
      have f3 := br.frozen 3
      have f4 := br.frozen 4
      have r3 := br.cellv (i := 3) (v := .int .i64 J.least) rfl
      have r4 := br.cellv (i := 4) (v := .int .i64 J.most) rfl
      have lt1 := br.lt
      have hki : (k : Int) < (len : Int) := by omega
      clear br hx hb t0 t1 t2 t3 t4 hji hbel
      obtain ⟨hxI, hxL⟩ : I64 x.repl ∧ I64 x.load := ⟨hxg.2.2.2.1, hxg.2.1⟩
      obtain ⟨M, hM⟩ : ∃ M, M = satq (x.repl * p.target) := ⟨_, rfl⟩
      obtain ⟨L, hL⟩ : ∃ L, L = satq (M - x.load) := ⟨_, rfl⟩
      have HL := Lib.hid (show leftq p.target x = L by unfold leftq; rw [hL, hM])
      have HMul := Lib.hid (fun W => sat_Mul x.repl p.target W hxI hp.2.2.1)
      have HSub := Lib.hid (fun W => sat_Sub M x.load W (by rw [hM]; exact satq_I64 _) hxL)
      rw [← hM] at HMul
      rw [← hL] at HSub
      have hLI : I64 L := by rw [hL]; exact satq_I64 _
      clear hM hL hxg
      obtain ⟨ls, hls⟩ : ∃ ls, ls = (if k = 0 then x.repl else J.least) := ⟨_, rfl⟩
      obtain ⟨ms, hms⟩ : ∃ ms, ms = (if k = 0 then x.repl else J.most) := ⟨_, rfl⟩
      have HLs := Lib.hid hls
      have HMs := Lib.hid hms
      clear hls hms
      go_upto_if 24 with (fail)
      go_cut [18] from 18 to 64 (fun s18 wx => s18 = .int .i64 k ∧ Blk wx wr.heap.size 68 x.cells.toArray ∧ JI w wx p gr (.slice A1 l.length cp1) l #[.slice A1 l.length cp1, .int .i64 (CH : Int), .int .i64 (TN : Int), .int .i64 ls, .int .i64 ms, .int .i64 J.spare, .int .i64 J.short])
      case first =>
        by_cases hk0 : k = 0
        · have d0 : ((k : Int) == 0) = true := by simp; omega
          have E1 := Lib.hid (show ls = x.repl by rw [HLs.out, if_pos hk0])
          have E2 := Lib.hid (show ms = x.repl by rw [HMs.out, if_pos hk0])
          clear hk0
          go_wp2
          go_region
          go_wp2
          go_meet
          case rel => exact ⟨rfl, Blk.new_set2 wr _ _ _ _ _ _ _, by rw [E1.out, E2.out]; exact (((JJ.out.set 3 _).set 4 _).alloc _).drew⟩
        · have d0 : ((k : Int) == 0) = false := by simp; omega
          have E1 := Lib.hid (show ls = J.least by rw [HLs.out, if_neg hk0])
          have E2 := Lib.hid (show ms = J.most by rw [HMs.out, if_neg hk0])
          clear hk0
          go_wp2
          go_meet
          case rel => exact ⟨rfl, Blk.new wr _ _, by rw [E1.out, E2.out]; exact JJ.out.alloc _⟩
      case rest =>
        obtain ⟨rfl, ba, hji2⟩ := hcut
        have JJ2 := Lib.hid hji2
        have BA := Lib.hid ba
        have br := hji2.2.2.1
        have a3 := ba.cellv (i := 3) (v := .int .i64 x.repl) rfl
        have f3 := br.frozen 3
        have f4 := br.frozen 4
        have r3 := br.cellv (i := 3) (v := .int .i64 ls) rfl
        have r4 := br.cellv (i := 4) (v := .int .i64 ms) rfl
        clear br ba hji2 JJ kt0 kt1 kt2 kt3 kt4
        go_upto_region 7 with (fail)
        go_cut [18] from 18 to 64 (fun s18 wy => s18 = .int .i64 k ∧ Blk wy wr.heap.size 68 x.cells.toArray ∧ JI w wy p gr (.slice A1 l.length cp1) l #[.slice A1 l.length cp1, .int .i64 (CH : Int), .int .i64 (TN : Int), .int .i64 (min ls x.repl), .int .i64 (max ms x.repl), .int .i64 J.spare, .int .i64 J.short])
        case first =>
          by_cases hc1 : x.repl < ls
          · by_cases hc2 : ms < x.repl
            ·
              have E1 := Lib.hid (show min ls x.repl = x.repl by omega)
              have E2 := Lib.hid (show max ms x.repl = x.repl by omega)
              go_region
              go_wp2
              go_meet
              case rel => exact ⟨rfl, ((BA.out.far (by simp; omega) _).far (by simp; omega) _).drew, by rw [E1.out, E2.out]; exact ((JJ2.out.set 3 _).set 4 _).drew⟩
  
            ·
              have E1 := Lib.hid (show min ls x.repl = x.repl by omega)
              have E2 := Lib.hid (show max ms x.repl = ms by omega)
              go_region
              go_wp2
              go_meet
              case rel => exact ⟨rfl, ((BA.out.far (by simp; omega) _).far (by simp; omega) _).drew, by rw [E1.out, E2.out]; exact ((JJ2.out.set 3 _).set 4 _).drew⟩
  
          · by_cases hc2 : ms < x.repl
            ·
              have E1 := Lib.hid (show min ls x.repl = ls by omega)
              have E2 := Lib.hid (show max ms x.repl = x.repl by omega)
              go_region
              go_wp2
              go_meet
              case rel => exact ⟨rfl, ((BA.out.far (by simp; omega) _).far (by simp; omega) _).drew, by rw [E1.out, E2.out]; exact ((JJ2.out.set 3 _).set 4 _).drew⟩
  
            ·
              have E1 := Lib.hid (show min ls x.repl = ls by omega)
              have E2 := Lib.hid (show max ms x.repl = ms by omega)
              go_region
              go_wp2
              go_meet
              case rel => exact ⟨rfl, ((BA.out.far (by simp; omega) _).far (by simp; omega) _).drew, by rw [E1.out, E2.out]; exact ((JJ2.out.set 3 _).set 4 _).drew⟩
  
        case rest =>
          obtain ⟨rfl, ba, hji3⟩ := hcut
          clear r3 r4 f3 f4 a3
          have JJ3 := Lib.hid hji3
          have br := hji3.2.2.1
          have bp := hji3.1
          have a3 := ba.cellv (i := 3) (v := .int .i64 x.repl) rfl
          have a1 := ba.cellv (i := 1) (v := .int .i64 x.load) rfl
          have p2 := bp.cellv (i := 2) (v := .int .i64 p.target) rfl
          have r5 := br.cellv (i := 5) (v := .int .i64 J.spare) rfl
          have r6 := br.cellv (i := 6) (v := .int .i64 J.short) rfl
          have f5 := br.frozen 5
          have f6 := br.frozen 6
          have HE := Lib.hid (show j4 p.target l (k + 1) = ⟨min ls x.repl, max ms x.repl, if 0 ≤ L then satq (J.spare + L) else J.spare, if 0 ≤ L then J.short else satq (J.short + satq (0 - L))⟩ by
            rw [HJ.out]; unfold j4step; rw [HL.out, HLs.out, HMs.out]
            split
            · congr 1 <;> omega
            · rfl)
          clear br ba bp hji3
          go_upto_region 8 with (fail)
          go_quiet ((first | (go_at_call 56; exact Calls.quiet_of_same ((HMul.out _).mono fun _ _ h => ⟨h.1, h.2.symm⟩)) | (go_at_call 55; exact Calls.quiet_of_same ((HSub.out _).mono fun _ _ h => ⟨h.1, h.2.symm⟩))))
          by_cases hLp : 0 ≤ L
          · have HA := Lib.hid (fun W => sat_Add J.spare L W hJi.1 hLI)
            go_wp2_with (first | (go_at_call 47; refine (HA.out _).mono ?_; rintro e w5 ⟨rfl, rfl⟩))
            go_roundw
            case rel => exact ⟨k + 1, by omega, by go_num, by rw [HE.out]; simp only [if_pos hLp]; exact (JJ3.out.set 5 _).drewN _⟩
            case measure => simp [intOf]; omega
          · have HS0 := Lib.hid (fun W => sat_Sub 0 L W (by unfold I64; omega) hLI)
            have HA := Lib.hid (fun W => sat_Add J.short (satq (0 - L)) W hJi.2 (satq_I64 _))
            generalize satq (0 - L) = K at *
            have JJ4 := Lib.hid (JJ3.out.drewN nq)
            have R6 := Lib.hid (JJ4.out.2.2.1.cellv (i := 6) (v := .int .i64 J.short) rfl)
            have L6 := Lib.hid JJ4.out.2.2.1.lt
            clear r5 r6 f5 f6 p2 a1 a3
            go_wp2
            generalize wc.drewN nq = W6 at *
            have f6 := JJ4.out.2.2.1.frozen 6
            have r6 := R6.out
            refine wp_region_any (by kernel_rfl) ?_; change wpAny _ _ _ _ _ _ _ (World.drew W6); refine any_of_anyG (late := fun j => [6].contains j) (S := fun wS => Below W6.heap.size W6 wS) _ _ _ _ ?_
            have S0 := (Below.refl W6.heap.size W6).drew
            refine anyG_take (i := 0) (v := _) rfl (by kernel_rfl) (by kernel_rfl) (by kernel_rfl) (by kernel_rfl) rfl (by kernel_rfl) (fun j hj => by first | (simp at hj; done) | (simp at hj; simp; omega)) (fun _ _ _ h => h) (Or.inl ⟨by rfl, fun W1 hW1 => by first | rfl | (go_simp; done) | (go_simp; with_reducible rfl)⟩) (S0) ?_
            refine anyG_take (i := 1) (v := .int .i64 J.short) rfl (by kernel_rfl) (by kernel_rfl) (by kernel_rfl) (by kernel_rfl) rfl (by kernel_rfl) (fun j hj => by first | (simp at hj; done) | (simp at hj; simp; omega)) (fun _ _ _ h => h) (Or.inl ⟨by rfl, fun W1 hW1 => by have c := (hW1.cell (p := ⟨gr, 6, none⟩) L6.out).trans R6.out; go_simp⟩) (S0) ?_
            refine anyG_one (k := 2) (by kernel_rfl) rfl (by rfl) (fun Q2 hQ2 => ?_); go_wp2_with fail; refine hQ2 _ _ (fun _ => S0) ?_; clear hQ2 Q2
            refine anyG_one (k := 3) (by kernel_rfl) rfl (by rfl) (fun Q2 hQ2 => ?_); go_wp2_with (go_at_call 55; refine (HS0.out _).mono ?_; rintro e v1 ⟨rfl, rfl⟩); refine hQ2 _ _ (fun _ => S0) ?_; clear hQ2 Q2
            refine anyG_one (k := 4) (by kernel_rfl) rfl (by rfl) (fun Q2 hQ2 => ?_); go_wp2_with (go_at_call 47; refine (HA.out _).mono ?_; rintro e v1 ⟨rfl, rfl⟩); refine hQ2 _ _ (fun _ => S0) ?_; clear hQ2 Q2
            refine anyG_one (k := 5) (by kernel_rfl) rfl (by rfl) (fun Q2 hQ2 => ?_); go_wp2_with fail; refine hQ2 _ _ (fun _ => S0) ?_; clear hQ2 Q2
            refine anyG_of_any _ _ _ _ (by kernel_rfl) ?_
            refine any_one (k := 6) (by kernel_rfl) rfl (by rfl) (fun Q2 hQ2 => ?_); go_wp2_with fail; (try refine hQ2 _ _ ?_); (try clear hQ2 Q2)
            refine wpAny_done (by kernel_rfl) ?_ _
            go_wp2
            go_roundw
            case rel => exact ⟨k + 1, by omega, by go_num, by rw [HE.out]; rw [if_neg (show ¬ 0 ≤ L by omega), if_neg (show ¬ 0 ≤ L by omega)]; exact (JJ4.out.set 6 _).drew⟩
            case measure => simp [intOf]; omega
    · obtain rfl : k = len := by omega
      clear JJ
      have JB := Lib.hid hji
      clear hji
      go_wp2_with (first | (refine Blk.load rfl 28 (.tmp 5) rfl gr _ _ _ rfl JB.out.2.2.1 Tryz.underlying28 rfl (by kernel_rfl) ?_) | (refine wpList_store_row rfl 28 (.tmp 4) (.tmp 65) rfl (w.heap.size + 1) _ _ _ rfl rfl JB.out.2.1 (by rfl) (by kernel_rfl) (by simp [Value.oneCell']) ?_; intro w9 hb9 hg9))
      refine bodyPost_ret (results_row rfl _ _ (w.heap.size + 1) _ _ _ rfl hb9 Tryz.underlying28 rfl (by kernel_rfl)) rfl ⟨_, by rw [HCH.out, HTN.out], ?_, JB.out.2.2.2.2.1.trans (Only.below hg9 (by omega) JB.out.2.2.2.2.1.size)⟩
      exact (JB.out.2.2.2.1.grown hg9 (fun k hk => by have := (World.ownsRow.lt JB.out.2.2.2.1 k hk).1; omega)).mono (by omega)
end Go.Proofs.YtjodpffdlggjgaaGreat
/- Package audit and its reference: which rule a decision breaks. (fast region) -/
namespace Go.Proofs.YtjodpffdlggjgaaGreat
open Go.RowKit
set_option linter.unusedSimpArgs false
set_option linter.unusedVariables false
set_option maxHeartbeats 4000000
set_option maxRecDepth 100000
def whyOk (a : Adv) (now : Int) : Bool := if a.why = 2 then decide (now < a.repl) else if a.why = 3 then decide (a.repl < now) else if a.why = 1 then a.repl == now else true
def polHas (p : Pol) (n : Int) : Bool := decide (p.okP ∧ p.min ≤ n ∧ n ≤ p.max)
def ruleq (p : Pol) (past : List Adv) (a : Adv) : Int :=
  if a.why < 1 then 1 else if 6 < a.why then 1 else if polHas p a.repl = false then 2 else if a.want ≠ rawq p a.load (nowq p past) then 3
  else if a.repl ≠ boundq p (steadyq p a.tick a.want past).1 then 4 else if (steadyq p a.tick a.want past).2 ≠ decide (a.why = 4) then 4
  else if whyOk a (nowq p past) = false then 5 else 0
abbrev Adv.row (a : Adv) : Array Value := #[.int .i64 a.tick, .int .i64 a.load, .int .i64 a.want, .int .i64 a.repl, .int .i64 a.why]
def DA (w wr : World) (p : Pol) (a : Adv) : Prop := Blk wr w.heap.size 23 p.row ∧ Blk wr (w.heap.size + 1) 68 a.row ∧ Below w.heap.size w wr
theorem DA.call {w wr w' : World} {p : Pol} {a : Adv} (h : DA w wr p a) (hb : Below wr.heap.size wr w') : DA w w' p a := ⟨h.1.call hb, h.2.1.call hb, h.2.2.trans (hb.mono h.2.2.size)⟩
theorem DA.start (w : World) (p : Pol) (a : Adv) : DA w ((w.alloc (.cells p.row 23)).alloc (.cells a.row 68)) p a :=
  ⟨(Blk.new w _ _).alloc _, Blk.new2 w _ _ _, by go_grown⟩
theorem DA.cells {w wr : World} {p : Pol} {a : Adv} (h : DA w wr p a) : wr.cell? ⟨w.heap.size + 1, 0, none⟩ = some (.int .i64 a.tick) ∧ wr.cell? ⟨w.heap.size + 1, 1, none⟩ = some (.int .i64 a.load) ∧ wr.cell? ⟨w.heap.size + 1, 2, none⟩ = some (.int .i64 a.want) ∧ wr.cell? ⟨w.heap.size + 1, 3, none⟩ = some (.int .i64 a.repl) ∧ wr.cell? ⟨w.heap.size + 1, 4, none⟩ = some (.int .i64 a.why) ∧ wr.cell? ⟨w.heap.size, 0, none⟩ = some (.int .i64 p.min) ∧ wr.cell? ⟨w.heap.size, 1, none⟩ = some (.int .i64 p.max) :=
  ⟨h.2.1.cellv rfl, h.2.1.cellv rfl, h.2.1.cellv rfl, h.2.1.cellv rfl, h.2.1.cellv rfl, h.1.cellv rfl, h.1.cellv rfl⟩
theorem polHas_eq (p : Pol) (n : Int) (b : Bool) (h : b = decide p.okP) : (b && decide (p.min ≤ n) && decide (n ≤ p.max)) = polHas p n := by
  subst h; unfold polHas; rw [Bool.eq_iff_iff]; simp [and_assoc]
end Go.Proofs.YtjodpffdlggjgaaGreat
/- Which rules decisions break, one after the other; those that are made break none. -/
namespace Go.Proofs.YtjodpffdlggjgaaGreat
open Go.RowKit
set_option linter.unusedSimpArgs false
set_option linter.unusedVariables false
def pastq (room : Int) (past l : List Adv) : List Adv := l.foldl (fun q a => hush q room a) past
def ruls (p : Pol) (room : Int) : List Adv → List Adv → List Int
  | past, [] => []
  | past, a :: l => ruleq p past a :: ruls p room (hush past room a) l
theorem ruls_snoc (p : Pol) (room : Int) (l : List Adv) (x : Adv) : ∀ past, ruls p room past (l ++ [x]) = ruls p room past l ++ [ruleq p (pastq room past l) x] := by
  induction l with
  | nil => intro past; rfl
  | cons a l ih => intro past; show _ :: ruls p room _ (l ++ [x]) = _; rw [ih]; rfl
theorem pastq_snoc (room : Int) (l : List Adv) (x : Adv) (past : List Adv) : pastq room past (l ++ [x]) = hush (pastq room past l) room x := by
  unfold pastq; rw [List.foldl_append]; rfl
theorem ruls_next (p : Pol) (room : Int) {l : List Adv} {k : Nat} {x : Adv} (h : l[k]? = some x) : ruls p room [] (l.take (k + 1)) = ruls p room [] (l.take k) ++ [ruleq p (pastq room [] (l.take k)) x] ∧ pastq room [] (l.take (k + 1)) = hush (pastq room [] (l.take k)) room x := by
  rw [take_snoc2 h]; exact ⟨ruls_snoc p room _ x [], pastq_snoc room _ x []⟩
theorem ruls_len (p : Pol) (room : Int) (l : List Adv) : ∀ past, (ruls p room past l).length = l.length := by
  induction l with
  | nil => intro past; rfl
  | cons a l ih => intro past; show (_ :: ruls p room _ l).length = _; rw [List.length_cons, ih]; rfl
theorem ruls_take (p : Pol) (room : Int) (l : List Adv) (k : Nat) : ∀ past, (ruls p room past l).take k = ruls p room past (l.take k) := by
  induction l generalizing k with
  | nil => intro past; simp [ruls]
  | cons a l ih =>
    intro past
    cases k with
    | zero => rfl
    | succ k => show _ :: (ruls p room _ l).take k = _ :: ruls p room _ (l.take k); rw [ih]
theorem pastq_len (room : Int) (l : List Adv) : (pastq room [] l).length ≤ 64 := by
  have key : ∀ (l past : List Adv), past.length ≤ 64 → (pastq room past l).length ≤ 64 := by
    intro l
    induction l with
    | nil => intro past h; exact h
    | cons a l ih =>
      intro past h
      refine ih _ ?_
      show (hush past room a).length ≤ 64
      unfold hush
      split
      · unfold pushq
        split
        · rw [List.length_drop, List.length_append]; simp; omega
        · omega
      · simp
  exact key l [] (by simp)
/-- i is the place of the first number of rs that is not 0, which is r; or there is none. -/
def IsFirst (rs : List Int) (i r : Int) : Prop := (i = -1 ∧ r = 0 ∧ ∀ x ∈ rs, x = 0) ∨ ∃ k : Nat, i = k ∧ rs[k]? = some r ∧ r ≠ 0 ∧ ∀ j, j < k → rs[j]? = some 0
theorem IsFirst.zero {rs : List Int} {i r : Int} (h : IsFirst rs i r) (hz : ∀ x ∈ rs, x = 0) : i = -1 ∧ r = 0 := by
  rcases h with ⟨h1, h2, -⟩ | ⟨k, -, h2, h3, -⟩
  · exact ⟨h1, h2⟩
  · exact absurd (hz r (List.mem_of_getElem? h2)) h3
theorem IsFirst.same {rs : List Int} {i r i' r' : Int} (h : IsFirst rs i r) (h' : IsFirst rs i' r') : i = i' ∧ r = r' := by
  rcases h with ⟨rfl, rfl, hz⟩ | ⟨k, rfl, h2, h3, h4⟩
  · obtain ⟨h1, h2⟩ := h'.zero hz; exact ⟨h1.symm, h2.symm⟩
  · rcases h' with ⟨-, -, hz⟩ | ⟨k', rfl, h2', h3', h4'⟩
    · exact absurd (hz r (List.mem_of_getElem? h2)) h3
    · have : k = k' := by
        rcases Nat.lt_trichotomy k k' with hlt | he | hgt
        · have := h4' k hlt; rw [h2] at this; injection this with this; exact absurd this h3
        · exact he
        · have := h4 k' hgt; rw [h2'] at this; injection this with this; exact absurd this h3'
      subst this
      rw [h2] at h2'; injection h2' with h2'
      exact ⟨rfl, h2'⟩
theorem meanq_I64 (l : List Int) : I64 (meanq l) := by
  unfold meanq smallQ I64
  split
  · omega
  · split <;> omega
theorem made_fine (p : Pol) (l : List Smp) (past : List Adv) (hk : p.okP) (hg : ∀ x ∈ l, x.good) : ruleq p past (decq p l past) = 0 ∧ (decq p l past).good := by
  obtain ⟨k1, k2, k3, k4, k5, k6, k7, k8, k9⟩ := id hk
  have hb : ∀ n, p.min ≤ boundq p n ∧ boundq p n ≤ p.max := fun n => by
    unfold boundq clampq
    rw [if_pos hk]
    split
    · omega
    · split <;> omega
  have hT := latestq_I64 hg
  unfold decq
  dsimp only
  generalize latestq l = T at *
  have hM := meanq_I64 (valq (cutq l (fromq T p.window) T))
  generalize meanq (valq (cutq l (fromq T p.window) T)) = load at *
  have hr := raw_open2 p load (nowq p past)
  generalize openq p load (nowq p past) = op at *
  generalize hS : steadyq p T (boundq p op) past = S
  obtain ⟨s1, s2⟩ := S
  have h1 := hb op
  have h2 := hb s1
  refine ⟨?_, ?_⟩
  · unfold ruleq
    dsimp only
    rw [hS]
    have hw : 1 ≤ whyq p s2 op (nowq p past) (boundq p s1) ∧ whyq p s2 op (nowq p past) (boundq p s1) ≤ 6 ∧ (s2 = decide (whyq p s2 op (nowq p past) (boundq p s1) = 4)) ∧ (whyq p s2 op (nowq p past) (boundq p s1) = 2 → nowq p past < boundq p s1) ∧ (whyq p s2 op (nowq p past) (boundq p s1) = 3 → boundq p s1 < nowq p past) ∧ (whyq p s2 op (nowq p past) (boundq p s1) = 1 → boundq p s1 = nowq p past) := by
      unfold whyq
      cases s2
      · simp only [Bool.false_eq_true, if_false]
        split
        · simp
        · split
          · simp
          · split
            · simp; omega
            · split
              · simp; omega
              · simp; omega
      · simp
    generalize whyq p s2 op (nowq p past) (boundq p s1) = y at *
    obtain ⟨w1, w2, w3, w4, w5, w6⟩ := hw
    rw [if_neg (by omega), if_neg (by omega)]
    have hh : polHas p (boundq p s1) = true := by unfold polHas; exact decide_eq_true ⟨hk, h2.1, h2.2⟩
    rw [if_neg (by rw [hh]; simp), if_neg (by rw [hr]; simp), if_neg (by simp), if_neg (by simpa using w3)]
    refine if_neg ?_
    unfold whyOk
    dsimp only
    split
    · rename_i e; simp; exact w4 e
    · split
      · rename_i e; simp; exact w5 e
      · split
        · rename_i e; simp; exact w6 e
        · simp
  · refine ⟨hT, hM, ?_, ?_, ?_⟩
    · show I64 (boundq p op); unfold I64; omega
    · show I64 (boundq p s1); unfold I64; omega
    · show I64 (whyq p s2 op (nowq p past) (boundq p s1)); unfold I64 whyq
      split
      · omega
      · split
        · omega
        · split
          · omega
          · split
            · omega
            · split <;> omega
theorem fine_next (p : Pol) (sm rm : Int) (st : Fst) (x : Smp) (hg : ∀ y ∈ st.smps, y.good) (hx : x.good) (h1 : st.past = pastq rm [] st.out) (h2 : ∀ r ∈ ruls p rm [] st.out, r = 0) (h3 : ∀ a ∈ st.out, a.good) (hr : 1 ≤ rm ∧ rm ≤ 64) :
    (fstep p sm rm st x).past = pastq rm [] (fstep p sm rm st x).out ∧ (∀ r ∈ ruls p rm [] (fstep p sm rm st x).out, r = 0) ∧ ∀ a ∈ (fstep p sm rm st x).out, a.good := by
  by_cases he : errr sm x = 0
  · by_cases ho : ofe p (putr st.smps sm x) = 0
    · rw [fstep_ok he ho hr]
      have hk : p.okP := Classical.byContradiction fun hn => by rw [(ofq_no (past := st.past) hn).2] at ho; omega
      have hl : (putr st.smps sm x).length ≠ 0 := fun hn => by rw [(ofq_nil (past := st.past) hk hn).2] at ho; omega
      rw [(ofq_ok (past := st.past) hk hl).1]
      obtain ⟨m1, m2⟩ := made_fine p (putr st.smps sm x) st.past hk (good_putr hg hx sm)
      refine ⟨?_, fun r hr => ?_, fun a ha => ?_⟩
      · show hush st.past rm _ = _
        rw [pastq_snoc, ← h1]
      · replace hr : r ∈ ruls p rm [] (st.out ++ [decq p (putr st.smps sm x) st.past]) := hr
        rw [ruls_snoc, ← h1, m1] at hr
        rcases List.mem_append.1 hr with hr | hr
        · exact h2 r hr
        · simpa using hr
      · rcases List.mem_append.1 ha with ha | ha
        · exact h3 a ha
        · simp at ha; subst ha; exact m2
    · rw [fstep_skip he ho]; exact ⟨h1, h2, h3⟩
  · rw [fstep_no he]; exact ⟨h1, h2, h3⟩
theorem fol_fine (p : Pol) (sm rm : Int) (l : List Smp) (hg : ∀ x ∈ l, x.good) : (∀ r ∈ ruls p rm [] (folq p sm rm l).out, r = 0) ∧ ∀ a ∈ (folq p sm rm l).out, a.good := by
  by_cases hr : 1 ≤ rm ∧ rm ≤ 64
  · have h := folq_all (fun n st => (∀ y ∈ st.smps, y.good) ∧ st.past = pastq rm [] st.out ∧ (∀ r ∈ ruls p rm [] st.out, r = 0) ∧ ∀ a ∈ st.out, a.good) p sm rm l ⟨fun y hy => (by cases hy), rfl, fun r hr => (by cases hr), fun a ha => (by cases ha)⟩ (fun n st x hx h => ⟨by rw [fstep_smps]; exact good_putr h.1 (hg x hx) sm, fine_next p sm rm st x h.1 (hg x hx) h.2.1 h.2.2.1 h.2.2.2 hr⟩) l.length (Nat.le_refl _)
    rw [List.take_length] at h
    exact ⟨h.2.2.1, h.2.2.2⟩
  · rw [folq_bad p sm rm l (.inr hr)]
    exact ⟨fun r hr => (by cases hr), fun a ha => (by cases ha)⟩
end Go.Proofs.YtjodpffdlggjgaaGreat
/- trial.Run: the walk. (fast region) -/
namespace Go.Proofs.YtjodpffdlggjgaaGreat
open Go.RowKit
set_option linter.unusedSimpArgs false
set_option linter.unusedVariables false
set_option maxHeartbeats 8000000
set_option maxRecDepth 100000
abbrev z7 : Array Value := #[.slice none 0 0, .int .i64 0, .int .i64 0, .int .i64 0, .int .i64 0, .int .i64 0, .int .i64 0]
/-- A Result's row. -/
abbrev judR (p : Pol) (l : List Adv) (v : Value) : Array Value := #[v, .int .i64 (chq (replAt l) l.length : Nat), .int .i64 ((turnq (replAt l) l.length).1 : Nat), .int .i64 (j4 p.target l l.length).least, .int .i64 (j4 p.target l l.length).most, .int .i64 (j4 p.target l l.length).spare, .int .i64 (j4 p.target l l.length).short]
def RI2 (w wr : World) (p : Pol) : Prop := Blk wr w.heap.size 23 p.row ∧ Blk wr (w.heap.size + 1) 28 z7 ∧ Below w.heap.size w wr
theorem RI2.start (w : World) (p : Pol) : RI2 w ((w.alloc (.cells p.row 23)).alloc (.cells z7 28)) p :=
  ⟨(Blk.new w _ _).alloc _, Blk.new2 w _ _ _, by go_grown⟩
theorem RI2.call {w wr w' : World} {p : Pol} (h : RI2 w wr p) (hb : Below wr.heap.size wr w') : RI2 w w' p := ⟨h.1.call hb, h.2.1.call hb, h.2.2.trans (hb.mono h.2.2.size)⟩
def RunNo (w : World) (n : Int) (e : Ending) (w' : World) : Prop := e = .returned (.tuple #[.agg z7, .int .i64 n]) ∧ Below w.heap.size w w'
theorem trial_Run_pol (p : Pol) (A : Option Addr) (len cap : Nat) (sm rm : Int) (w : World) (hk : ¬ p.okP) :
    Calls Tryz.prog 8 #[(.agg #[.int .i64 p.min, .int .i64 p.max, .int .i64 p.target, .int .i64 p.tol, .int .i64 p.window, .int .i64 p.hold]), .slice A len cap, .int .i64 sm, .int .i64 rm] w (RunNo w 7) := by
  have D0 := Lib.hid (RI2.start w p)
  have HC := Lib.hid (fun W => policy_Check p W)
  rw [show polErr p = 7 from if_neg hk] at HC
  clear hk
  go_enter Tryz.func8, Tryz.ntmps8
  go_wp2_with (first
    | (go_at_call 29; refine (HC.out _).mono ?_; rintro e v1 ⟨rfl, hb1⟩; have D1 := Lib.hid (D0.out.call hb1); clear hb1)
    | (refine wpList_store_row rfl 28 (.tmp 8) (.tmp 15) rfl (w.heap.size + 1) _ _ _ rfl rfl D1.out.2.1 (by rfl) (by kernel_rfl) (by simp [Value.oneCell']) ?_; intro w9 hb9 hg9))
  refine bodyPost_ret (results_row_tmp rfl _ _ (w.heap.size + 1) _ _ _ rfl hb9 Tryz.underlying28 rfl (by kernel_rfl)) rfl ⟨rfl, D1.out.2.2.trans (Only.below hg9 (by omega) D1.out.2.2.size)⟩
theorem trial_Run_arg (p : Pol) (A : Option Addr) (len cap : Nat) (sm rm : Int) (w : World) (hk : p.okP) (hb : ¬ goodS sm ∨ ¬ (1 ≤ rm ∧ rm ≤ 64)) :
    Calls Tryz.prog 8 #[(.agg #[.int .i64 p.min, .int .i64 p.max, .int .i64 p.target, .int .i64 p.tol, .int .i64 p.window, .int .i64 p.hold]), .slice A len cap, .int .i64 sm, .int .i64 rm] w (RunNo w 1) := by
  have D0 := Lib.hid (RI2.start w p)
  have HC := Lib.hid (fun W => policy_Check p W)
  rw [polErr_ok hk] at HC
  have hd : (decide (sm < 1) = true) ∨ (decide (sm < 1) = false ∧ decide (256 < sm) = true) ∨ (decide (sm < 1) = false ∧ decide (256 < sm) = false ∧ decide (rm < 1) = true) ∨ (decide (sm < 1) = false ∧ decide (256 < sm) = false ∧ decide (rm < 1) = false ∧ decide (64 < rm) = true) := by
    unfold goodS at hb
    simp only [decide_eq_true_eq, decide_eq_false_iff_not]
    omega
  clear hb hk
  rcases hd with d1 | ⟨d1, d2⟩ | ⟨d1, d2, d3⟩ | ⟨d1, d2, d3, d4⟩
  all_goals
    go_enter Tryz.func8, Tryz.ntmps8
    go_wp2_with (first
      | (go_at_call 29; refine (HC.out _).mono ?_; rintro e v1 ⟨rfl, hb1⟩; have D1 := Lib.hid (D0.out.call hb1); clear hb1)
      | (refine wpList_store_row rfl 28 (.tmp 8) (.tmp 31) rfl (w.heap.size + 1) _ _ _ rfl rfl D1.out.2.1 (by rfl) (by kernel_rfl) (by simp [Value.oneCell']) ?_; intro w9 hb9 hg9))
    refine bodyPost_ret (results_row_tmp rfl _ _ (w.heap.size + 1) _ _ _ rfl hb9 Tryz.underlying28 rfl (by kernel_rfl)) rfl ⟨rfl, D1.out.2.2.trans (Only.below hg9 (by omega) D1.out.2.2.size)⟩
def RunYes (p : Pol) (l : List Adv) (w : World) (e : Ending) (w' : World) : Prop := ∃ A n c, e = .returned (.tuple #[.agg (judR p l (.slice A n c)), .int .i64 0]) ∧ AdvsAre w' A n c l ∧ Below w.heap.size w w'
theorem trial_Run_ok (p : Pol) (A : Option Addr) (len cap : Nat) (l : List Smp) (S R : Nat) (w : World) (hp : p.fit) (hk : p.okP) (hs : SmpsAre w A len cap l) (hg : ∀ x ∈ l, x.good) (hn : len ≤ 200) (s1 : 1 ≤ S) (s2 : S ≤ 256) (r1 : 1 ≤ R) (r2 : R ≤ 64) :
    Calls Tryz.prog 8 #[(.agg #[.int .i64 p.min, .int .i64 p.max, .int .i64 p.target, .int .i64 p.tol, .int .i64 p.window, .int .i64 p.hold]), .slice A len cap, .int .i64 S, .int .i64 R] w (RunYes p (folq p S R l).out w) := by
  have HS := Lib.hid hs
  have HP := Lib.hid hp
  have HG := Lib.hid hg
  have D0 := Lib.hid (RI2.start w p)
  have HC := Lib.hid (fun W => policy_Check p W)
  rw [polErr_ok hk] at HC
  have d1 : decide ((S : Int) < 1) = false := by simp; omega
  have d2 : decide ((256 : Int) < (S : Int)) = false := by simp; omega
  have d3 : decide ((R : Int) < 1) = false := by simp; omega
  have d4 : decide ((64 : Int) < (R : Int)) = false := by simp; omega
  have d1' : ¬ S < 1 := by omega
  have d2' : ¬ 256 < S := by omega
  have d3' : ¬ R < 1 := by omega
  have d4' : ¬ 64 < R := by omega
  have HF := Lib.hid (fun W hW => decide_Follow p A len cap l S R W hp hW hg hn (by unfold I64; omega))
  have HFi := Lib.hid (fol_fine p S R l hg)
  have HLo := Lib.hid (show (folq p S R l).out.length ≤ 200 by
    have h := (folq_len p S R l l.length (Nat.le_refl _)).2
    rw [List.take_length] at h
    have := hs.1
    omega)
  clear hs hp hg s1 s2 r1 r2 hk
  unfold FolPost at HF
  generalize (folq p S R l).out = OUT at *
  go_enter Tryz.func8, Tryz.ntmps8
  focus (go_upto_region 6 with (go_at_call 29; refine (HC.out _).mono ?_; rintro e v1 ⟨rfl, hb1⟩; have D1 := Lib.hid (D0.out.call hb1); clear hb1))
  have HJ := Lib.hid (fun W A2 c2 hW => trial_Judge p A2 OUT.length c2 OUT W HP.out hW HFi.out.2 (Nat.le_trans HLo.out (by decide)))
  refine wp_region_any (by kernel_rfl) ?_; change wpAny _ _ _ _ _ _ _ (World.drew v1); refine any_of_anyG (late := fun j => [7, 8].contains j) (S := fun wS => Below v1.heap.size v1 wS) _ _ _ _ ?_
  have S0 := (Below.refl v1.heap.size v1).drew
  refine anyG_takes (is := [0, 1, 2, 3, 4]) (vs := [_, _, _, _, _]) (m := 4) (listed2 := #[true, true, true, true, true, false, false, false, false]) (a2 := ⟨#[_, _, _, _, _, _, _, _, _, _, _, _, _, _, _, _, _, _, _, _, _, _, _, _, _, _, _, _, _, _, _, _, _, _, _, _, _, _, _], _⟩) (by kernel_rfl) (fun j hj => by first | (simp at hj; done) | (simp at hj; simp; omega)) (by kernel_rfl) (fun _ _ _ _ _ h => h) (Ys.cons rfl (Or.inl ⟨by rfl, fun W1 hW1 => exec_load (ty := 23) (x := .tmp 4) rfl rfl (run_loadAt_blk _ _ _ _ _ _ (D1.out.1.call hW1) Tryz.underlying23 rfl (by first | kernel_rfl | exact info_num _))⟩) (Ys.cons rfl (Or.inl ⟨by rfl, fun W1 hW1 => exec_load (ty := 23) (x := .tmp 4) rfl rfl (run_loadAt_blk _ _ _ _ _ _ (D1.out.1.call hW1) Tryz.underlying23 rfl (by first | kernel_rfl | exact info_num _))⟩) (Ys.cons rfl (Or.inl ⟨by rfl, fun W1 hW1 => by first | rfl | (go_simp; done) | (go_simp; with_reducible rfl)⟩) (Ys.cons rfl (Or.inl ⟨by rfl, fun W1 hW1 => by first | rfl | (go_simp; done) | (go_simp; with_reducible rfl)⟩) (Ys.cons rfl (Or.inl ⟨by rfl, fun W1 hW1 => by first | rfl | (go_simp; done) | (go_simp; with_reducible rfl)⟩) (Ys.nil)))))) (S0) (by rfl) (by rfl) ?_
  refine anyG_one (k := 5) (by kernel_rfl) rfl (by rfl) (fun Q2 hQ2 => ?_); go_wp2_with (go_at_call 30; refine (HF.out _ (slice_keep HS.out (D1.out.2.2.trans (S0.mono D1.out.2.2.size)))).mono ?_; rintro e v2 ⟨A2, n2, c2, rfl, ho2, hb2⟩; obtain rfl := (ownA_is ho2).1; have O2 := Lib.hid (ownA_is ho2); clear ho2); refine hQ2 _ _ (fun _ => S0.trans (hb2.mono S0.size)) ?_; clear hQ2 Q2
  have S2 := S0.trans (hb2.mono S0.size)
  refine anyG_one (k := 6) (by kernel_rfl) rfl (by rfl) (fun Q2 hQ2 => ?_); go_wp2_with (go_at_call 28; refine (HJ.out _ A2 c2 O2.out).mono ?_; rintro e v3 ⟨vj, rfl, ho3, hb3⟩; obtain ⟨A3, n3, c3, rfl, -, -⟩ := ho3.shape (fun _ => rfl); have O3 := Lib.hid ho3; clear ho3; have D3 := Lib.hid (D1.out.call (S2.trans (hb3.mono S2.size)))); refine hQ2 _ _ (fun _ => S2.trans (hb3.mono S2.size)) ?_; clear hQ2 Q2
  have S3 := S2.trans (hb3.mono S2.size)
  refine anyG_of_any _ _ _ _ (by kernel_rfl) ?_
  refine any_one (k := 7) (by kernel_rfl) rfl (by rfl) (fun Q2 hQ2 => ?_); go_wp2_with (refine wpList_store_row rfl 28 (.tmp 8) (.tmp 38) rfl (w.heap.size + 1) _ _ _ rfl rfl D3.out.2.1 (by rfl) (by kernel_rfl) (by simp [Value.oneCell']) ?_; intro w9 hb9 hg9); (try refine hQ2 _ _ ?_); (try clear hQ2 Q2)
  refine wpAny_take (i := 8) (v := _) rfl (by kernel_rfl) (by kernel_rfl) (by kernel_rfl) (fun _ _ _ h => h) (Or.inl ⟨by rfl, fun W => by rfl⟩) ?_
  refine wpAny_done (by kernel_rfl) ?_ _
  have O9 := O3.out.grown hg9 (fun k hk => by have h1 := (World.ownsRow.lt O3.out k hk).1; have h2 := hb2.size; have h3 := D1.out.2.1.lt; simp at h2; omega)
  obtain ⟨A9, n9, c9, he9, -, hs9⟩ := O9.shape (fun _ => rfl)
  cases he9
  go_wp2
  refine bodyPost_ret (results_row_tmp rfl _ _ (w.heap.size + 1) _ _ _ rfl hb9 Tryz.underlying28 rfl (by kernel_rfl)) rfl ⟨A3, n3, c3, rfl, hs9, D3.out.2.2.trans (Only.below hg9 (by omega) D3.out.2.2.size)⟩
end Go.Proofs.YtjodpffdlggjgaaGreat
