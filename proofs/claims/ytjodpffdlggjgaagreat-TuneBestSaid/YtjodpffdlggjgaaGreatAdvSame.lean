/- flywheelref14.Same: whether two lists of decisions are alike. -/
import Derived.Test.YtjodpffdlggjgaaGreatTrial
import Derived.Test.YtjodpffdlggjgaaGreatRegG
import Derived.Test.YtjodpffdlggjgaaGreatEqs
namespace Go.Proofs.YtjodpffdlggjgaaGreat
open Go.RowKit
set_option linter.unusedSimpArgs false
set_option linter.unusedVariables false
set_option maxHeartbeats 2000000
set_option maxRecDepth 100000

def advEq (x y : Adv) : Bool := decide (x = y)
theorem eq_adv (x y : Adv) :
    (∀ (W : World) (op : BinOp) (o1 o2 : Operand), (eqGuard op 68 o1 o2 (.agg #[.int .i64 x.tick, .int .i64 x.load, .int .i64 x.want, .int .i64 x.repl, .int .i64 x.why]) (.agg #[.int .i64 y.tick, .int .i64 y.load, .int .i64 y.want, .int .i64 y.repl, .int .i64 y.why])).run Tryz.prog W = .ok () W) ∧
    (∀ W : World, (binOp .eql 68 (.agg #[.int .i64 x.tick, .int .i64 x.load, .int .i64 x.want, .int .i64 x.repl, .int .i64 x.why]) (.agg #[.int .i64 y.tick, .int .i64 y.load, .int .i64 y.want, .int .i64 y.repl, .int .i64 y.why])).run Tryz.prog W = .ok (.bool (advEq x y)) W) ∧
    (∀ W : World, (binOp .neq 68 (.agg #[.int .i64 x.tick, .int .i64 x.load, .int .i64 x.want, .int .i64 x.repl, .int .i64 x.why]) (.agg #[.int .i64 y.tick, .int .i64 y.load, .int .i64 y.want, .int .i64 y.repl, .int .i64 y.why])).run Tryz.prog W = .ok (.bool (!advEq x y)) W) := by
  refine eq_ints (by kernel_rfl) (by kernel_rfl) (by kernel_rfl) (by kernel_rfl) [.i64, .i64, .i64, .i64, .i64] [x.tick, x.load, x.want, x.repl, x.why] [y.tick, y.load, y.want, y.repl, y.why] (by kernel_rfl) (by kernel_rfl) (by kernel_rfl) _ _ rfl rfl _ ?_
  obtain ⟨a, b, c, d, e⟩ := x
  obtain ⟨a', b', c', d', e'⟩ := y
  unfold advEq
  rw [Bool.eq_iff_iff]
  simp
theorem ref14_Same (A B : Option Addr) (la ca lb cb : Nat) (xs ys : List Adv) (w : World) (hx : AdvsAre w A la ca xs) (hy : AdvsAre w B lb cb ys) :
    Calls Tryz.prog 31 #[.slice A la ca, .slice B lb cb] w fun e w' => e = .returned (.bool (decide (xs = ys))) ∧ Below w.heap.size w w' := by
  have l1 := hx.1
  have l2 := hy.1
  have m1 : la < 9223372036854775807 ∨ la = 9223372036854775807 := by have := hx.2.1; have := hx.2.2.1; unfold maxLen at *; omega
  by_cases hl : la = lb
  · subst hl
    have HX := Lib.hid hx
    have HY := Lib.hid hy
    have H1 := Lib.hid l1
    have H2 := Lib.hid l2
    clear hx hy l1 l2
    go_enter Tryz.func31, Tryz.ntmps31
    go_wp2
    go_loopw [5] (fun i wr => ∃ k : Nat, k ≤ la ∧ i = .int .i64 k ∧ xs.take k = ys.take k ∧ Below w.heap.size w wr) (fun i _ => la - (intOf i).toNat)
    case atStart => exact ⟨0, Nat.zero_le _, rfl, rfl, Below.refl _ _⟩
    case round =>
      obtain ⟨k, hk, rfl, he, hbel⟩ := hrel
      have HE := Lib.hid he
      clear he
      by_cases hlt : k < la
      · obtain ⟨b, off, x, rfl, hx, hb, t0, t1, t2, t3, t4⟩ := HX.out.at_ hlt
        obtain ⟨b2, off2, y, rfl, hy, hb2, s0, s1, s2, s3, s4⟩ := HY.out.at_ hlt
        have HX2 := Lib.hid hx
        have HY2 := Lib.hid hy
        clear hx hy
        have kt0 := (hbel.cell (p := ⟨b, off + k * 5, none⟩) hb).trans t0
        have kt1 := (hbel.cell (p := ⟨b, off + k * 5 + 1, none⟩) hb).trans t1
        have kt2 := (hbel.cell (p := ⟨b, off + k * 5 + 2, none⟩) hb).trans t2
        have kt3 := (hbel.cell (p := ⟨b, off + k * 5 + 3, none⟩) hb).trans t3
        have kt4 := (hbel.cell (p := ⟨b, off + k * 5 + 4, none⟩) hb).trans t4
        have ks0 := (hbel.cell (p := ⟨b2, off2 + k * 5, none⟩) hb2).trans s0
        have ks1 := (hbel.cell (p := ⟨b2, off2 + k * 5 + 1, none⟩) hb2).trans s1
        have ks2 := (hbel.cell (p := ⟨b2, off2 + k * 5 + 2, none⟩) hb2).trans s2
        have ks3 := (hbel.cell (p := ⟨b2, off2 + k * 5 + 3, none⟩) hb2).trans s3
        have ks4 := (hbel.cell (p := ⟨b2, off2 + k * 5 + 4, none⟩) hb2).trans s4
        have hki : (k : Int) < (la : Int) := by omega
        clear hb hb2 t0 t1 t2 t3 t4 s0 s1 s2 s3 s4
        by_cases hxy : x = y
        · subst hxy
          obtain ⟨q1, q2, q3⟩ := eq_adv x x
          have d : advEq x x = true := decide_eq_true rfl
          clear q2
          go_wp2
          go_quiet (fail)
          go_wp2
          go_roundw
          case rel => exact ⟨k + 1, by omega, by go_num, by rw [take_next HX2.out, take_next HY2.out, HE.out], below_drewN hbel nq⟩
          case measure => simp [intOf]; omega
        · have hq : decide (xs = ys) = false := by
            simp only [decide_eq_false_iff_not]
            intro h
            rw [h, HY2.out] at HX2
            exact hxy (Option.some.inj HX2.out).symm
          have d : advEq x y = false := decide_eq_false hxy
          obtain ⟨q1, q2, q3⟩ := eq_adv x y
          have HQ := Lib.hid hq
          clear hq hxy q2
          go_wp2
          go_quiet (fail)
          go_wp2
          go_ret
          exact ⟨by rw [HQ.out]; rfl, below_drewN hbel nq⟩
      · go_wp2
        go_ret
        refine ⟨?_, hbel⟩
        have h1 := HE.out
        rw [List.take_of_length_le (by have := H1.out; omega), List.take_of_length_le (by have := H2.out; omega)] at h1
        rw [h1]; simp
  · have hq : decide (xs = ys) = false := by
      simp only [decide_eq_false_iff_not]
      intro h; subst h; omega
    rw [hq]
    have d : ((la : Int) == (lb : Int)) = false := by simp; omega
    clear hq hx hy l1 l2
    go_enter Tryz.func31, Tryz.ntmps31
    go_wp2
    go_ret
    exact ⟨rfl, Below.refl _ _⟩
end Go.Proofs.YtjodpffdlggjgaaGreat
