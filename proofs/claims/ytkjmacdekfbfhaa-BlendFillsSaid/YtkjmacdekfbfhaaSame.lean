/- flywheelref06.Same. -/
import Derived.Test.YtkjmacdekfbfhaaOwn
import Derived.Test.YtkjmacdekfbfhaaSat
import Derived.Deep.QuietTactic
import Derived.BigQuiet
namespace Go.Proofs.Ytkjmacdekfbfhaa
open Go.RowKit
set_option linter.unusedSimpArgs false
set_option linter.unusedVariables false
set_option maxHeartbeats 2000000

theorem below_drewN {B : Nat} {a w : World} (h : Below B a w) (n : Nat) : Below B a (w.drewN n) := ⟨h.os, h.tape, h.output, h.size, h.block⟩
theorem ref_Same (A B : Option Addr) (la ca lb cb : Nat) (xs ys : List Int) (w : World) (hx : IntsAre w A la ca xs) (hy : IntsAre w B lb cb ys) :
    Calls Try.prog 26 #[.slice A la ca, .slice B lb cb] w fun e w' => e = .returned (.bool (xs == ys)) ∧ Below w.heap.size w w' := by
  have l1 := hx.1
  have l2 := hy.1
  have m1 : la < 9223372036854775807 ∨ la = 9223372036854775807 := by have := hx.2.1; have := hx.2.2.1; unfold maxLen at *; omega
  by_cases hl : la = lb
  · subst hl
    have HX := Lib.hid hx
    have HY := Lib.hid hy
    have H1 := Lib.hid l1
    have H2 := Lib.hid l2
    clear hx hy l1 l2
    go_enter Try.func26, Try.ntmps26
    go_wp2
    go_loopw [5] (fun i wr => ∃ k : Nat, k ≤ la ∧ i = .int .i64 k ∧ xs.take k = ys.take k ∧ Below w.heap.size w wr) (fun i _ => la - (intOf i).toNat)
    case atStart => exact ⟨0, Nat.zero_le _, rfl, rfl, Below.refl _ _⟩
    case round =>
      obtain ⟨k, hk, rfl, he, hbel⟩ := hrel
      have HE := Lib.hid he
      clear he
      by_cases hlt : k < la
      · obtain ⟨b, off, x, rfl, hx, hb, hc⟩ := HX.out.at_ hlt
        obtain ⟨b2, off2, y, rfl, hy, hb2, hc2⟩ := HY.out.at_ hlt
        have HX2 := Lib.hid hx
        have HY2 := Lib.hid hy
        clear hx hy
        have kc := (hbel.cell (p := ⟨b, off + k, none⟩) hb).trans hc
        have kc2 := (hbel.cell (p := ⟨b2, off2 + k, none⟩) hb2).trans hc2
        have hki : (k : Int) < (la : Int) := by omega
        clear hc hc2 hb hb2
        by_cases hxy : x = y
        · subst hxy
          go_wp2
          go_quiet (fail)
          go_wp2
          go_roundw
          case rel => exact ⟨k + 1, by omega, by go_num, by rw [take_next HX2.out, take_next HY2.out, HE.out], below_drewN hbel nq⟩
          case measure => simp [intOf]; omega
        · have hq : (xs == ys) = false := by
            simp only [beq_eq_false_iff_ne]
            intro h
            rw [h, HY2.out] at HX2
            exact hxy (Option.some.inj HX2.out).symm
          have d : (x == y) = false := by simpa using hxy
          have d2 : (x != y) = true := by simpa using hxy
          have HQ := Lib.hid hq
          clear hq
          go_wp2
          go_quiet (fail)
          go_wp2
          go_ret
          exact ⟨by rw [HQ.out]; rfl, below_drewN hbel nq⟩
      · go_wp2
        go_ret
        refine ⟨?_, hbel⟩
        have h1 := HE.out
        rw [List.take_of_length_le (by have := H1.out; omega), List.take_of_length_le (by have := H2.out; omega)] at h1
        rw [h1]; simp
  · have hq : (xs == ys) = false := by
      simp only [beq_eq_false_iff_ne]
      intro h; subst h; omega
    rw [hq]
    have d : ((la : Int) == (lb : Int)) = false := by simp; omega
    clear hq hx hy l1 l2
    go_enter Try.func26, Try.ntmps26
    go_wp2
    go_ret
    exact ⟨rfl, Below.refl _ _⟩
end Go.Proofs.Ytkjmacdekfbfhaa
