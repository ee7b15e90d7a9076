/- rank.Nth; chapter 10's example. (fast region) -/
import Derived.Test.YtkjmacdekfbfhaaRank2
namespace Go.Proofs.Ytkjmacdekfbfhaa
open Go.RowKit
set_option linter.unusedSimpArgs false
set_option linter.unusedVariables false
set_option maxHeartbeats 2000000
set_option maxRecDepth 100000
def NthS (l : List Smp) (share : Int) (w : World) (e : Ending) (w' : World) : Prop := e = .returned (.tuple #[.int .i64 (nthq l share).1, .bool (nthq l share).2]) ∧ Below w.heap.size w w'
theorem rank_Nth (A : Option Addr) (len cap : Nat) (l : List Smp) (share : Int) (w : World) (hs : SmpsAre w A len cap l) (hn : len ≤ 1000) (hsh : I64 share) :
    Calls Try.prog 25 #[.slice A len cap, .int .i64 share] w (NthS l share w) := by
  have HV := Lib.hid (rank_Sorted A len cap l w hs hn)
  have hVl : (sortI (valq l)).length = len := by rw [sortI_len, valq_len, hs.1]
  have hll : l.length = len := hs.1
  have HVl := Lib.hid hVl
  clear hs
  by_cases hbad : l.length = 0 ∨ share < 0 ∨ 1000 < share
  · have HQ := Lib.hid (show NthS l share w = fun e w' => e = .returned (.tuple #[.int .i64 0, .bool false]) ∧ Below w.heap.size w w' from by unfold NthS nthq; rw [if_pos hbad])
    generalize sortI (valq l) = S at *
    have hb2 : (((len : Int) == 0) = true) ∨ (((len : Int) == 0) = false ∧ decide (share < 0) = true) ∨ (((len : Int) == 0) = false ∧ decide (share < 0) = false ∧ decide (1000 < share) = true) := by
      by_cases h0 : len = 0
      · left; simp; omega
      · by_cases h1 : share < 0
        · right; left; exact ⟨by simp; omega, by simpa using h1⟩
        · right; right; exact ⟨by simp; omega, by simpa using h1, by simp; omega⟩
    clear hbad hVl hll
    rcases hb2 with d0 | ⟨d0, d1⟩ | ⟨d0, d1, d2⟩
    all_goals
      go_enter Try.func25, Try.ntmps25
      go_wp2_with (go_at_call 27; refine HV.out.mono ?_; rintro e w1 ⟨u, rfl, ho1, hb1⟩; obtain ⟨A1, n1, c1, rfl, hn1, -⟩ := ownI_is ho1; obtain rfl : len = n1 := (by rw [hn1]; exact HVl.out.symm); have B1 := Lib.hid hb1; clear ho1 hb1 hn1)
      go_ret2
      rw [HQ.out]
      exact ⟨rfl, B1.out⟩
  · have s0 : 0 ≤ share := by omega
    have s1 : share ≤ 1000 := by omega
    have hl0 : len ≠ 0 := by omega
    have HQ := Lib.hid (show NthS l share w = fun e w' => e = .returned (.tuple #[.int .i64 ((sortI (valq l)).getD (nidx len share) 0), .bool true]) ∧ Below w.heap.size w w' from by unfold NthS nthq; rw [if_neg hbad, hll])
    obtain ⟨b1, b2, b3⟩ := nidx_bd s0 s1 hl0
    obtain ⟨c1, c2, c3, c4⟩ := ceil_bd (n := len) s0 s1
    have hX0 : 0 ≤ share * (len : Int) := Int.mul_nonneg s0 (by omega)
    have hX1 : share * (len : Int) ≤ 1000 * len := Int.mul_le_mul_of_nonneg_right s1 (by omega)
    have hw1 : IntKind.i64.wrap (share * (len : Int)) = share * (len : Int) := IntWalk.i64_in _ (by omega)
    have HC := Lib.hid (fun W => sat_Ceil (share * len) 1000 W (by unfold I64; omega) (by unfold I64; omega))
    have hj : nidx len share = (max (ceilq (share * len) 1000) 1).toNat - 1 := by unfold nidx; omega
    have d0 : ((len : Int) == 0) = false := by simp; omega
    have d1 : decide (share < 0) = false := by simp; omega
    have d2 : decide (1000 < share) = false := by simp; omega
    generalize sortI (valq l) = S at *
    generalize ceilq (share * len) 1000 = C at *
    generalize nidx len share = j at *
    have HJ := Lib.hid hj
    have hm0 : 0 ≤ max C 1 - 1 := by omega
    have hm1 : max C 1 - 1 < (len : Int) := by omega
    have hm2 : 1 ≤ max C 1 := by omega
    have hm3 : max C 1 ≤ 1000 := by omega
    clear hbad hVl hll b2 b3 c1 c2 c3 c4 hX0 hX1 hsh hj
    go_enter Try.func25, Try.ntmps25
    go_wp2_with (first
      | (go_at_call 27; refine HV.out.mono ?_; rintro e w1 ⟨u, rfl, ho1, hb1⟩; obtain ⟨A1, n1, c1, rfl, hn1, hi1⟩ := ownI_is ho1; obtain rfl : len = n1 := (by rw [hn1]; exact HVl.out.symm); have B1 := Lib.hid hb1; obtain ⟨b, off, x, rfl, hx, hb, hc⟩ := IntsAre.at_ hi1 b1; rw [HJ.out] at hc; have HX2 := Lib.hid hx; clear ho1 hb1 hn1 hi1 hx hb)
      | (go_at_call 71; refine (HC.out _).mono ?_; rintro e w2 ⟨rfl, rfl⟩))
    go_ret2
    rw [HQ.out]
    exact ⟨by rw [List.getD_eq_getElem?_getD, HX2.out]; rfl, B1.out⟩
end Go.Proofs.Ytkjmacdekfbfhaa
