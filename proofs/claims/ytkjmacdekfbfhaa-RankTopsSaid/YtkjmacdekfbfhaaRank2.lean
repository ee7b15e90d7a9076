/- rank.Nth, rank.Share; the reference's UpTo. (fast region) -/
import Derived.Test.YtkjmacdekfbfhaaRankP
namespace Go.Proofs.Ytkjmacdekfbfhaa
open Go.RowKit
set_option linter.unusedSimpArgs false
set_option linter.unusedVariables false
set_option maxHeartbeats 2000000
set_option maxRecDepth 100000
theorem ownI_is {w : World} {base : Nat} {v : Value} {l : List Int} (h : OwnI w base v l) : ∃ A n c, v = .slice A n c ∧ n = l.length ∧ IntsAre w A n c l := h.shape (fun _ => rfl)
theorem share_eq {l : List Smp} {v : Int} {n : Nat} (hl : l.length = n) (hn : n ≠ 0) : shareq l v = floorq (1000 * (upq (valq l) v : Int)) n := by
  unfold shareq floorq
  rw [if_neg (by omega), if_neg (by omega), hl]
theorem rank_Share (A : Option Addr) (len cap : Nat) (l : List Smp) (v : Int) (w : World) (hs : SmpsAre w A len cap l) (hn : len ≤ 1000) (hv : I64 v) :
    Calls Try.prog 30 #[.slice A len cap, .int .i64 v] w fun e w' => e = .returned (.int .i64 (shareq l v)) ∧ Below w.heap.size w w' := by
  have HV := Lib.hid (window_Values A len cap l w hs hn)
  have hVl : (valq l).length = len := by rw [valq_len, hs.1]
  have HLl := Lib.hid hs.1
  have HVl := Lib.hid hVl
  have HU := Lib.hid (fun k => upq_le ((valq l).take k) v)
  have HU2 := Lib.hid (show upq (valq l) v ≤ len by rw [← hVl]; exact upq_le _ _)
  clear hs hVl
  generalize hvl : valq l = vs at *
  have HVs := Lib.hid hvl
  clear hvl
  go_enter Try.func30, Try.ntmps30
  go_wp2_with (go_at_call 72; refine HV.out.mono ?_; rintro e w1 ⟨u, rfl, ho1, hb1⟩; obtain ⟨A1, n1, c1, rfl, hn1, hi1⟩ := ownI_is ho1; obtain rfl : len = n1 := (by rw [hn1]; exact HVl.out.symm); have I1 := Lib.hid hi1; have B1 := Lib.hid hb1; clear ho1 hb1 hi1 hn1)
  go_loop [5, 11] (fun n i => ∃ k : Nat, k ≤ len ∧ i = .int .i64 k ∧ n = .int .i64 (upq (vs.take k) v : Nat)) (fun _ i => len - (intOf i).toNat)
  case atStart => exact ⟨0, Nat.zero_le _, rfl, rfl⟩
  case round =>
    obtain ⟨k, hk, rfl, rfl⟩ := hrel
    by_cases hlt : k < len
    · obtain ⟨b, off, x, rfl, hx, hb, hc⟩ := IntsAre.at_ I1.out hlt
      have hki : (k : Int) < (len : Int) := by omega
      have hnx := upq_next hx v
      have HN := Lib.hid hnx
      have hu := HU.out k
      have hu2 : ((vs.take k).length) ≤ k := List.length_take_le _ _
      have hu3 : upq (vs.take k) v ≤ 1000 := by omega
      generalize upq (vs.take k) v = U at *
      clear hx hb hnx hu hu2
      by_cases hxv : x ≤ v
      · have dx : decide (x ≤ v) = true := by simpa using hxv
        rw [if_pos hxv] at HN
        go_wp2
        go_round
        case rel => exact ⟨k + 1, by omega, by go_num, by rw [HN.out]; go_num⟩
        case measure => simp [intOf]; omega
      · have dx : decide (x ≤ v) = false := by simpa using hxv
        rw [if_neg hxv] at HN
        go_wp2
        go_round
        case rel => exact ⟨k + 1, by omega, by go_num, by rw [HN.out]; rfl⟩
        case measure => simp [intOf]; omega
    · have hE : vs.take k = vs := List.take_of_length_le (by have := HVl.out; omega)
      rw [hE]
      clear hE
      by_cases h0 : len = 0
      · have HR := Lib.hid (show shareq l v = 0 from if_pos (by have := HLl.out; omega))
        have d0 : ((len : Int) == 0) = true := by simp; omega
        clear h0
        go_wp2
        go_ret
        exact ⟨ret_int HR.out.symm, B1.out⟩
      · have d0 : ((len : Int) == 0) = false := by simp; omega
        have HR := Lib.hid (share_eq (v := v) HLl.out h0)
        rw [HVs.out] at HR
        have hu3 : upq vs v ≤ 1000 := by have := HU2.out; omega
        have HF := Lib.hid (fun W => sat_Floor (1000 * (upq vs v : Int)) len W (by unfold I64; omega) (by unfold I64; omega))
        have hfb : 0 ≤ floorq (1000 * (upq vs v : Int)) len ∧ floorq (1000 * (upq vs v : Int)) len ≤ 1000000 := by
          unfold floorq
          rw [if_neg (by omega)]
          refine ⟨Int.ediv_nonneg (by omega) (by omega), ?_⟩
          exact Int.le_trans (Int.ediv_le_self _ (by omega)) (by omega)
        generalize upq vs v = U at *
        have q1 := hfb.1
        have q2 := hfb.2
        generalize floorq (1000 * (U : Int)) len = R at *
        clear h0 hfb
        go_wp2_with (go_at_call 75; refine (HF.out _).mono ?_; rintro e v5 ⟨rfl, rfl⟩)
        go_ret
        exact ⟨ret_int HR.out.symm, B1.out⟩
theorem ref10_UpTo (A : Option Addr) (len cap : Nat) (l : List Smp) (v : Int) (w : World) (hs : SmpsAre w A len cap l) (hn : len ≤ 1000) :
    Calls Try.prog 29 #[.slice A len cap, .int .i64 v] w fun e w' => e = .returned (.int .i64 (upq (valq l) v : Nat)) ∧ Below w.heap.size w w' := by
  have HV := Lib.hid (ref09_Values A len cap l w hs hn)
  have hVl : (valq l).length = len := by rw [valq_len, hs.1]
  have HVl := Lib.hid hVl
  clear hs hVl
  generalize hvl : valq l = vs at *
  clear hvl
  have HU := Lib.hid (fun k => upq_le (vs.take k) v)
  go_enter Try.func29, Try.ntmps29
  go_wp2_with (go_at_call 74; refine HV.out.mono ?_; rintro e w1 ⟨u, rfl, ho1, hb1⟩; obtain ⟨A1, n1, c1, rfl, hn1, hi1⟩ := ownI_is ho1; obtain rfl : len = n1 := (by rw [hn1]; exact HVl.out.symm); have I1 := Lib.hid hi1; have B1 := Lib.hid hb1; clear ho1 hb1 hi1 hn1)
  go_loop [6, 7] (fun n i => ∃ k : Nat, k ≤ len ∧ i = .int .i64 k ∧ n = .int .i64 (upq (vs.take k) v : Nat)) (fun _ i => len - (intOf i).toNat)
  case atStart => exact ⟨0, Nat.zero_le _, rfl, rfl⟩
  case round =>
    obtain ⟨k, hk, rfl, rfl⟩ := hrel
    by_cases hlt : k < len
    · obtain ⟨b, off, x, rfl, hx, hb, hc⟩ := IntsAre.at_ I1.out hlt
      have hki : (k : Int) < (len : Int) := by omega
      have hnx := upq_next hx v
      have HN := Lib.hid hnx
      have hu := HU.out k
      have hu2 : ((vs.take k).length) ≤ k := List.length_take_le _ _
      have hu3 : upq (vs.take k) v ≤ 1000 := by omega
      generalize upq (vs.take k) v = U at *
      clear hx hb hnx hu hu2
      by_cases hxv : x ≤ v
      · have dx : decide (x ≤ v) = true := by simpa using hxv
        rw [if_pos hxv] at HN
        go_wp2
        go_round
        case rel => exact ⟨k + 1, by omega, by go_num, by rw [HN.out]; go_num⟩
        case measure => simp [intOf]; omega
      · have dx : decide (x ≤ v) = false := by simpa using hxv
        rw [if_neg hxv] at HN
        go_wp2
        go_round
        case rel => exact ⟨k + 1, by omega, by go_num, by rw [HN.out]; rfl⟩
        case measure => simp [intOf]; omega
    · have hE : vs.take k = vs := List.take_of_length_le (by have := HVl.out; omega)
      rw [hE]
      clear hE
      go_wp2
      go_ret
      exact ⟨rfl, B1.out⟩
end Go.Proofs.Ytkjmacdekfbfhaa
