/- Chapter 10: awake; RankShares. (fast region) -/
import Derived.Test.YtkjmacdekfbfhaaRank3
namespace Go.Proofs.Ytkjmacdekfbfhaa
open Go.RowKit
set_option linter.unusedSimpArgs false
set_option linter.unusedVariables false
set_option maxHeartbeats 2000000
set_option maxRecDepth 100000
abbrev l4 : List Smp := [⟨0, 4⟩, ⟨0, 1⟩, ⟨0, 3⟩, ⟨0, 2⟩]
theorem law_four (w : World) : Calls Try.prog 70 #[] w fun e w' => (∃ A, e = .returned (.slice A 4 4) ∧ SmpsAre w' A 4 4 l4) ∧ Below w.heap.size w w' := by
  go_enter Try.func70, Try.ntmps70
  go_wp2
  go_ret
  exact ⟨⟨_, rfl, slice_blk (l := l4) (fun _ => rfl) (Blk.new w _ _) rfl (by decide)⟩, by go_grown⟩
theorem nth_l4 : nthq l4 500 = (2, true) := by
  unfold nthq
  rw [if_neg (by decide), ← isort_sort]
  decide
theorem share_l4 : shareq l4 3 = 750 := by decide
theorem awake10 (w : World) : Calls Try.prog 24 #[] w fun e w' => e = .returned (.bool true) ∧ Below w.heap.size w w' := by
  have HF := Lib.hid (fun W => law_four W)
  have HN := Lib.hid (fun A W hW => rank_Nth A 4 4 l4 500 W hW (by omega) (by unfold I64; omega))
  have HS := Lib.hid (fun A W hW => rank_Share A 4 4 l4 3 W hW (by omega) (by unfold I64; omega))
  unfold NthS at HN
  rw [nth_l4] at HN
  rw [share_l4] at HS
  go_enter Try.func24, Try.ntmps24
  go_wp2_with (first
    | (go_at_call 70; refine (HF.out _).mono ?_; rintro e w1 ⟨⟨A1, rfl, hs1⟩, hb1⟩; have S1 := Lib.hid hs1; have B1 := Lib.hid hb1; clear hs1 hb1)
    | (go_at_call 25; refine (HN.out _ _ S1.out).mono ?_; rintro e w2 ⟨rfl, hb2⟩; have E2 := Lib.hid (B1.out.trans (hb2.mono B1.out.size)); clear hb2)
    | (go_at_call 30; refine (HS.out _ _ S1.out).mono ?_; rintro e w2 ⟨rfl, hb2⟩; have E3 := Lib.hid (E2.out.trans ((B1.out.trans (hb2.mono B1.out.size)).mono E2.out.size)); clear hb2))
  go_ret
  exact ⟨rfl, E3.out⟩
theorem walk_RankShares (A : Option Addr) (len cap : Nat) (l : List Smp) (v : Int) (w : World) (hs : SmpsAre w A len cap l) (hg : ∀ x ∈ l, x.good) (hv : I64 v) :
    Calls Try.prog 7 #[.slice A len cap, .int .i64 v] w fun e w' => e = .returned (.bool true) ∧ Below w.heap.size w w' := by
  have HS := Lib.hid hs
  have hle : len ≤ cap := hs.2.1
  have hm : cap ≤ 9223372036854775807 := by have := hs.2.2.1; unfold maxLen at this; omega
  have hll : l.length = len := hs.1
  by_cases hl : 60 < len
  · have d0 : decide ((60 : Int) < (len : Int)) = true := by simp; omega
    clear hs hg hll
    go_enter Try.func7, Try.ntmps7
    go_wp2_with (go_at_call 24; refine (awake10 _).mono ?_; rintro e v1 ⟨rfl, hb1⟩; have D1 := Lib.hid hb1; clear hb1)
    go_ret
    exact ⟨rfl, D1.out⟩
  have d0 : decide ((60 : Int) < (len : Int)) = false := by simp; omega
  have HSh := Lib.hid (fun W hW => rank_Share A len cap l v W hW (by omega) hv)
  have HU := Lib.hid (fun W hW => ref10_UpTo A len cap l v W hW (by omega))
  have hu : upq (valq l) v ≤ 60 := by have := upq_le (valq l) v; rw [valq_len] at this; omega
  have hsh : shareq l v = if len = 0 then 0 else 1000 * (upq (valq l) v : Int) / (len : Int) := by unfold shareq; rw [hll]
  generalize upq (valq l) v = U at *
  by_cases h0 : len = 0
  · rw [hsh, if_pos h0] at HSh
    have d1 : decide ((0 : Int) < (len : Int)) = false := by simp; omega
    have d2 : decide (0 < len) = false := by simp; omega
    clear hs hg hll hl h0 hsh
    go_enter Try.func7, Try.ntmps7
    go_wp2_with (first
      | (go_at_call 24; refine (awake10 _).mono ?_; rintro e v1 ⟨rfl, hb1⟩; have D1 := Lib.hid hb1; clear hb1)
      | (go_at_call 30; refine (HSh.out _ (slice_keep HS.out D1.out)).mono ?_; rintro e v2 ⟨rfl, hb2⟩; have D2 := Lib.hid (D1.out.trans (hb2.mono D1.out.size)); clear hb2))
    go_ret
    exact ⟨rfl, D2.out⟩
  · rw [hsh, if_neg h0] at HSh
    have d1 : decide ((0 : Int) < (len : Int)) = true := by simp; omega
    have d2 : decide (0 < len) = true := by simp; omega
    have hz : ¬ (len : Int) = 0 := by omega
    have hn1 : 1 ≤ len := by omega
    have hn2 : len ≤ 60 := by omega
    clear hs hg hll hl h0 hsh
    go_enter Try.func7, Try.ntmps7
    go_wp2_with (first
      | (go_at_call 24; refine (awake10 _).mono ?_; rintro e v1 ⟨rfl, hb1⟩; have D1 := Lib.hid hb1; clear hb1)
      | (go_at_call 29; refine (HU.out _ (slice_keep HS.out D1.out)).mono ?_; rintro e v2 ⟨rfl, hb2⟩; have D2 := Lib.hid (D1.out.trans (hb2.mono D1.out.size)); clear hb2)
      | (go_at_call 30; refine (HSh.out _ (slice_keep HS.out D2.out)).mono ?_; rintro e v3 ⟨rfl, hb3⟩; have D3 := Lib.hid (D2.out.trans (hb3.mono D2.out.size)); clear hb3))
    go_ret
    exact ⟨rfl, D3.out⟩
end Go.Proofs.Ytkjmacdekfbfhaa
