/- Chapter 10's law: RankNth. (fast region) -/
import Derived.Test.YtkjmacdekfbfhaaRank4
import Derived.Test.YtkjmacdekfbfhaaW10
import Derived.Test.YtkjmacdekfbfhaaSame
namespace Go.Proofs.Ytkjmacdekfbfhaa
open Go.RowKit
set_option linter.unusedSimpArgs false
set_option linter.unusedVariables false
set_option maxHeartbeats 4000000
set_option maxRecDepth 100000
theorem nth_other {l : List Smp} {share other : Int} (h0 : 0 ≤ share) (hl : l.length ≠ 0) :
    ((nthq l other).2 = false) ∨ ((nthq l other).2 = true ∧ decide (other < share) = true) ∨ ((nthq l other).2 = true ∧ decide (other < share) = false ∧ decide ((sortI (valq l)).getD (nidx l.length share) 0 ≤ (nthq l other).1) = true) := by
  by_cases hb : l.length = 0 ∨ other < 0 ∨ 1000 < other
  · left; unfold nthq; rw [if_pos hb]
  · right
    have e : nthq l other = ((sortI (valq l)).getD (nidx l.length other) 0, true) := by unfold nthq; rw [if_neg hb]
    rw [e]
    by_cases hlt : other < share
    · exact .inl ⟨rfl, by simpa using hlt⟩
    · exact .inr ⟨rfl, by simpa using hlt, by have := nth_mono (l := l) h0 (show share ≤ other by omega) (by omega) hl; simpa using this⟩
theorem nth_bd {l : List Smp} (hg : ∀ x ∈ l, x.good) (i : Nat) : 0 ≤ (sortI (valq l)).getD i 0 ∧ (sortI (valq l)).getD i 0 ≤ 9223372036854775807 := by
  rw [List.getD_eq_getElem?_getD]
  cases h : (sortI (valq l))[i]? with
  | none => simp
  | some y =>
    have := List.mem_of_getElem? h
    have := valq_bd hg y ((sortI_perm _).mem_iff.1 this)
    simpa using this
theorem walk_RankNth (A : Option Addr) (len cap : Nat) (l : List Smp) (share other : Int) (w : World) (hs : SmpsAre w A len cap l) (hg : ∀ x ∈ l, x.good) (hsh : I64 share) (hot : I64 other) :
    Calls Try.prog 6 #[.slice A len cap, .int .i64 share, .int .i64 other] w fun e w' => e = .returned (.bool true) ∧ Below w.heap.size w w' := by
  have HS := Lib.hid hs
  have hle : len ≤ cap := hs.2.1
  have hm : cap ≤ 9223372036854775807 := by have := hs.2.2.1; unfold maxLen at this; omega
  have hll : l.length = len := hs.1
  by_cases hl : 60 < len
  · have d0 : decide ((60 : Int) < (len : Int)) = true := by simp; omega
    clear hs hg hll hsh hot
    go_enter Try.func6, Try.ntmps6
    go_wp2_with (go_at_call 24; refine (awake10 _).mono ?_; rintro e v1 ⟨rfl, hb1⟩; have D1 := Lib.hid hb1; clear hb1)
    go_ret
    exact ⟨rfl, D1.out⟩
  have d0 : decide ((60 : Int) < (len : Int)) = false := by simp; omega
  have hn60 : len ≤ 60 := by omega
  have HN1 := Lib.hid (fun W hW => rank_Nth A len cap l share W hW (by omega) hsh)
  have HN2 := Lib.hid (fun W hW => rank_Nth A len cap l other W hW (by omega) hot)
  unfold NthS at HN1 HN2
  have HR1 := Lib.hid (fun W hW => rank_Sorted A len cap l W hW (by omega))
  have HR2 := Lib.hid (fun W hW => ref10_Sorted A len cap l W hW (by omega))
  rw [isort_sort] at HR2
  have HU := Lib.hid (fun v W hW => ref10_UpTo A len cap l v W hW (by omega))
  have HSm := Lib.hid (fun A1 B1 n1 c1 n2 c2 W h1 h2 => ref_Same A1 B1 n1 c1 n2 c2 (sortI (valq l)) (sortI (valq l)) W h1 h2)
  rw [show (sortI (valq l) == sortI (valq l)) = true from by simp] at HSm
  have hSl : (sortI (valq l)).length = len := by rw [sortI_len, valq_len, hll]
  have HSl := Lib.hid hSl
  by_cases hbad : l.length = 0 ∨ share < 0 ∨ 1000 < share
  · have e : nthq l share = (0, false) := by unfold nthq; rw [if_pos hbad]
    rw [e] at HN1
    have hb2 : (((len : Int) == 0) = true) ∨ (((len : Int) == 0) = false ∧ decide (share < 0) = true) ∨ (((len : Int) == 0) = false ∧ decide (share < 0) = false ∧ decide (1000 < share) = true) := by
      by_cases h0 : len = 0
      · left; simp; omega
      · by_cases h1 : share < 0
        · right; left; exact ⟨by simp; omega, by simpa using h1⟩
        · right; right; exact ⟨by simp; omega, by simpa using h1, by simp; omega⟩
    generalize sortI (valq l) = S at *
    clear hs hg hll hsh hot hbad e hSl hl HN2 HU
    rcases hb2 with b0 | ⟨b0, b1⟩ | ⟨b0, b1, b2⟩
    all_goals
      go_enter Try.func6, Try.ntmps6
      go_wp2_with (first
        | (go_at_call 24; refine (awake10 _).mono ?_; rintro e v1 ⟨rfl, hb1⟩; have D1 := Lib.hid hb1; clear hb1)
        | (go_at_call 25; refine (HN1.out _ (slice_keep HS.out D1.out)).mono ?_; rintro e v2 ⟨rfl, hb2⟩; have D2 := Lib.hid (D1.out.trans (hb2.mono D1.out.size)); clear hb2)
        | (go_at_call 27; refine (HR1.out _ (slice_keep HS.out D2.out)).mono ?_; rintro e v3 ⟨u3, rfl, ho3, hb3⟩; obtain ⟨A3, n3, c3, rfl, -, hi3⟩ := ownI_is ho3; have I3 := Lib.hid hi3; have D3 := Lib.hid (D2.out.trans (hb3.mono D2.out.size)); clear ho3 hb3 hi3)
        | (go_at_call 28; refine (HR2.out _ (slice_keep HS.out D3.out)).mono ?_; rintro e v4 ⟨u4, rfl, ho4, hb4⟩; obtain ⟨A4, n4, c4, rfl, -, hi4⟩ := ownI_is ho4; have I4 := Lib.hid hi4; have J3 := Lib.hid (slice_keep I3.out hb4); have D4 := Lib.hid (D3.out.trans (hb4.mono D3.out.size)); clear ho4 hb4 hi4)
        | (go_at_call 26; refine (HSm.out _ _ _ _ _ _ _ J3.out I4.out).mono ?_; rintro e v5 ⟨rfl, hb5⟩; have D5 := Lib.hid (D4.out.trans (hb5.mono D4.out.size)); clear hb5))
      go_ret
      exact ⟨rfl, D5.out⟩
  · have s0 : 0 ≤ share := by omega
    have s1 : share ≤ 1000 := by omega
    have hl0 : l.length ≠ 0 := by omega
    have hlen1 : 1 ≤ len := by omega
    have e : nthq l share = ((sortI (valq l)).getD (nidx l.length share) 0, true) := by unfold nthq; rw [if_neg hbad]
    rw [e] at HN1
    have hok := nth_ok s0 s1 hl0
    have hoc := nth_other (other := other) s0 hl0
    have hbd := nth_bd hg (nidx l.length share)
    have hu1 := upq_le (valq l) ((sortI (valq l)).getD (nidx l.length share) 0 - 1)
    have hu2 := upq_le (valq l) ((sortI (valq l)).getD (nidx l.length share) 0)
    rw [valq_len] at hu1 hu2
    obtain ⟨k1, k2, k3, k4⟩ := hok
    generalize (sortI (valq l)).getD (nidx l.length share) 0 = n at *
    rw [hll] at k2 k3 hu1 hu2
    have HU1 := Lib.hid (fun W hW => HU.out (n - 1) W hW)
    have HU2 := Lib.hid (fun W hW => HU.out n W hW)
    generalize upq (valq l) (n - 1) = U1 at *
    generalize upq (valq l) n = U2 at *
    generalize nthq l other = MO at *
    obtain ⟨M, mh⟩ := MO
    simp only at hoc
    generalize sortI (valq l) = S at *
    have hX0 : 0 ≤ share * (len : Int) := Int.mul_nonneg s0 (by omega)
    have hX1 : share * (len : Int) ≤ 1000 * len := Int.mul_le_mul_of_nonneg_right s1 (by omega)
    have hw1 : IntKind.i64.wrap (share * (len : Int)) = share * (len : Int) := IntWalk.i64_in _ (by omega)
    have b0 : ((len : Int) == 0) = false := by simp; omega
    have b1 : decide (share < 0) = false := by simp; omega
    have b2 : decide (1000 < share) = false := by simp; omega
    have b3 : decide (n < S.headD 0) = false := decide_eq_false (by omega)
    have b4 : decide (1000 * (U2 : Int) < share * (len : Int)) = false := by simp; omega
    have b5 : ((U2 : Int) == 0) = false := by simp; omega
    have n0 := hbd.1
    have n1 := hbd.2
    have hU1 : U1 ≤ 60 := by omega
    have hU2 : U2 ≤ 60 := by omega
    have HHd := Lib.hid (show S[0]? = some (S.headD 0) from by
      cases hc : S with
      | nil => rw [hc] at hSl; simp at hSl; omega
      | cons a b => rfl)
    have hcase : (n = S.headD 0) ∨ (n ≠ S.headD 0 ∧ decide (share * (len : Int) ≤ 1000 * (U1 : Int)) = false) := by
      by_cases h : n = S.headD 0
      · exact .inl h
      · exact .inr ⟨h, by have := k2 h; simp; omega⟩
    generalize S.headD 0 = H0 at *
    have hpos0 : 0 < len := by omega
    have HPos := Lib.hid hpos0
    clear hs hg hll hsh hot hbad e hSl hl HU k1 k2 k3 k4 hbd hX0 hX1 hl0 hu1 hu2
    rcases hcase with hcA | ⟨hcA, hcB⟩
    · obtain rfl : n = H0 := hcA
      rcases hoc with rfl | ⟨rfl, o1⟩ | ⟨rfl, o1, o2⟩
      all_goals
        go_enter Try.func6, Try.ntmps6
        go_wp2_with (first
          | (go_at_call 24; refine (awake10 _).mono ?_; rintro e v1 ⟨rfl, hb1⟩; have D1 := Lib.hid hb1; clear hb1)
          | (go_at_call 25; (with_reducible refine (HN1.out _ (slice_keep HS.out D1.out)).mono ?_); rintro e v2 ⟨rfl, hb2⟩; have D2 := Lib.hid (D1.out.trans (hb2.mono D1.out.size)); clear hb2)
          | (go_at_call 27; refine (HR1.out _ (slice_keep HS.out D2.out)).mono ?_; rintro e v3 ⟨u3, rfl, ho3, hb3⟩; obtain ⟨A3, n3, c3, rfl, -, hi3⟩ := ownI_is ho3; have I3 := Lib.hid hi3; have D3 := Lib.hid (D2.out.trans (hb3.mono D2.out.size)); clear ho3 hb3 hi3)
          | (go_at_call 28; (with_reducible refine (HR2.out _ (slice_keep HS.out D3.out)).mono ?_); rintro e v4 ⟨u4, rfl, ho4, hb4⟩; obtain ⟨A4, n4, c4, rfl, -, hi4⟩ := ownI_is ho4; have I4 := Lib.hid hi4; have J3 := Lib.hid (slice_keep I3.out hb4); have D4 := Lib.hid (D3.out.trans (hb4.mono D3.out.size)); clear ho4 hb4 hi4)
          | (go_at_call 26; refine (HSm.out _ _ _ _ _ _ _ J3.out I4.out).mono ?_; rintro e v5 ⟨rfl, hb5⟩; have D5 := Lib.hid (D4.out.trans (hb5.mono D4.out.size)); clear hb5)
          | (go_at_call 28; (with_reducible refine (HR2.out _ (slice_keep HS.out D5.out)).mono ?_); rintro e v6 ⟨u6, rfl, ho6, hb6⟩; obtain ⟨A6, n6, c6, rfl, hn6, hi6⟩ := ownI_is ho6; obtain rfl : len = n6 := (by rw [hn6]; exact HSl.out.symm); obtain ⟨b6, off6, x6, rfl, hx6, hbb6, hc6⟩ := IntsAre.at_ hi6 HPos.out; obtain rfl : n = x6 := (by rw [HHd.out] at hx6; injection hx6); rw [Nat.add_zero] at hc6; have D6 := Lib.hid (D5.out.trans (hb6.mono D5.out.size)); have HC6 := Lib.hid (fun (W : World) (h : Below v6.heap.size v6 W) => (h.cell (p := ⟨b6, off6, none⟩) hbb6).trans hc6); clear ho6 hb6 hi6 hn6 hx6 hbb6)
          | (go_at_call 29; (with_reducible refine (HU2.out _ (slice_keep HS.out D6.out)).mono ?_); rintro e v8 ⟨rfl, hb⟩; have D8 := Lib.hid (D6.out.trans (hb.mono D6.out.size)); clear hb)
          | (go_at_call 29; (with_reducible refine (HU2.out _ (slice_keep HS.out D8.out)).mono ?_); rintro e v9 ⟨rfl, hb⟩; have D9 := Lib.hid (D8.out.trans (hb.mono D8.out.size)); clear hb)
          | (go_at_call 25; (with_reducible refine (HN2.out _ (slice_keep HS.out D9.out)).mono ?_); rintro e v10 ⟨rfl, hb⟩; have D10 := Lib.hid (D9.out.trans (hb.mono D9.out.size)); clear hb))
        go_ret
        exact ⟨rfl, D10.out⟩
    · have hcC : (n != H0) = true := by simpa using hcA
      have hcD : (n == H0) = false := by simpa using hcA
      clear hcA
      rcases hoc with rfl | ⟨rfl, o1⟩ | ⟨rfl, o1, o2⟩
      all_goals
        go_enter Try.func6, Try.ntmps6
        go_wp2_with (first
          | (go_at_call 24; refine (awake10 _).mono ?_; rintro e v1 ⟨rfl, hb1⟩; have D1 := Lib.hid hb1; clear hb1)
          | (go_at_call 25; (with_reducible refine (HN1.out _ (slice_keep HS.out D1.out)).mono ?_); rintro e v2 ⟨rfl, hb2⟩; have D2 := Lib.hid (D1.out.trans (hb2.mono D1.out.size)); clear hb2)
          | (go_at_call 27; refine (HR1.out _ (slice_keep HS.out D2.out)).mono ?_; rintro e v3 ⟨u3, rfl, ho3, hb3⟩; obtain ⟨A3, n3, c3, rfl, -, hi3⟩ := ownI_is ho3; have I3 := Lib.hid hi3; have D3 := Lib.hid (D2.out.trans (hb3.mono D2.out.size)); clear ho3 hb3 hi3)
          | (go_at_call 28; (with_reducible refine (HR2.out _ (slice_keep HS.out D3.out)).mono ?_); rintro e v4 ⟨u4, rfl, ho4, hb4⟩; obtain ⟨A4, n4, c4, rfl, -, hi4⟩ := ownI_is ho4; have I4 := Lib.hid hi4; have J3 := Lib.hid (slice_keep I3.out hb4); have D4 := Lib.hid (D3.out.trans (hb4.mono D3.out.size)); clear ho4 hb4 hi4)
          | (go_at_call 26; refine (HSm.out _ _ _ _ _ _ _ J3.out I4.out).mono ?_; rintro e v5 ⟨rfl, hb5⟩; have D5 := Lib.hid (D4.out.trans (hb5.mono D4.out.size)); clear hb5)
          | (go_at_call 28; (with_reducible refine (HR2.out _ (slice_keep HS.out D5.out)).mono ?_); rintro e v6 ⟨u6, rfl, ho6, hb6⟩; obtain ⟨A6, n6, c6, rfl, hn6, hi6⟩ := ownI_is ho6; obtain rfl : len = n6 := (by rw [hn6]; exact HSl.out.symm); obtain ⟨b6, off6, x6, rfl, hx6, hbb6, hc6⟩ := IntsAre.at_ hi6 HPos.out; obtain rfl : H0 = x6 := (by rw [HHd.out] at hx6; injection hx6); rw [Nat.add_zero] at hc6; have D6 := Lib.hid (D5.out.trans (hb6.mono D5.out.size)); have HC6 := Lib.hid (fun (W : World) (h : Below v6.heap.size v6 W) => (h.cell (p := ⟨b6, off6, none⟩) hbb6).trans hc6); clear ho6 hb6 hi6 hn6 hx6 hbb6)
          | (go_at_call 29; (with_reducible refine (HU1.out _ (slice_keep HS.out D6.out)).mono ?_); rintro e v7 ⟨rfl, hb⟩; have D7 := Lib.hid (D6.out.trans (hb.mono D6.out.size)); clear hb)
          | (go_at_call 29; (with_reducible refine (HU2.out _ (slice_keep HS.out D7.out)).mono ?_); rintro e v8 ⟨rfl, hb⟩; have D8 := Lib.hid (D7.out.trans (hb.mono D7.out.size)); clear hb)
          | (go_at_call 29; (with_reducible refine (HU2.out _ (slice_keep HS.out D8.out)).mono ?_); rintro e v9 ⟨rfl, hb⟩; have D9 := Lib.hid (D8.out.trans (hb.mono D8.out.size)); clear hb)
          | (go_at_call 25; (with_reducible refine (HN2.out _ (slice_keep HS.out D9.out)).mono ?_); rintro e v10 ⟨rfl, hb⟩; have D10 := Lib.hid (D9.out.trans (hb.mono D9.out.size)); clear hb))
        go_ret
        exact ⟨rfl, D10.out⟩
end Go.Proofs.Ytkjmacdekfbfhaa
