/- RankTops: the walk. (fast region, no defers) -/
import Derived.Test.YtkjmacdekfbfhaaStab12
import Derived.Test.YtkjmacdekfbfhaaW10
namespace Go.Proofs.Ytkjmacdekfbfhaa
open Go.RowKit
set_option linter.unusedSimpArgs false
set_option linter.unusedVariables false
set_option maxHeartbeats 4000000
set_option maxRecDepth 100000
theorem walk_RankTops (A : Option Addr) (len cap : Nat) (l : List Smp) (m : Int) (w : World) (hs : SmpsAre w A len cap l) (hg : ∀ x ∈ l, x.good) (hm : I64 m) :
    Calls Try.prog 10 #[.slice A len cap, .int .i64 m] w fun e w' => e = .returned (.bool true) ∧ Below w.heap.size w w' := by
  have HS := Lib.hid hs
  have hle : len ≤ cap := hs.2.1
  have hmx : cap ≤ 9223372036854775807 := by have := hs.2.2.1; unfold maxLen at this; omega
  have HLl := Lib.hid hs.1
  by_cases hl : 60 < len
  · have d0 : decide ((60 : Int) < (len : Int)) = true := by simp; omega
    clear hs hg
    go_enter Try.func10, Try.ntmps10
    go_wp2_with (go_at_call 24; refine (awake10 _).mono ?_; rintro e v1 ⟨rfl, hb1⟩; have D1 := Lib.hid hb1; clear hb1)
    go_ret
    exact ⟨rfl, D1.out⟩
  have d0 : decide ((60 : Int) < (len : Int)) = false := by simp; omega
  have hn60 : len ≤ 60 := by omega
  obtain ⟨k, hk⟩ : ∃ k : Nat, (k : Int) = min (max m 0) (len : Int) := ⟨(min (max m 0) (len : Int)).toNat, by omega⟩
  have hkl : k ≤ len := by omega
  have hk2 : max 0 (min m (len : Int)) = (k : Int) := by omega
  have HR := Lib.hid (fun W hW => ref10_Top A len cap l W hW (by omega))
  have HT := Lib.hid (fun W hW => rank_Top A len cap l m k W hW hn60 hm hk)
  have HSt := Lib.hid (fun W hW => rank_Steps A len cap l W hW hn60)
  have HU := stp_le gtv l (max 1 len)
  have HD := stp_le ltv l (max 1 len)
  obtain ⟨SU, hSU⟩ : ∃ SU, SU = stp gtv l (max 1 len) := ⟨_, rfl⟩
  obtain ⟨SD, hSD⟩ : ∃ SD, SD = stp ltv l (max 1 len) := ⟨_, rfl⟩
  rw [← hSU] at HU HSt
  rw [← hSD] at HD HSt
  have HSU := Lib.hid hSU
  have HSD := Lib.hid hSD
  have hu5 : SU ≤ 60 := by omega
  have hd5 : SD ≤ 60 := by omega
  clear hs hg hl hk HU HD hSU hSD
  go_enter Try.func10, Try.ntmps10
  go_wp2_with (first
    | (go_at_call 24; refine (awake10 _).mono ?_; rintro e v1 ⟨rfl, hb1⟩; have D1 := Lib.hid hb1; clear hb1)
    | (go_at_call 39; refine (HR.out _ (slice_keep HS.out D1.out)).mono ?_; rintro e v2 ⟨u, rfl, ho2, hb2⟩; obtain ⟨A5, n5, c5, rfl, hn5, hi5⟩ := ownS_is ho2; obtain rfl : len = n5 := (by rw [hn5, isrtS_len]; exact HLl.out.symm); have O2 := Lib.hid hi5; have D2 := Lib.hid (D1.out.trans (hb2.mono D1.out.size)); have hc5 : len ≤ c5 := hi5.2.1; have hc6 : c5 ≤ 9223372036854775807 := (by have := hi5.2.2.1; unfold maxLen at this; omega); clear ho2 hb2 hi5 hn5)
    | (go_at_call 40; refine (HSt.out _ (slice_keep HS.out D2.out)).mono ?_; rintro e v3 ⟨rfl, hb3⟩; have O3 := Lib.hid (slice_keep O2.out hb3); have D3 := Lib.hid (D2.out.trans (hb3.mono D2.out.size)); clear hb3))
  go_loopw [6, 7, 8] (fun u d i wr => ∃ (m : Nat) (U D : Int), m + 1 ≤ max 1 len ∧ i = .int .i64 ((m : Int) + 1) ∧ u = .int .i64 U ∧ d = .int .i64 D ∧ U + (stp gtv l (m + 1) : Int) = SU ∧ D + (stp ltv l (m + 1) : Int) = SD ∧ Below v3.heap.size v3 wr) (fun _ _ i _ => 100 - (intOf i).toNat)
  case atStart => exact ⟨0, SU, SD, by omega, rfl, rfl, rfl, by rw [stp_one]; omega, by rw [stp_one]; omega, Below.refl _ _⟩
  case round =>
    obtain ⟨i, U, D, hk, rfl, rfl, rfl, hU, hD, hbel⟩ := hrel
    have HB := Lib.hid hbel
    have hu6 := stp_le gtv l (i + 1)
    have hd6 := stp_le ltv l (i + 1)
    have hU1 : -100 ≤ U := by omega
    have hU2 : U ≤ 100 := by omega
    have hD1 : -100 ≤ D := by omega
    have hD2 : D ≤ 100 := by omega
    have HUu := Lib.hid hU
    have HDd := Lib.hid hD
    have hSx := Lib.hid (slice_keep HS.out (D3.out.trans (hbel.mono D3.out.size)))
    clear hbel hu6 hd6 hU hD
    by_cases hlt : i + 1 < len
    · obtain ⟨b, off, x, hA, hx, hb, c0, c1⟩ := SmpsAre.at_ hSx.out hlt
      obtain ⟨b', off', y, hA', hy, hb', d0, d1⟩ := SmpsAre.at_ hSx.out (show i < len by omega)
      subst hA
      injection hA' with hA'
      injection hA' with e1 e2 e3
      subst e1; subst e2
      have hki : (i : Int) + 1 < (len : Int) := by omega
      have hki2 : (i : Int) < (len : Int) := by omega
      have N1 := stp_next (f := gtv) (l := l) (show 1 ≤ i + 1 by omega) hx hy
      have N2 := stp_next (f := ltv) (l := l) (show 1 ≤ i + 1 by omega) hx hy
      have hk5 : i ≤ 60 := by omega
      have hz1 : ((i : Int) + 1).toNat = i + 1 := by omega
      obtain ⟨xt, x⟩ := x
      obtain ⟨yt, y⟩ := y
      dsimp only at c0 c1 d0 d1
      have hmx2 : i + 1 + 1 ≤ max 1 len := by omega
      clear hx hy hb hb' e3 c0 d0 hk hlt
      by_cases h1 : y < x
      · have M1 := Lib.hid (show (U - 1) + (stp gtv l (i + 1 + 1) : Int) = SU from by rw [N1, if_pos (by unfold gtv; simpa using h1)]; have := HUu.out; omega)
        have M2 := Lib.hid (show D + (stp ltv l (i + 1 + 1) : Int) = SD from by rw [N2, if_neg (by unfold ltv; simp; omega)]; have := HDd.out; omega)
        have h2d : decide (x < y) = false := by simp; omega
        clear N1 N2
        go_wp2
        go_quiet (fail)
        go_wp2
        go_quiet (fail)
        go_wp2
        go_roundw
        case rel => exact ⟨i + 1, U - 1, D, hmx2, by go_num, by go_num, rfl, M1.out, M2.out, below_drewN HB.out _⟩
        case measure => simp [intOf]; omega
      · have h1d : decide (y < x) = false := by simpa using h1
        by_cases h2 : x < y
        · have M1 := Lib.hid (show U + (stp gtv l (i + 1 + 1) : Int) = SU from by rw [N1, if_neg (by unfold gtv; simp; omega)]; have := HUu.out; omega)
          have M2 := Lib.hid (show (D - 1) + (stp ltv l (i + 1 + 1) : Int) = SD from by rw [N2, if_pos (by unfold ltv; simpa using h2)]; have := HDd.out; omega)
          clear N1 N2
          go_wp2
          go_quiet (fail)
          go_wp2
          go_quiet (fail)
          go_wp2
          go_roundw
          case rel => exact ⟨i + 1, U, D - 1, hmx2, by go_num, rfl, by go_num, M1.out, M2.out, below_drewN HB.out _⟩
          case measure => simp [intOf]; omega
        · have h2d : decide (x < y) = false := by simpa using h2
          have M1 := Lib.hid (show U + (stp gtv l (i + 1 + 1) : Int) = SU from by rw [N1, if_neg (by unfold gtv; simp; omega)]; have := HUu.out; omega)
          have M2 := Lib.hid (show D + (stp ltv l (i + 1 + 1) : Int) = SD from by rw [N2, if_neg (by unfold ltv; simp; omega)]; have := HDd.out; omega)
          clear N1 N2
          go_wp2
          go_quiet (fail)
          go_wp2
          go_quiet (fail)
          go_wp2
          go_roundw
          case rel => exact ⟨i + 1, U, D, hmx2, by go_num, rfl, rfl, M1.out, M2.out, below_drewN HB.out _⟩
          case measure => simp [intOf]; omega
    · have e : max 1 len = i + 1 := by omega
      obtain rfl : U = 0 := by have := HUu.out; have := HSU.out; rw [e] at this; omega
      obtain rfl : D = 0 := by have := HDd.out; have := HSD.out; rw [e] at this; omega
      have hki : (len : Int) ≤ (i : Int) + 1 := by omega
      have hO := Lib.hid (slice_keep O3.out HB.out)
      have D4 := Lib.hid (D3.out.trans (HB.out.mono D3.out.size))
      have hkc : k ≤ c5 := by omega
      clear e hk
      focus (go_upto_region 14 with fail)
      refine wp_region_any (by kernel_rfl) ?_; change wpAny _ _ _ _ _ _ _ (World.drew wr); refine any_of_anyG (late := fun _ => false) (S := fun wS => Below wr.heap.size wr wS) _ _ _ _ ?_
      have S0 := (Below.refl wr.heap.size wr).drew
      refine anyG_takes (is := [0, 1, 2, 3, 4]) (vs := [_, .int .i64 (len : Int), _, .int .i64 (len : Int), .bool true]) (m := 22) (listed2 := #[true, true, true, true, true, false, false, false, false, false, false, false, false, false, false, false, false, false, false, false, false, false, false, false, false, false, false]) (a2 := ⟨#[_, _, _, _, _, _, _, _, _, _, _, _, _, _, _, _, _, _, _, _, _, _, _, _, _, _, _, _, _, _, _, _, _, _, _, _, _, _, _, _, _, _, _, _, _, _, _, _, _, _, _, _, _, _, _, _, _, _, _, _, _, _, _, _, _, _, _, _, _, _, _, _, _, _, _, _, _, _, _, _, _], []⟩) (by kernel_rfl) (fun j hj => by simp at hj) (by kernel_rfl) (fun _ _ _ _ _ h => h) (Ys.cons rfl (Or.inl ⟨by rfl, fun W1 hW1 => by first | rfl | (go_simp; done) | (go_simp; with_reducible rfl)⟩) (Ys.cons rfl (Or.inl ⟨by rfl, fun W1 hW1 => by go_simp⟩) (Ys.cons rfl (Or.inl ⟨by rfl, fun W1 hW1 => by first | rfl | (go_simp; done) | (go_simp; with_reducible rfl)⟩) (Ys.cons rfl (Or.inl ⟨by rfl, fun W1 hW1 => by go_simp⟩) (Ys.cons rfl (Or.inl ⟨by rfl, fun W1 hW1 => by go_simp⟩) (Ys.nil)))))) (S0) (by rfl) (by rfl) ?_
      refine anyG_takes (is := [5, 6, 7, 9, 10]) (vs := [.bool true, _, _, _, _]) (m := 17) (listed2 := #[true, true, true, true, true, true, true, true, false, true, true, false, false, false, false, false, false, false, false, false, false, false, false, false, false, false, false]) (a2 := ⟨#[_, _, _, _, _, _, _, _, _, _, _, _, _, _, _, _, _, _, _, _, _, _, _, _, _, _, _, _, _, _, _, _, _, _, _, _, _, _, _, _, _, _, _, _, _, _, _, _, _, _, _, _, _, _, _, _, _, _, _, _, _, _, _, _, _, _, _, _, _, _, _, _, _, _, _, _, _, _, _, _, _], []⟩) (by kernel_rfl) (fun j hj => by simp at hj) (by kernel_rfl) (fun _ _ _ _ _ h => h) (Ys.cons rfl (Or.inl ⟨by rfl, fun W1 hW1 => by rfl⟩) (Ys.cons rfl (Or.inl ⟨by rfl, fun W1 hW1 => by first | rfl | (go_simp; done) | (go_simp; with_reducible rfl)⟩) (Ys.cons rfl (Or.inl ⟨by rfl, fun W1 hW1 => by first | rfl | (go_simp; done) | (go_simp; with_reducible rfl)⟩) (Ys.cons rfl (Or.inl ⟨by rfl, fun W1 hW1 => by first | rfl | (go_simp; done) | (go_simp; with_reducible rfl)⟩) (Ys.cons rfl (Or.inl ⟨by rfl, fun W1 hW1 => by first | rfl | (go_simp; done) | (go_simp; with_reducible rfl)⟩) (Ys.nil)))))) (S0) (by rfl) (by rfl) ?_
      refine anyG_takes (is := [11, 12, 13, 14, 15]) (vs := [_, .int .i64 (len : Int), .int .i64 (min m (len : Int)), .int .i64 (k : Int), .slice A5 k c5]) (m := 12) (listed2 := #[true, true, true, true, true, true, true, true, false, true, true, true, true, true, true, true, false, false, false, false, false, false, false, false, false, false, false]) (a2 := ⟨#[_, _, _, _, _, _, _, _, _, _, _, _, _, _, _, _, _, _, _, _, _, _, _, _, _, _, _, _, _, _, _, _, _, _, _, _, _, _, _, _, _, _, _, _, _, _, _, _, _, _, _, _, _, _, _, _, _, _, _, _, _, _, _, _, _, _, _, _, _, _, _, _, _, _, _, _, _, _, _, _, _], []⟩) (by kernel_rfl) (fun j hj => by simp at hj) (by kernel_rfl) (fun _ _ _ _ _ h => h) (Ys.cons rfl (Or.inl ⟨by rfl, fun W1 hW1 => by first | rfl | (go_simp; done) | (go_simp; with_reducible rfl)⟩) (Ys.cons rfl (Or.inl ⟨by rfl, fun W1 hW1 => by go_simp⟩) (Ys.cons rfl (Or.inl ⟨by rfl, fun W1 hW1 => by go_simp⟩) (Ys.cons rfl (Or.inl ⟨by rfl, fun W1 hW1 => by go_simp⟩) (Ys.cons rfl (Or.inl ⟨by rfl, fun W1 hW1 => by go_simp⟩) (Ys.nil)))))) (S0) (by rfl) (by rfl) ?_
      refine anyG_one (k := 8) (by kernel_rfl) rfl (by rfl) (fun Q2 hQ2 => ?_); go_wp2_with (go_at_call 41; refine (HT.out _ (slice_keep hSx.out S0)).mono ?_; rintro e v8 ⟨A8, c8, rfl, hs8, hb8⟩); refine hQ2 _ _ (fun _ => S0.trans (hb8.mono S0.size)) ?_; clear hQ2 Q2
      have S8 := S0.trans (hb8.mono S0.size)
      refine anyG_one (k := 16) (by kernel_rfl) rfl (by rfl) (fun Q2 hQ2 => ?_); go_wp2_with (go_at_call 33; refine (ref08_Same _ _ _ _ _ _ _ _ _ hs8 (slice_take (slice_keep hO.out S8) hkl)).mono ?_; rintro e v16 ⟨rfl, hb16⟩); refine hQ2 _ _ (fun _ => S8.trans (hb16.mono S8.size)) ?_; clear hQ2 Q2
      have S16 := S8.trans (hb16.mono S8.size)
      refine anyG_takes (is := [17, 18, 19, 20, 21]) (vs := [.bool true, .bool true, _, .bool true, .bool true]) (m := 5) (listed2 := #[true, true, true, true, true, true, true, true, true, true, true, true, true, true, true, true, true, true, true, true, true, true, false, false, false, false, false]) (a2 := ⟨#[_, _, _, _, _, _, _, _, _, _, _, _, _, _, _, _, _, _, _, _, _, _, _, _, _, _, _, _, _, _, _, _, _, _, _, _, _, _, _, _, _, _, _, _, _, _, _, _, _, _, _, _, _, _, _, _, _, _, _, _, _, _, _, _, _, _, _, _, _, _, _, _, _, _, _, _, _, _, _, _, _], []⟩) (by kernel_rfl) (fun j hj => by simp at hj) (by kernel_rfl) (fun _ _ _ _ _ h => h) (Ys.cons rfl (Or.inl ⟨by rfl, fun W1 hW1 => by go_simp⟩) (Ys.cons rfl (Or.inl ⟨by rfl, fun W1 hW1 => by rfl⟩) (Ys.cons rfl (Or.inl ⟨by rfl, fun W1 hW1 => by first | rfl | (go_simp; done) | (go_simp; with_reducible rfl)⟩) (Ys.cons rfl (Or.inl ⟨by rfl, fun W1 hW1 => by go_simp⟩) (Ys.cons rfl (Or.inl ⟨by rfl, fun W1 hW1 => by rfl⟩) (Ys.nil)))))) (S16) (by rfl) (by rfl) ?_
      refine anyG_takes (is := [22, 23, 24, 25, 26]) (vs := [.bool true, _, .bool true, .bool true, _]) (m := 0) (listed2 := #[true, true, true, true, true, true, true, true, true, true, true, true, true, true, true, true, true, true, true, true, true, true, true, true, true, true, true]) (a2 := ⟨#[_, _, _, _, _, _, _, _, _, _, _, _, _, _, _, _, _, _, _, _, _, _, _, _, _, _, _, _, _, _, _, _, _, _, _, _, _, _, _, _, _, _, _, _, _, _, _, _, _, _, _, _, _, _, _, _, _, _, _, _, _, _, _, _, _, _, _, _, _, _, _, _, _, _, _, _, _, _, _, _, _], []⟩) (by kernel_rfl) (fun j hj => by simp at hj) (by kernel_rfl) (fun _ _ _ _ _ h => h) (Ys.cons rfl (Or.inl ⟨by rfl, fun W1 hW1 => by rfl⟩) (Ys.cons rfl (Or.inl ⟨by rfl, fun W1 hW1 => by first | rfl | (go_simp; done) | (go_simp; with_reducible rfl)⟩) (Ys.cons rfl (Or.inl ⟨by rfl, fun W1 hW1 => by go_simp⟩) (Ys.cons rfl (Or.inl ⟨by rfl, fun W1 hW1 => by rfl⟩) (Ys.cons rfl (Or.inl ⟨by rfl, fun W1 hW1 => by first | rfl | (go_simp; done) | (go_simp; with_reducible rfl)⟩) (Ys.nil)))))) (S16) (by rfl) (by rfl) ?_
      refine anyG_done (by kernel_rfl) ?_ _
      have D9 := Lib.hid (D4.out.trans ((S16).mono D4.out.size))
      clear S0 S8 S16
      go_wp2
      go_ret
      exact ⟨rfl, D9.out⟩
end Go.Proofs.Ytkjmacdekfbfhaa
