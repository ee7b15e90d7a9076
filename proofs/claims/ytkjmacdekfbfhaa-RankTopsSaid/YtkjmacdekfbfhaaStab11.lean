/- slices.SortStableFunc at samples; rank.Top, rank.Steps. -/
import Derived.Test.YtkjmacdekfbfhaaStab10
import Derived.Test.YtkjmacdekfbfhaaSub
namespace Go.Proofs.Ytkjmacdekfbfhaa
open Go.RowKit
set_option linter.unusedSimpArgs false
set_option linter.unusedVariables false
set_option maxHeartbeats 4000000
set_option maxRecDepth 100000
theorem slices_stable (g n c : Nat) (l : List Smp) (w : World) (hn : l.length = n) (h60 : n ≤ 60) (h : Arr w g l) : Calls Try.prog 125 #[.slice (some ⟨g, 0, none⟩) n c, .int .i64 n, fTop] w (SrtP w g (isrtS geb l)) := by
  have e2 : l.take 20 ++ l.drop 20 = l := List.take_append_drop _ _
  have e3 : l.take 20 ++ (l.drop 20).take 20 ++ l.drop 40 = l := by rw [List.append_assoc, show l.drop 40 = (l.drop 20).drop 20 by rw [List.drop_drop], List.take_append_drop, List.take_append_drop]
  by_cases h1 : n < 20
  · exact stable_1 g n c l w hn h1 h
  · by_cases h2 : n = 20
    · subst h2; exact stable_2 g c l w hn h
    · by_cases h3 : n < 40
      · rw [← e2] at h ⊢
        exact stable_3 g c n _ _ w (by rw [List.length_take]; omega) (by rw [List.length_drop]; omega) (by omega) h3 h
      · by_cases h4 : n = 40
        · subst h4
          rw [← e2] at h ⊢
          exact stable_4 g c _ _ w (by rw [List.length_take]; omega) (by rw [List.length_drop]; omega) h
        · by_cases h5 : n < 60
          · rw [← e3] at h ⊢
            exact stable_5 g c n _ _ _ w (by rw [List.length_take]; omega) (by rw [List.length_take, List.length_drop]; omega) (by rw [List.length_drop]; omega) (by omega) h5 h
          · obtain rfl : n = 60 := by omega
            rw [← e3] at h ⊢
            exact stable_6 g c _ _ _ w (by rw [List.length_take]; omega) (by rw [List.length_take, List.length_drop]; omega) (by rw [List.length_drop]; omega) h
theorem slices_SortStable (g n c : Nat) (l : List Smp) (w : World) (hn : l.length = n) (h60 : n ≤ 60) (h : Arr w g l) : Calls Try.prog 85 #[.slice (some ⟨g, 0, none⟩) n c, fTop] w (SrtP w g (isrtS geb l)) := by
  have HC := Lib.hid (slices_stable g n c l w hn h60 h)
  clear h
  go_enter Try.func85, Try.ntmps85
  go_wp2_with fail
  with_reducible (refine Calls.mono HC.out ?_)
  rintro e1 w1 ⟨rfl, ha1, hu1⟩
  have A1 := Lib.hid ha1
  have U1 := Lib.hid hu1
  clear ha1 hu1
  go_wp2
  go_returns
  exact ⟨rfl, A1.out, U1.out⟩
theorem slices_SortStable0 (w : World) : Calls Try.prog 85 #[.slice none 0 0, fTop] w fun e w' => e = .returned (.tuple #[]) ∧ w = w' := by
  go_enter Try.func85, Try.ntmps85
  go_wp2_with (go_at_call 125; refine (smp_stable0 _ _).mono ?_; rintro e w1 ⟨rfl, rfl⟩)
  go_returns
  exact ⟨rfl, rfl⟩
theorem Arr.own {w : World} {base g n c : Nat} {l : List Smp} (h : OwnS w base (.slice (some ⟨g, 0, none⟩) n c) l) : Arr w g l ∧ n = l.length ∧ n ≤ c ∧ c ≤ maxLen ∧ base ≤ g := by
  rcases h.2 with ⟨hv, -⟩ | ⟨g', cap, cur, hv, hb, hg, hnc, hcm, hcs, htk⟩
  · cases hv
  · cases hv
    exact ⟨⟨cur, hg, by rw [hcs]; exact Nat.mul_le_mul_right 2 hnc, htk⟩, rfl, hnc, hcm, hb⟩
def TopS (w : World) (l : List Smp) (k : Nat) (e : Ending) (w' : World) : Prop := ∃ A c, e = .returned (.slice A k c) ∧ SmpsAre w' A k c ((isrtS geb l).take k) ∧ Below w.heap.size w w'
theorem rank_Top (A : Option Addr) (len cap : Nat) (l : List Smp) (m : Int) (k : Nat) (w : World) (hs : SmpsAre w A len cap l) (hn : len ≤ 60) (hm : I64 m) (hk : (k : Int) = min (max m 0) (len : Int)) :
    Calls Try.prog 41 #[.slice A len cap, .int .i64 m] w (TopS w l k) := by
  have HC := Lib.hid (slices_Clone A len cap l w hs (by omega))
  have hll := hs.1
  have hkn : k ≤ len := by omega
  clear hs
  go_enter Try.func41, Try.ntmps41
  go_wp2_with fail
  with_reducible (refine Calls.mono HC.out ?_)
  rintro e w1 ⟨A1, n1, c1, rfl, ho, hb1⟩
  have B1 := Lib.hid hb1
  have hshape := ho.2
  rcases hshape with ⟨hv, hn0⟩ | ⟨g, cc, cur, hv, -⟩
  · cases hv
    have hl0 : l = [] := List.eq_nil_of_length_eq_zero hn0
    subst hl0
    obtain rfl : len = 0 := hll.symm
    obtain rfl : k = 0 := by omega
    have HR := Lib.hid (show SmpsAre w1 none 0 0 ((isrtS geb ([] : List Smp)).take 0) from slice_nil _ _ _)
    have hk2 : min (max m 0) 0 = 0 := by omega
    clear ho hn0 hb1 hk
    go_wp2_with (go_at_call 85; refine (slices_SortStable0 _).mono ?_; rintro e w2 ⟨rfl, rfl⟩)
    all_goals first
      | (exfalso; omega)
      | (go_ret; exact ⟨_, _, rfl, HR.out, B1.out⟩)
  · obtain ⟨e1, e2⟩ : A1 = some ⟨g, 0, none⟩ ∧ n1 = len := by
      injection hv with h1 h2 h3
      exact ⟨h1, h2.trans hll⟩
    subst e1; subst e2
    clear hv
    obtain ⟨ha, hnl, hnc, hcm, hbg⟩ := Arr.own ho
    have HS := Lib.hid (slices_SortStable g n1 c1 l w1 hll hn ha)
    have HB := Lib.hid hbg
    have HL := Lib.hid hll
    have HN := Lib.hid hnc
    have HM := Lib.hid hcm
    have hc5 : c1 ≤ 9223372036854775807 := by unfold maxLen at hcm; omega
    have hkc : k ≤ c1 := by omega
    clear ho ha hnl hbg hb1 hll hcm
    go_wp2_with fail
    with_reducible (refine Calls.mono HS.out ?_)
    rintro e2 w2 ⟨rfl, ha2, hu2⟩
    have HR := Lib.hid (show SmpsAre w2 (some ⟨g, 0, none⟩) k c1 ((isrtS geb l).take k) from by
      have hl2 : (isrtS geb l).length = n1 := by rw [isrtS_len]; exact HL.out
      have := ha2.is (c := c1) (by rw [hl2]; exact HN.out) HM.out
      rw [hl2] at this
      exact slice_take this hkn)
    have U2 := Lib.hid (B1.out.trans (hu2.below (B := w.heap.size) (fun k hk => by rw [hk]; exact HB.out) B1.out.size))
    clear ha2 hu2
    have hk3 : min (max m 0) (n1 : Int) = (k : Int) := hk.symm
    clear hk
    go_wp2
    go_ret
    exact ⟨_, _, rfl, HR.out, U2.out⟩
/-- How often a test holds of a sample and the one ahead of it. -/
def stp (f : Smp → Smp → Bool) (l : List Smp) : Nat → Nat
  | 0 => 0
  | k + 1 => stp f l k + match l[k]?, (if k = 0 then none else l[k - 1]?) with
    | some x, some y => if f x y then 1 else 0
    | _, _ => 0
theorem stp_one (f : Smp → Smp → Bool) (l : List Smp) : stp f l 1 = 0 := by
  show 0 + _ = 0
  rw [Nat.zero_add, if_pos rfl]
  split
  · rename_i h; cases h
  · rfl
theorem stp_next {f : Smp → Smp → Bool} {l : List Smp} {k : Nat} {x y : Smp} (hk : 1 ≤ k) (hx : l[k]? = some x) (hy : l[k - 1]? = some y) : stp f l (k + 1) = stp f l k + if f x y then 1 else 0 := by
  show stp f l k + _ = _
  rw [if_neg (by omega), hx, hy]
theorem stp_le (f : Smp → Smp → Bool) (l : List Smp) : ∀ k, stp f l k ≤ k
  | 0 => Nat.le_refl _
  | k + 1 => by
    have := stp_le f l k
    show stp f l k + _ ≤ _
    split
    · split <;> omega
    · omega
def gtv (x y : Smp) : Bool := decide (y.value < x.value)
def ltv (x y : Smp) : Bool := decide (x.value < y.value)
theorem rank_Steps (A : Option Addr) (len cap : Nat) (l : List Smp) (w : World) (hs : SmpsAre w A len cap l) (hn : len ≤ 60) :
    Calls Try.prog 40 #[.slice A len cap] w fun e w' => e = .returned (.tuple #[.int .i64 (stp gtv l (max 1 len)), .int .i64 (stp ltv l (max 1 len))]) ∧ Below w.heap.size w w' := by
  have HS := Lib.hid hs
  have HL := Lib.hid hs.1
  clear hs
  go_enter Try.func40, Try.ntmps40
  go_wp2
  go_loopw [4, 5, 6] (fun u d i wr => ∃ (m U D : Nat), m + 1 ≤ max 1 len ∧ i = .int .i64 ((m : Int) + 1) ∧ u = .int .i64 U ∧ d = .int .i64 D ∧ U = stp gtv l (m + 1) ∧ D = stp ltv l (m + 1) ∧ Below w.heap.size w wr) (fun _ _ i _ => 100 - (intOf i).toNat)
  case atStart => exact ⟨0, 0, 0, by omega, rfl, rfl, rfl, (stp_one _ _).symm, (stp_one _ _).symm, Below.refl _ _⟩
  case round =>
    obtain ⟨m, U, D, hk, rfl, rfl, rfl, hU, hD, hbel⟩ := hrel
    have HB := Lib.hid hbel
    have HU := Lib.hid hU
    have HD := Lib.hid hD
    have hu5 := stp_le gtv l (m + 1)
    have hd5 := stp_le ltv l (m + 1)
    rw [← hU] at hu5
    rw [← hD] at hd5
    clear hbel hU hD
    by_cases hlt : m + 1 < len
    · obtain ⟨b, off, x, hA, hx, hb, c0, c1⟩ := SmpsAre.at_ (slice_keep HS.out HB.out) hlt
      obtain ⟨b', off', y, hA', hy, hb', d0, d1⟩ := SmpsAre.at_ (slice_keep HS.out HB.out) (show m < len by omega)
      subst hA
      injection hA' with hA'
      injection hA' with e1 e2 e3
      subst e1; subst e2
      have hki : (m : Int) + 1 < (len : Int) := by omega
      have hki2 : (m : Int) < (len : Int) := by omega
      have N1 := stp_next (f := gtv) (l := l) (show 1 ≤ m + 1 by omega) hx hy
      have N2 := stp_next (f := ltv) (l := l) (show 1 ≤ m + 1 by omega) hx hy
      have hk5 : m ≤ 60 := by omega
      have hz1 : ((m : Int) + 1).toNat = m + 1 := by omega
      obtain ⟨xt, x⟩ := x
      obtain ⟨yt, y⟩ := y
      dsimp only at c0 c1 d0 d1
      rw [← HU.out] at N1
      rw [← HD.out] at N2
      have hmx : m + 1 + 1 ≤ max 1 len := by omega
      clear hx hy hb hb' e3 c0 d0 hk hlt
      by_cases h1 : y < x
      · have N1 := Lib.hid (show U + 1 = stp gtv l (m + 1 + 1) from by rw [N1, if_pos (by unfold gtv; simpa using h1)])
        have N2 := Lib.hid (show D = stp ltv l (m + 1 + 1) from by rw [N2, if_neg (by unfold ltv; simp; omega)]; rfl)
        go_wp2
        go_quiet (fail)
        go_wp2
        go_roundw
        case rel => exact ⟨m + 1, U + 1, D, hmx, by go_num, by go_num, rfl, N1.out, N2.out, below_drewN HB.out nq⟩
        case measure => simp [intOf]; omega
      · have h1d : decide (y < x) = false := by simpa using h1
        by_cases h2 : x < y
        · have N1 := Lib.hid (show U = stp gtv l (m + 1 + 1) from by rw [N1, if_neg (by unfold gtv; simp; omega)]; rfl)
          have N2 := Lib.hid (show D + 1 = stp ltv l (m + 1 + 1) from by rw [N2, if_pos (by unfold ltv; simpa using h2)])
          go_wp2
          go_quiet (fail)
          go_wp2
          go_quiet (fail)
          go_wp2
          go_roundw
          case rel => exact ⟨m + 1, U, D + 1, hmx, by go_num, rfl, by go_num, N1.out, N2.out, below_drewN HB.out _⟩
          case measure => simp [intOf]; omega
        · have h2d : decide (x < y) = false := by simpa using h2
          have N1 := Lib.hid (show U = stp gtv l (m + 1 + 1) from by rw [N1, if_neg (by unfold gtv; simp; omega)]; rfl)
          have N2 := Lib.hid (show D = stp ltv l (m + 1 + 1) from by rw [N2, if_neg (by unfold ltv; simp; omega)]; rfl)
          go_wp2
          go_quiet (fail)
          go_wp2
          go_quiet (fail)
          go_wp2
          go_roundw
          case rel => exact ⟨m + 1, U, D, hmx, by go_num, rfl, rfl, N1.out, N2.out, below_drewN HB.out _⟩
          case measure => simp [intOf]; omega
    · have e : max 1 len = m + 1 := by omega
      have HE := Lib.hid (show U = stp gtv l (max 1 len) ∧ D = stp ltv l (max 1 len) from by rw [e]; exact ⟨HU.out, HD.out⟩)
      have hki : (len : Int) ≤ (m : Int) + 1 := by omega
      clear e hk
      go_wp2
      go_ret2
      exact ⟨by rw [← HE.out.1, ← HE.out.2]; rfl, HB.out⟩
end Go.Proofs.Ytkjmacdekfbfhaa
