/- slices.Min, slices.Max, window.Of, window.From, window.At. -/
import Derived.Test.YtkjmacdekfbfhaaWin
import Derived.Test.YtkjmacdekfbfhaaMean
namespace Go.Proofs.Ytkjmacdekfbfhaa
open Go.RowKit
set_option linter.unusedSimpArgs false
set_option linter.unusedVariables false
set_option maxHeartbeats 2000000
set_option maxRecDepth 100000

def minq : List Int → Int
  | [] => 0
  | a :: l => l.foldl min a
def maxq : List Int → Int
  | [] => 0
  | a :: l => l.foldl max a
theorem minq_snoc (a : Int) (l : List Int) (x : Int) : minq (a :: l ++ [x]) = min (minq (a :: l)) x := by simp [minq]
theorem maxq_snoc (a : Int) (l : List Int) (x : Int) : maxq (a :: l ++ [x]) = max (maxq (a :: l)) x := by simp [maxq]
theorem minq_next {l : List Int} {k : Nat} {x : Int} (h : l[k]? = some x) (hk : 1 ≤ k) : minq (l.take (k + 1)) = min (minq (l.take k)) x := by
  rw [take_next h]
  obtain ⟨j, rfl⟩ : ∃ j, k = j + 1 := ⟨k - 1, by omega⟩
  cases l with
  | nil => simp at h
  | cons a l => exact minq_snoc a (l.take j) x
theorem maxq_next {l : List Int} {k : Nat} {x : Int} (h : l[k]? = some x) (hk : 1 ≤ k) : maxq (l.take (k + 1)) = max (maxq (l.take k)) x := by
  rw [take_next h]
  obtain ⟨j, rfl⟩ : ∃ j, k = j + 1 := ⟨k - 1, by omega⟩
  cases l with
  | nil => simp at h
  | cons a l => exact maxq_snoc a (l.take j) x
theorem minq_one {l : List Int} {x : Int} (h : l[0]? = some x) : minq (l.take 1) = x := by
  cases l with
  | nil => simp at h
  | cons a l => simp at h; subst h; rfl
theorem maxq_one {l : List Int} {x : Int} (h : l[0]? = some x) : maxq (l.take 1) = x := by
  cases l with
  | nil => simp at h
  | cons a l => simp at h; subst h; rfl
theorem slices_Min (A : Option Addr) (len cap : Nat) (l : List Int) (w : World) (hs : IntsAre w A len cap l) (h1 : 1 ≤ len) (hn : len ≤ 1000) :
    Calls Try.prog 118 #[.slice A len cap] w fun e w' => e = .returned (.int .i64 (minq l)) ∧ w = w' := by
  have HS := Lib.hid hs
  have HL := Lib.hid hs.1
  have m1 : len ≤ 9223372036854775806 := by omega
  obtain ⟨b, off, x0, rfl, hx0, hb0, hc0⟩ := IntsAre.at_ hs (show 0 < len by omega)
  have HX0 := Lib.hid (minq_one hx0)
  rw [Nat.add_zero] at hc0
  clear hs hx0
  go_enter Try.func118, Try.ntmps118
  go_wp2
  clear hc0
  go_loop [3, 4] (fun m i => ∃ k : Nat, 1 ≤ k ∧ k ≤ len ∧ i = .int .i64 k ∧ m = .int .i64 (minq (l.take k))) (fun _ i => len - (intOf i).toNat)
  case atStart => exact ⟨1, by omega, by omega, rfl, by rw [HX0.out]⟩
  case round =>
    obtain ⟨k, hk1, hk, rfl, rfl⟩ := hrel
    by_cases hlt : k < len
    · obtain ⟨b', off', x, hab, hx, hb, hc⟩ := IntsAre.at_ HS.out hlt
      cases hab
      have HN := Lib.hid (minq_next hx hk1)
      have hki : (k : Int) < (len : Int) := by omega
      clear hx
      generalize minq (l.take k) = m at *
      by_cases hlo : x < m
      · have E := Lib.hid (show min m x = x by omega)
        go_wp2
        go_round
        case rel => exact ⟨k + 1, by omega, by omega, by go_num, by rw [HN.out, E.out]⟩
        case measure => simp [intOf]; omega
      · have E := Lib.hid (show min m x = m by omega)
        go_wp2
        go_round
        case rel => exact ⟨k + 1, by omega, by omega, by go_num, by rw [HN.out, E.out]⟩
        case measure => simp [intOf]; omega
    · have hE : l.take k = l := List.take_of_length_le (by have := HL.out; omega)
      rw [hE]
      clear hE
      go_wp2
      go_ret
      exact ⟨rfl, rfl⟩
theorem slices_Max (A : Option Addr) (len cap : Nat) (l : List Int) (w : World) (hs : IntsAre w A len cap l) (h1 : 1 ≤ len) (hn : len ≤ 1000) :
    Calls Try.prog 119 #[.slice A len cap] w fun e w' => e = .returned (.int .i64 (maxq l)) ∧ w = w' := by
  have HS := Lib.hid hs
  have HL := Lib.hid hs.1
  have m1 : len ≤ 9223372036854775806 := by omega
  obtain ⟨b, off, x0, rfl, hx0, hb0, hc0⟩ := IntsAre.at_ hs (show 0 < len by omega)
  have HX0 := Lib.hid (maxq_one hx0)
  rw [Nat.add_zero] at hc0
  clear hs hx0
  go_enter Try.func119, Try.ntmps119
  go_wp2
  clear hc0
  go_loop [3, 4] (fun m i => ∃ k : Nat, 1 ≤ k ∧ k ≤ len ∧ i = .int .i64 k ∧ m = .int .i64 (maxq (l.take k))) (fun _ i => len - (intOf i).toNat)
  case atStart => exact ⟨1, by omega, by omega, rfl, by rw [HX0.out]⟩
  case round =>
    obtain ⟨k, hk1, hk, rfl, rfl⟩ := hrel
    by_cases hlt : k < len
    · obtain ⟨b', off', x, hab, hx, hb, hc⟩ := IntsAre.at_ HS.out hlt
      cases hab
      have HN := Lib.hid (maxq_next hx hk1)
      have hki : (k : Int) < (len : Int) := by omega
      clear hx
      generalize maxq (l.take k) = m at *
      by_cases hlo : m < x
      · have E := Lib.hid (show max m x = x by omega)
        go_wp2
        go_round
        case rel => exact ⟨k + 1, by omega, by omega, by go_num, by rw [HN.out, E.out]⟩
        case measure => simp [intOf]; omega
      · have E := Lib.hid (show max m x = m by omega)
        go_wp2
        go_round
        case rel => exact ⟨k + 1, by omega, by omega, by go_num, by rw [HN.out, E.out]⟩
        case measure => simp [intOf]; omega
    · have hE : l.take k = l := List.take_of_length_le (by have := HL.out; omega)
      rw [hE]
      clear hE
      go_wp2
      go_ret
      exact ⟨rfl, rfl⟩
structure Stat where
  count : Int
  sum : Int
  least : Int
  most : Int
  mean : Int
deriving DecidableEq
abbrev Stat.row (s : Stat) : Array Value := #[.int .i64 s.count, .int .i64 s.sum, .int .i64 s.least, .int .i64 s.most, .int .i64 s.mean]
def statq (l : List Smp) : Stat := if l.length = 0 then ⟨0, 0, 0, 0, 0⟩ else ⟨l.length, sumq (valq l), minq (valq l), maxq (valq l), meanq (valq l)⟩
theorem window_Of (A : Option Addr) (len cap : Nat) (l : List Smp) (w : World) (hs : SmpsAre w A len cap l) (hg : ∀ x ∈ l, x.good) (hn : len ≤ 200) :
    Calls Try.prog 79 #[.slice A len cap] w fun e w' => e = .returned (.agg (statq l).row) ∧ Below w.heap.size w w' := by
  have HS := Lib.hid hs
  have HL := Lib.hid hs.1
  have HV := Lib.hid (valq_bd hg)
  clear hs hg
  have E0 := Lib.hid (show Below w.heap.size w (w.alloc (.cells #[.int .i64 0, .int .i64 0, .int .i64 0, .int .i64 0, .int .i64 0] 117)) by go_grown)
  go_enter Try.func79, Try.ntmps79
  go_wp2_with fail
  refine (window_Values A len cap l _ (slice_keep HS.out E0.out) (by omega)).mono ?_
  rintro e w1 ⟨v, rfl, ho, hb1⟩
  obtain ⟨A', n', c', rfl, hn', hsl⟩ := ho.shape (fun _ => rfl)
  obtain rfl : n' = len := by rw [hn', valq_len]; exact HL.out
  have BR := Lib.hid ((Blk.new w 117 #[.int .i64 0, .int .i64 0, .int .i64 0, .int .i64 0, .int .i64 0]).call hb1)
  have E1 := Lib.hid (E0.out.trans (hb1.mono E0.out.size))
  have SL := Lib.hid hsl
  clear hn' ho hsl hb1 E0
  by_cases h0 : n' = 0
  · have HQ := Lib.hid (show statq l = ⟨0, 0, 0, 0, 0⟩ by unfold statq; rw [if_pos (by rw [HL.out]; exact h0)])
    have d0 : ((n' : Int) == 0) = true := by simp; omega
    clear h0
    go_wp2_with (refine wpList_store_row rfl 117 (.tmp 2) (.tmp 9) rfl w.heap.size _ _ _ rfl rfl BR.out (by rfl) (by kernel_rfl) (by simp [Value.oneCell']) ?_; intro w9 hb9 hg9)
    refine bodyPost_ret (results_row rfl _ _ w.heap.size _ _ _ rfl hb9 Try.underlying117 rfl (by kernel_rfl)) rfl ⟨by rw [HQ.out], E1.out.trans (Only.below hg9 (Nat.le_refl _) E1.out.size)⟩
  · have HQ := Lib.hid (show statq l = ⟨n', sumq (valq l), minq (valq l), maxq (valq l), meanq (valq l)⟩ by unfold statq; rw [if_neg (by rw [HL.out]; exact h0), HL.out])
    have d0 : ((n' : Int) == 0) = false := by simp; omega
    have h1 : 1 ≤ n' := by omega
    have HG := Lib.hid (fun x hx => (show I64 x by have := HV.out x hx; unfold I64; omega) : ∀ x ∈ valq l, I64 x)
    clear h0
    go_wp2_with fail
    refine (sat_Sum _ _ _ _ _ SL.out HG.out (by omega)).mono ?_
    rintro e w2 ⟨rfl, rfl⟩
    go_wp2_with fail
    refine (slices_Min _ _ _ _ _ SL.out h1 (by omega)).mono ?_
    rintro e w2 ⟨rfl, rfl⟩
    go_wp2_with fail
    refine (slices_Max _ _ _ _ _ SL.out h1 (by omega)).mono ?_
    rintro e w2 ⟨rfl, rfl⟩
    go_wp2_with fail
    refine (wide_Mean _ _ _ _ _ SL.out HG.out (by omega)).mono ?_
    rintro e w2 ⟨rfl, hb2⟩
    go_wp2_with (refine wpList_store_row rfl 117 (.tmp 2) (.tmp 20) rfl w.heap.size _ _ _ rfl rfl (BR.out.call hb2) (by rfl) (by kernel_rfl) (by simp [Value.oneCell']) ?_; intro w9 hb9 hg9)
    have E2 := E1.out.trans (hb2.mono E1.out.size)
    refine bodyPost_ret (results_row rfl _ _ w.heap.size _ _ _ rfl hb9 Try.underlying117 rfl (by kernel_rfl)) rfl ⟨by rw [HQ.out], E2.trans (Only.below hg9 (Nat.le_refl _) E2.size)⟩
def fromq (to width : Int) : Int := satq (satq (to - width) + 1)
theorem fromq_I64 (to width : Int) : I64 (fromq to width) := satq_I64 _
theorem cutq_good {l : List Smp} (hg : ∀ x ∈ l, x.good) (f t : Int) : ∀ x ∈ cutq l f t, x.good := fun x hx => hg x ((List.mem_filter.1 hx).1)
end Go.Proofs.Ytkjmacdekfbfhaa
