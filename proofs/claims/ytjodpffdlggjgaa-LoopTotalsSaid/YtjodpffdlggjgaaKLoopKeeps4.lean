/- Several texts in one. -/
import Derived.Test.YtjodpffdlggjgaaSmp
import Derived.StillTailTactics
import Derived.Test.YtjodpffdlggjgaaMean
import Derived.Test.YtjodpffdlggjgaaControl
import Derived.Test.YtjodpffdlggjgaaTotal
import Derived.Test.YtjodpffdlggjgaaTrial
/- window.Cut, window.Values, and the reference's. -/
namespace Go.Proofs.Ytjodpffdlggjgaa
open Go.RowKit
set_option linter.unusedSimpArgs false
set_option linter.unusedVariables false
set_option maxHeartbeats 2000000
set_option maxRecDepth 100000

def inq (f t : Int) (x : Smp) : Bool := decide (f ≤ x.tick) && decide (x.tick ≤ t)
def cutq (l : List Smp) (f t : Int) : List Smp := l.filter (inq f t)
theorem cutq_len (l : List Smp) (f t : Int) : (cutq l f t).length ≤ l.length := List.length_filter_le _ _
theorem cutq_yes {l : List Smp} {f t : Int} {k : Nat} {x : Smp} (h : l[k]? = some x) (h1 : f ≤ x.tick) (h2 : x.tick ≤ t) : cutq (l.take (k + 1)) f t = cutq (l.take k) f t ++ [x] := by
  rw [take_next h]; unfold cutq; rw [List.filter_append]; congr 1
  simp [inq, h1, h2]
theorem cutq_no {l : List Smp} {f t : Int} {k : Nat} {x : Smp} (h : l[k]? = some x) (h1 : ¬ (f ≤ x.tick ∧ x.tick ≤ t)) : cutq (l.take (k + 1)) f t = cutq (l.take k) f t := by
  rw [take_next h]; unfold cutq; rw [List.filter_append]
  have : inq f t x = false := by
    unfold inq
    rcases Int.lt_or_le x.tick f with h2 | h2
    · simp; omega
    · simp; omega
  simp [this]
theorem window_Cut (A : Option Addr) (len cap : Nat) (l : List Smp) (f t : Int) (w : World) (hs : SmpsAre w A len cap l) (hn : len ≤ 1000) :
    Calls Try.prog 117 #[.slice A len cap, .int .i64 f, .int .i64 t] w fun e w' => ∃ v, e = .returned v ∧ OwnS w' w.heap.size v (cutq l f t) ∧ Below w.heap.size w w' := by
  have HS := Lib.hid hs
  have HL := Lib.hid hs.1
  clear hs
  go_enter Try.func117, Try.ntmps117
  go_wp2
  go_loopw [7, 12] (fun v i wr => ∃ k : Nat, k ≤ len ∧ i = .int .i64 k ∧ OwnS wr w.heap.size v (cutq (l.take k) f t) ∧ Below w.heap.size w wr) (fun _ i _ => len - (intOf i).toNat)
  case atStart => exact ⟨0, Nat.zero_le _, rfl, Own.nil _ _ _ _ _, Below.refl _ _⟩
  case round =>
    obtain ⟨k, hk, rfl, hown, hbel⟩ := hrel
    by_cases hlt : k < len
    · obtain ⟨b, off, x, rfl, hx, hb, t0, t1⟩ := HS.out.at_ hlt
      have kt0 := (hbel.cell (p := ⟨b, off + k * 2, none⟩) hb).trans t0
      have kt1 := (hbel.cell (p := ⟨b, off + k * 2 + 1, none⟩) hb).trans t1
      have hle : (cutq (l.take k) f t).length < 1000000 := by
        have h1 := cutq_len (l.take k) f t
        have h2 : (l.take k).length ≤ l.length := by rw [List.length_take]; omega
        have h3 := HL.out
        omega
      have hki : (k : Int) < (len : Int) := by omega
      have HX := Lib.hid hx
      have HB := Lib.hid hbel
      clear hx hb t0 t1
      by_cases h1 : f ≤ x.tick
      · by_cases h2 : x.tick ≤ t
        · have HN := Lib.hid (cutq_yes HX.out h1 h2)
          have hsz := hbel.size
          clear hbel
          go_wp2_with (at_builtin; refine push_smp _ rfl _ _ rfl w.heap.size _ _ rfl ((hown.alloc _).alloc _) (wr.heap.size + 1) _ 1 x rfl (Blk.new2 wr _ _ _) hle (by simp; omega) ?_; intro v2 w2 ho2 hb2 hg2)
          go_roundw
          case rel => exact ⟨k + 1, by omega, by go_num, by rw [HN.out]; exact ho2, ((HB.out.alloc HB.out.size _).alloc (by simp; omega) _).trans hb2⟩
          case measure => simp [intOf]; omega
        · have HN := Lib.hid (cutq_no (f := f) (t := t) HX.out (fun h => h2 h.2))
          clear hbel
          go_wp2
          go_roundw
          case rel => exact ⟨k + 1, by omega, by go_num, by rw [HN.out]; exact hown.alloc _, HB.out.alloc HB.out.size _⟩
          case measure => simp [intOf]; omega
      · have HN := Lib.hid (cutq_no (f := f) (t := t) HX.out (fun h => h1 h.1))
        clear hbel
        go_wp2
        go_roundw
        case rel => exact ⟨k + 1, by omega, by go_num, by rw [HN.out]; exact hown.alloc _, HB.out.alloc HB.out.size _⟩
        case measure => simp [intOf]; omega
    · have hE : l.take k = l := List.take_of_length_le (by have := HL.out; omega)
      rw [hE] at hown
      clear hE
      go_wp2
      go_ret
      exact ⟨_, rfl, hown, hbel⟩
theorem ref09_Cut (A : Option Addr) (len cap : Nat) (l : List Smp) (f t : Int) (w : World) (hs : SmpsAre w A len cap l) (hn : len ≤ 1000) :
    Calls Try.prog 98 #[.slice A len cap, .int .i64 f, .int .i64 t] w fun e w' => ∃ v, e = .returned v ∧ OwnS w' w.heap.size v (cutq l f t) ∧ Below w.heap.size w w' := by
  have HS := Lib.hid hs
  have HL := Lib.hid hs.1
  clear hs
  go_enter Try.func98, Try.ntmps98
  go_wp2
  go_loopw [7, 8] (fun v i wr => ∃ k : Nat, k ≤ len ∧ i = .int .i64 k ∧ OwnS wr w.heap.size v (cutq (l.take k) f t) ∧ Below w.heap.size w wr) (fun _ i _ => len - (intOf i).toNat)
  case atStart => exact ⟨0, Nat.zero_le _, rfl, Own.nil _ _ _ _ _, Below.refl _ _⟩
  case round =>
    obtain ⟨k, hk, rfl, hown, hbel⟩ := hrel
    by_cases hlt : k < len
    · obtain ⟨b, off, x, rfl, hx, hb, t0, t1⟩ := HS.out.at_ hlt
      have kt0 := (hbel.cell (p := ⟨b, off + k * 2, none⟩) hb).trans t0
      have kt1 := (hbel.cell (p := ⟨b, off + k * 2 + 1, none⟩) hb).trans t1
      have hle : (cutq (l.take k) f t).length < 1000000 := by
        have h1 := cutq_len (l.take k) f t
        have h2 : (l.take k).length ≤ l.length := by rw [List.length_take]; omega
        have h3 := HL.out
        omega
      have hki : (k : Int) < (len : Int) := by omega
      have HX := Lib.hid hx
      have HB := Lib.hid hbel
      clear hx hb t0 t1
      by_cases h1 : f ≤ x.tick
      · by_cases h2 : x.tick ≤ t
        · have HN := Lib.hid (cutq_yes HX.out h1 h2)
          have hsz := hbel.size
          clear hbel
          go_wp2_with (at_builtin; refine push_smp _ rfl _ _ rfl w.heap.size _ _ rfl (hown.alloc _) wr.heap.size _ 1 x rfl (Blk.new wr _ _) hle (by simp; omega) ?_; intro v2 w2 ho2 hb2 hg2)
          go_roundw
          case rel => exact ⟨k + 1, by omega, by go_num, by rw [HN.out]; exact ho2, (HB.out.alloc HB.out.size _).trans hb2⟩
          case measure => simp [intOf]; omega
        · have HN := Lib.hid (cutq_no (f := f) (t := t) HX.out (fun h => h2 h.2))
          clear hbel
          go_wp2
          go_roundw
          case rel => exact ⟨k + 1, by omega, by go_num, by rw [HN.out]; exact hown, HB.out⟩
          case measure => simp [intOf]; omega
      · have HN := Lib.hid (cutq_no (f := f) (t := t) HX.out (fun h => h1 h.1))
        clear hbel
        go_wp2
        go_roundw
        case rel => exact ⟨k + 1, by omega, by go_num, by rw [HN.out]; exact hown, HB.out⟩
        case measure => simp [intOf]; omega
    · have hE : l.take k = l := List.take_of_length_le (by have := HL.out; omega)
      rw [hE] at hown
      clear hE
      go_wp2
      go_ret
      exact ⟨_, rfl, hown, hbel⟩
def valq (l : List Smp) : List Int := l.map fun x => max x.value 0
theorem valq_len (l : List Smp) : (valq l).length = l.length := List.length_map _
theorem valq_next {l : List Smp} {k : Nat} {x : Smp} (h : l[k]? = some x) : valq (l.take (k + 1)) = valq (l.take k) ++ [max x.value 0] := by
  rw [take_next h]; unfold valq; simp
theorem valq_bd {l : List Smp} (hg : ∀ x ∈ l, x.good) : ∀ y ∈ valq l, 0 ≤ y ∧ y ≤ 9223372036854775807 := by
  intro y hy
  obtain ⟨x, hx, rfl⟩ := List.mem_map.1 hy
  have := (hg x hx).2
  unfold I64 at this
  omega
theorem window_Values (A : Option Addr) (len cap : Nat) (l : List Smp) (w : World) (hs : SmpsAre w A len cap l) (hn : len ≤ 1000) :
    Calls Try.prog 132 #[.slice A len cap] w fun e w' => ∃ v, e = .returned v ∧ OwnI w' w.heap.size v (valq l) ∧ Below w.heap.size w w' := by
  have HS := Lib.hid hs
  have HL := Lib.hid hs.1
  clear hs
  go_enter Try.func132, Try.ntmps132
  go_wp2
  go_loopw [3, 8] (fun v i wr => ∃ k : Nat, k ≤ len ∧ i = .int .i64 k ∧ OwnI wr w.heap.size v (valq (l.take k)) ∧ Below w.heap.size w wr) (fun _ i _ => len - (intOf i).toNat)
  case atStart => exact ⟨0, Nat.zero_le _, rfl, Own.nil _ _ _ _ _, Below.refl _ _⟩
  case round =>
    obtain ⟨k, hk, rfl, hown, hbel⟩ := hrel
    by_cases hlt : k < len
    · obtain ⟨b, off, x, rfl, hx, hb, t0, t1⟩ := HS.out.at_ hlt
      have kt0 := (hbel.cell (p := ⟨b, off + k * 2, none⟩) hb).trans t0
      have kt1 := (hbel.cell (p := ⟨b, off + k * 2 + 1, none⟩) hb).trans t1
      have hle : (valq (l.take k)).length < 1000000 := by
        rw [valq_len]
        have h2 : (l.take k).length ≤ l.length := by rw [List.length_take]; omega
        have h3 := HL.out
        omega
      have hki : (k : Int) < (len : Int) := by omega
      have HN := Lib.hid (valq_next hx)
      have HB := Lib.hid hbel
      have hsz := hbel.size
      clear hx hb t0 t1 hbel
      by_cases h1 : x.value < 0
      · have HM := Lib.hid (show max x.value 0 = 0 by omega)
        have d1 : decide (0 < x.value) = false := by simp; omega
        go_wp2_with (at_builtin; refine push_int _ rfl _ _ rfl w.heap.size _ _ rfl ((hown.alloc _).alloc _) ⟨wr.heap.size + 1, 0, none⟩ 1 0 rfl (by simp) hle (by simp; omega) ?_; intro v2 w2 ho2 hb2)
        go_roundw
        case rel => exact ⟨k + 1, by omega, by go_num, by rw [HN.out, HM.out]; exact ho2, ((HB.out.alloc HB.out.size _).alloc (by simp; omega) _).trans hb2⟩
        case measure => simp [intOf]; omega
      · by_cases h2 : x.value = 0
        · have HM := Lib.hid (show max x.value 0 = 0 by omega)
          have d1 : decide (x.value < 0) = false := by simp; omega
          have d2 : decide (0 < x.value) = false := by simp; omega
          clear h2
          go_wp2_with (at_builtin; refine push_int _ rfl _ _ rfl w.heap.size _ _ rfl ((hown.alloc _).alloc _) ⟨wr.heap.size + 1, 0, none⟩ 1 _ rfl (by simp; rfl) hle (by simp; omega) ?_; intro v2 w2 ho2 hb2)
          go_roundw
          case rel =>
            refine ⟨k + 1, by omega, by go_num, ?_, ((HB.out.alloc HB.out.size _).alloc (by simp; omega) _).trans hb2⟩
            rw [HN.out, HM.out]
            have hz : x.value = 0 := by simp at d1 d2; omega
            first | exact ho2 | (rw [hz] at ho2; exact ho2)
          case measure => simp [intOf]; omega
        · have HM := Lib.hid (show max x.value 0 = x.value by omega)
          have d1 : decide (x.value < 0) = false := by simp; omega
          have d2 : decide (0 < x.value) = true := by simp; omega
          clear h2
          go_wp2_with (at_builtin; refine push_int _ rfl _ _ rfl w.heap.size _ _ rfl ((hown.alloc _).alloc _) ⟨wr.heap.size + 1, 0, none⟩ 1 x.value rfl (by simp) hle (by simp; omega) ?_; intro v2 w2 ho2 hb2)
          go_roundw
          case rel => exact ⟨k + 1, by omega, by go_num, by rw [HN.out, HM.out]; exact ho2, ((HB.out.alloc HB.out.size _).alloc (by simp; omega) _).trans hb2⟩
          case measure => simp [intOf]; omega
    · have hE : l.take k = l := List.take_of_length_le (by have := HL.out; omega)
      rw [hE] at hown
      clear hE
      go_wp2
      go_ret
      exact ⟨_, rfl, hown, hbel⟩
theorem ref09_Values (A : Option Addr) (len cap : Nat) (l : List Smp) (w : World) (hs : SmpsAre w A len cap l) (hn : len ≤ 1000) :
    Calls Try.prog 119 #[.slice A len cap] w fun e w' => ∃ v, e = .returned v ∧ OwnI w' w.heap.size v (valq l) ∧ Below w.heap.size w w' := by
  have HS := Lib.hid hs
  have HL := Lib.hid hs.1
  clear hs
  go_enter Try.func119, Try.ntmps119
  go_wp2
  go_loopw [3, 4] (fun v i wr => ∃ k : Nat, k ≤ len ∧ i = .int .i64 k ∧ OwnI wr w.heap.size v (valq (l.take k)) ∧ Below w.heap.size w wr) (fun _ i _ => len - (intOf i).toNat)
  case atStart => exact ⟨0, Nat.zero_le _, rfl, Own.nil _ _ _ _ _, Below.refl _ _⟩
  case round =>
    obtain ⟨k, hk, rfl, hown, hbel⟩ := hrel
    by_cases hlt : k < len
    · obtain ⟨b, off, x, rfl, hx, hb, t0, t1⟩ := HS.out.at_ hlt
      have kt0 := (hbel.cell (p := ⟨b, off + k * 2, none⟩) hb).trans t0
      have kt1 := (hbel.cell (p := ⟨b, off + k * 2 + 1, none⟩) hb).trans t1
      have hle : (valq (l.take k)).length < 1000000 := by
        rw [valq_len]
        have h2 : (l.take k).length ≤ l.length := by rw [List.length_take]; omega
        have h3 := HL.out
        omega
      have hki : (k : Int) < (len : Int) := by omega
      have HN := Lib.hid (valq_next hx)
      have HB := Lib.hid hbel
      have hsz := hbel.size
      clear hx hb t0 t1 hbel
      by_cases h1 : x.value < 0
      · have HM := Lib.hid (show max x.value 0 = 0 by omega)
        go_wp2_with (at_builtin; refine push_int _ rfl _ _ rfl w.heap.size _ _ rfl (hown.alloc _) ⟨wr.heap.size, 0, none⟩ 1 0 rfl (by simp) hle (by simp; omega) ?_; intro v2 w2 ho2 hb2)
        go_roundw
        case rel => exact ⟨k + 1, by omega, by go_num, by rw [HN.out, HM.out]; exact ho2, (HB.out.alloc HB.out.size _).trans hb2⟩
        case measure => simp [intOf]; omega
      · have HM := Lib.hid (show max x.value 0 = x.value by omega)
        go_wp2_with (at_builtin; refine push_int _ rfl _ _ rfl w.heap.size _ _ rfl (hown.alloc _) ⟨wr.heap.size, 0, none⟩ 1 x.value rfl (by simp) hle (by simp; omega) ?_; intro v2 w2 ho2 hb2)
        go_roundw
        case rel => exact ⟨k + 1, by omega, by go_num, by rw [HN.out, HM.out]; exact ho2, (HB.out.alloc HB.out.size _).trans hb2⟩
        case measure => simp [intOf]; omega
    · have hE : l.take k = l := List.take_of_length_le (by have := HL.out; omega)
      rw [hE] at hown
      clear hE
      go_wp2
      go_ret
      exact ⟨_, rfl, hown, hbel⟩
end Go.Proofs.Ytjodpffdlggjgaa
/- slices.Min, slices.Max, window.Of, window.From, window.At. -/
namespace Go.Proofs.Ytjodpffdlggjgaa
open Go.RowKit
set_option linter.unusedSimpArgs false
set_option linter.unusedVariables false
set_option maxHeartbeats 2000000
set_option maxRecDepth 100000

def minq : List Int → Int
  | [] => 0
  | a :: l => l.foldl min a
def maxq : List Int → Int
  | [] => 0
  | a :: l => l.foldl max a
theorem minq_snoc (a : Int) (l : List Int) (x : Int) : minq (a :: l ++ [x]) = min (minq (a :: l)) x := by simp [minq]
theorem maxq_snoc (a : Int) (l : List Int) (x : Int) : maxq (a :: l ++ [x]) = max (maxq (a :: l)) x := by simp [maxq]
theorem minq_next {l : List Int} {k : Nat} {x : Int} (h : l[k]? = some x) (hk : 1 ≤ k) : minq (l.take (k + 1)) = min (minq (l.take k)) x := by
  rw [take_next h]
  obtain ⟨j, rfl⟩ : ∃ j, k = j + 1 := ⟨k - 1, by omega⟩
  cases l with
  | nil => simp at h
  | cons a l => exact minq_snoc a (l.take j) x
theorem maxq_next {l : List Int} {k : Nat} {x : Int} (h : l[k]? = some x) (hk : 1 ≤ k) : maxq (l.take (k + 1)) = max (maxq (l.take k)) x := by
  rw [take_next h]
  obtain ⟨j, rfl⟩ : ∃ j, k = j + 1 := ⟨k - 1, by omega⟩
  cases l with
  | nil => simp at h
  | cons a l => exact maxq_snoc a (l.take j) x
theorem minq_one {l : List Int} {x : Int} (h : l[0]? = some x) : minq (l.take 1) = x := by
  cases l with
  | nil => simp at h
  | cons a l => simp at h; subst h; rfl
theorem maxq_one {l : List Int} {x : Int} (h : l[0]? = some x) : maxq (l.take 1) = x := by
  cases l with
  | nil => simp at h
  | cons a l => simp at h; subst h; rfl
theorem slices_Min (A : Option Addr) (len cap : Nat) (l : List Int) (w : World) (hs : IntsAre w A len cap l) (h1 : 1 ≤ len) (hn : len ≤ 1000) :
    Calls Try.prog 134 #[.slice A len cap] w fun e w' => e = .returned (.int .i64 (minq l)) ∧ w = w' := by
  have HS := Lib.hid hs
  have HL := Lib.hid hs.1
  have m1 : len ≤ 9223372036854775806 := by omega
  obtain ⟨b, off, x0, rfl, hx0, hb0, hc0⟩ := IntsAre.at_ hs (show 0 < len by omega)
  have HX0 := Lib.hid (minq_one hx0)
  rw [Nat.add_zero] at hc0
  clear hs hx0
  go_enter Try.func134, Try.ntmps134
  go_wp2
  clear hc0
  go_loop [3, 4] (fun m i => ∃ k : Nat, 1 ≤ k ∧ k ≤ len ∧ i = .int .i64 k ∧ m = .int .i64 (minq (l.take k))) (fun _ i => len - (intOf i).toNat)
  case atStart => exact ⟨1, by omega, by omega, rfl, by rw [HX0.out]⟩
  case round =>
    obtain ⟨k, hk1, hk, rfl, rfl⟩ := hrel
    by_cases hlt : k < len
    · obtain ⟨b', off', x, hab, hx, hb, hc⟩ := IntsAre.at_ HS.out hlt
      cases hab
      have HN := Lib.hid (minq_next hx hk1)
      have hki : (k : Int) < (len : Int) := by omega
      clear hx
      generalize minq (l.take k) = m at *
      by_cases hlo : x < m
      · have E := Lib.hid (show min m x = x by omega)
        go_wp2
        go_round
        case rel => exact ⟨k + 1, by omega, by omega, by go_num, by rw [HN.out, E.out]⟩
        case measure => simp [intOf]; omega
      · have E := Lib.hid (show min m x = m by omega)
        go_wp2
        go_round
        case rel => exact ⟨k + 1, by omega, by omega, by go_num, by rw [HN.out, E.out]⟩
        case measure => simp [intOf]; omega
    · have hE : l.take k = l := List.take_of_length_le (by have := HL.out; omega)
      rw [hE]
      clear hE
      go_wp2
      go_ret
      exact ⟨rfl, rfl⟩
theorem slices_Max (A : Option Addr) (len cap : Nat) (l : List Int) (w : World) (hs : IntsAre w A len cap l) (h1 : 1 ≤ len) (hn : len ≤ 1000) :
    Calls Try.prog 135 #[.slice A len cap] w fun e w' => e = .returned (.int .i64 (maxq l)) ∧ w = w' := by
  have HS := Lib.hid hs
  have HL := Lib.hid hs.1
  have m1 : len ≤ 9223372036854775806 := by omega
  obtain ⟨b, off, x0, rfl, hx0, hb0, hc0⟩ := IntsAre.at_ hs (show 0 < len by omega)
  have HX0 := Lib.hid (maxq_one hx0)
  rw [Nat.add_zero] at hc0
  clear hs hx0
  go_enter Try.func135, Try.ntmps135
  go_wp2
  clear hc0
  go_loop [3, 4] (fun m i => ∃ k : Nat, 1 ≤ k ∧ k ≤ len ∧ i = .int .i64 k ∧ m = .int .i64 (maxq (l.take k))) (fun _ i => len - (intOf i).toNat)
  case atStart => exact ⟨1, by omega, by omega, rfl, by rw [HX0.out]⟩
  case round =>
    obtain ⟨k, hk1, hk, rfl, rfl⟩ := hrel
    by_cases hlt : k < len
    · obtain ⟨b', off', x, hab, hx, hb, hc⟩ := IntsAre.at_ HS.out hlt
      cases hab
      have HN := Lib.hid (maxq_next hx hk1)
      have hki : (k : Int) < (len : Int) := by omega
      clear hx
      generalize maxq (l.take k) = m at *
      by_cases hlo : m < x
      · have E := Lib.hid (show max m x = x by omega)
        go_wp2
        go_round
        case rel => exact ⟨k + 1, by omega, by omega, by go_num, by rw [HN.out, E.out]⟩
        case measure => simp [intOf]; omega
      · have E := Lib.hid (show max m x = m by omega)
        go_wp2
        go_round
        case rel => exact ⟨k + 1, by omega, by omega, by go_num, by rw [HN.out, E.out]⟩
        case measure => simp [intOf]; omega
    · have hE : l.take k = l := List.take_of_length_le (by have := HL.out; omega)
      rw [hE]
      clear hE
      go_wp2
      go_ret
      exact ⟨rfl, rfl⟩
structure Stat where
  count : Int
  sum : Int
  least : Int
  most : Int
  mean : Int
deriving DecidableEq
abbrev Stat.row (s : Stat) : Array Value := #[.int .i64 s.count, .int .i64 s.sum, .int .i64 s.least, .int .i64 s.most, .int .i64 s.mean]
def statq (l : List Smp) : Stat := if l.length = 0 then ⟨0, 0, 0, 0, 0⟩ else ⟨l.length, sumq (valq l), minq (valq l), maxq (valq l), meanq (valq l)⟩
theorem window_Of (A : Option Addr) (len cap : Nat) (l : List Smp) (w : World) (hs : SmpsAre w A len cap l) (hg : ∀ x ∈ l, x.good) (hn : len ≤ 200) :
    Calls Try.prog 116 #[.slice A len cap] w fun e w' => e = .returned (.agg (statq l).row) ∧ Below w.heap.size w w' := by
  have HS := Lib.hid hs
  have HL := Lib.hid hs.1
  have HV := Lib.hid (valq_bd hg)
  clear hs hg
  have E0 := Lib.hid (show Below w.heap.size w (w.alloc (.cells #[.int .i64 0, .int .i64 0, .int .i64 0, .int .i64 0, .int .i64 0] 133)) by go_grown)
  go_enter Try.func116, Try.ntmps116
  go_wp2_with fail
  refine (window_Values A len cap l _ (slice_keep HS.out E0.out) (by omega)).mono ?_
  rintro e w1 ⟨v, rfl, ho, hb1⟩
  obtain ⟨A', n', c', rfl, hn', hsl⟩ := ho.shape (fun _ => rfl)
  obtain rfl : n' = len := by rw [hn', valq_len]; exact HL.out
  have BR := Lib.hid ((Blk.new w 133 #[.int .i64 0, .int .i64 0, .int .i64 0, .int .i64 0, .int .i64 0]).call hb1)
  have E1 := Lib.hid (E0.out.trans (hb1.mono E0.out.size))
  have SL := Lib.hid hsl
  clear hn' ho hsl hb1 E0
  by_cases h0 : n' = 0
  · have HQ := Lib.hid (show statq l = ⟨0, 0, 0, 0, 0⟩ by unfold statq; rw [if_pos (by rw [HL.out]; exact h0)])
    have d0 : ((n' : Int) == 0) = true := by simp; omega
    clear h0
    go_wp2_with (refine wpList_store_row rfl 133 (.tmp 2) (.tmp 9) rfl w.heap.size _ _ _ rfl rfl BR.out (by rfl) (by kernel_rfl) (by simp [Value.oneCell']) ?_; intro w9 hb9 hg9)
    refine bodyPost_ret (results_row rfl _ _ w.heap.size _ _ _ rfl hb9 Try.underlying133 rfl (by kernel_rfl)) rfl ⟨by rw [HQ.out], E1.out.trans (Only.below hg9 (Nat.le_refl _) E1.out.size)⟩
  · have HQ := Lib.hid (show statq l = ⟨n', sumq (valq l), minq (valq l), maxq (valq l), meanq (valq l)⟩ by unfold statq; rw [if_neg (by rw [HL.out]; exact h0), HL.out])
    have d0 : ((n' : Int) == 0) = false := by simp; omega
    have h1 : 1 ≤ n' := by omega
    have HG := Lib.hid (fun x hx => (show I64 x by have := HV.out x hx; unfold I64; omega) : ∀ x ∈ valq l, I64 x)
    clear h0
    go_wp2_with fail
    refine (sat_Sum _ _ _ _ _ SL.out HG.out (by omega)).mono ?_
    rintro e w2 ⟨rfl, rfl⟩
    go_wp2_with fail
    refine (slices_Min _ _ _ _ _ SL.out h1 (by omega)).mono ?_
    rintro e w2 ⟨rfl, rfl⟩
    go_wp2_with fail
    refine (slices_Max _ _ _ _ _ SL.out h1 (by omega)).mono ?_
    rintro e w2 ⟨rfl, rfl⟩
    go_wp2_with fail
    refine (wide_Mean _ _ _ _ _ SL.out HG.out (by omega)).mono ?_
    rintro e w2 ⟨rfl, hb2⟩
    go_wp2_with (refine wpList_store_row rfl 133 (.tmp 2) (.tmp 20) rfl w.heap.size _ _ _ rfl rfl (BR.out.call hb2) (by rfl) (by kernel_rfl) (by simp [Value.oneCell']) ?_; intro w9 hb9 hg9)
    have E2 := E1.out.trans (hb2.mono E1.out.size)
    refine bodyPost_ret (results_row rfl _ _ w.heap.size _ _ _ rfl hb9 Try.underlying133 rfl (by kernel_rfl)) rfl ⟨by rw [HQ.out], E2.trans (Only.below hg9 (Nat.le_refl _) E2.size)⟩
def fromq (to width : Int) : Int := satq (satq (to - width) + 1)
theorem fromq_I64 (to width : Int) : I64 (fromq to width) := satq_I64 _
theorem window_From (to width : Int) (w : World) (h1 : I64 to) (h2 : I64 width) :
    Calls Try.prog 118 #[.int .i64 to, .int .i64 width] w fun e w' => e = .returned (.int .i64 (fromq to width)) ∧ w = w' := by
  go_enter Try.func118, Try.ntmps118
  go_wp2_with (first | (go_at_call 104; refine (sat_Sub _ _ _ h1 h2).mono ?_; rintro e w1 ⟨rfl, rfl⟩) | (go_at_call 72; refine (sat_Add _ _ _ (satq_I64 _) (by unfold I64; omega)).mono ?_; rintro e w1 ⟨rfl, rfl⟩))
  go_ret
  exact ⟨rfl, rfl⟩
theorem ref09_From (to width : Int) (w : World) (h1 : I64 to) (h2 : I64 width) :
    Calls Try.prog 99 #[.int .i64 to, .int .i64 width] w fun e w' => e = .returned (.int .i64 (fromq to width)) ∧ w = w' := by
  go_enter Try.func99, Try.ntmps99
  go_wp2_with (first | (go_at_call 113; refine (ref_Sub _ _ _ h1 h2).mono ?_; rintro e w1 ⟨rfl, rfl⟩) | (go_at_call 39; refine (ref_Add _ _ _ (satq_I64 _) (by unfold I64; omega)).mono ?_; rintro e w1 ⟨rfl, rfl⟩))
  go_ret
  exact ⟨rfl, rfl⟩
theorem cutq_good {l : List Smp} (hg : ∀ x ∈ l, x.good) (f t : Int) : ∀ x ∈ cutq l f t, x.good := fun x hx => hg x ((List.mem_filter.1 hx).1)
theorem window_At (A : Option Addr) (len cap : Nat) (l : List Smp) (to width : Int) (w : World) (hs : SmpsAre w A len cap l) (hg : ∀ x ∈ l, x.good) (hn : len ≤ 200) (h1 : I64 to) (h2 : I64 width) :
    Calls Try.prog 94 #[.slice A len cap, .int .i64 to, .int .i64 width] w fun e w' => e = .returned (.agg (statq (cutq l (fromq to width) to)).row) ∧ Below w.heap.size w w' := by
  have HS := Lib.hid hs
  have HL := Lib.hid hs.1
  have HG := Lib.hid hg
  clear hs hg
  have E0 := Lib.hid (show Below w.heap.size w (w.alloc (.cells #[.int .i64 0, .int .i64 0, .int .i64 0, .int .i64 0, .int .i64 0] 133)) by go_grown)
  go_enter Try.func94, Try.ntmps94
  go_wp2_with fail
  refine (window_From to width _ h1 h2).mono ?_
  rintro e w1 ⟨rfl, rfl⟩
  go_wp2_with fail
  refine (window_Cut A len cap l _ to _ (slice_keep HS.out E0.out) (by omega)).mono ?_
  rintro e w1 ⟨v, rfl, ho, hb1⟩
  obtain ⟨A', n', c', rfl, hn', hsl⟩ := ho.shape (fun _ => rfl)
  have hn2 : n' ≤ 200 := by have := cutq_len l (fromq to width) to; have := HL.out; omega
  have BR := Lib.hid ((Blk.new w 133 #[.int .i64 0, .int .i64 0, .int .i64 0, .int .i64 0, .int .i64 0]).call hb1)
  have E1 := Lib.hid (E0.out.trans (hb1.mono E0.out.size))
  have SL := Lib.hid hsl
  clear hn' ho hsl hb1 E0
  go_wp2_with fail
  refine (window_Of A' n' c' _ _ SL.out (cutq_good HG.out _ _) hn2).mono ?_
  rintro e w2 ⟨rfl, hb2⟩
  have E2 := E1.out.trans (hb2.mono E1.out.size)
  go_wp2_with (refine wpList_store_row rfl 133 (.tmp 6) (.tmp 13) rfl w.heap.size _ _ _ rfl rfl (BR.out.call hb2) (by rfl) (by kernel_rfl) (by simp [Value.oneCell']) ?_; intro w9 hb9 hg9)
  refine bodyPost_ret (results_row rfl _ _ w.heap.size _ _ _ rfl hb9 Try.underlying133 rfl (by kernel_rfl)) rfl ⟨rfl, E2.trans (Only.below hg9 (Nat.le_refl _) E2.size)⟩
end Go.Proofs.Ytjodpffdlggjgaa
/- Package control, the rest: near or not, what is decided, the ends. -/
namespace Go.Proofs.Ytjodpffdlggjgaa
open Go.RowKit
set_option linter.unusedSimpArgs false
set_option linter.unusedVariables false
set_option maxHeartbeats 400000

theorem control_Near (p : Pol) (load now : Int) (w : World) (hp : p.fit) (hn : I64 load) :
    Calls Try.prog 76 #[(.agg #[.int .i64 p.min, .int .i64 p.max, .int .i64 p.target, .int .i64 p.tol, .int .i64 p.window, .int .i64 p.hold]), .int .i64 load, .int .i64 now] w fun e w' => e = .returned (.bool (nearq p load now)) ∧ Below w.heap.size w w' := by
  by_cases hk : p.okP
  · by_cases h1 : now < 1
    · have e0 := polErr_ok hk
      have hfin : nearq p load now = false := if_neg (by omega)
      have HF := Lib.hid hfin
      clear hk hfin
      go_enter Try.func76, Try.ntmps76
      go_wp2_with (first | (go_at_call 75; refine (policy_Check p _).mono ?_; rintro e v1 ⟨rfl, hb1⟩; obtain ⟨hc1, hf1⟩ := bcell hb1; have hB1 : Below w.heap.size w v1 := Below.trans (by go_grown) (hb1.mono (by first | omega | (simp; done) | (simp; omega))); have hz1 : w.heap.size < v1.heap.size := (by have := hb1.size; first | omega | (simp at this; omega)); have hs1 := hb1.size; (try simp only [World.size_alloc, World.size_setCell, World.size_drew] at hs1); clear hb1))
      go_ret
      exact ⟨ret_bool HF.out.symm, by go_grown⟩
    · by_cases h2 : 1073741824 < now
      · have e0 := polErr_ok hk
        have hfin : nearq p load now = false := if_neg (by omega)
        have HF := Lib.hid hfin
        clear hk hfin
        go_enter Try.func76, Try.ntmps76
        go_wp2_with (first | (go_at_call 75; refine (policy_Check p _).mono ?_; rintro e v2 ⟨rfl, hb2⟩; obtain ⟨hc2, hf2⟩ := bcell hb2; have hB2 : Below w.heap.size w v2 := Below.trans (by go_grown) (hb2.mono (by first | omega | (simp; done) | (simp; omega))); have hz2 : w.heap.size < v2.heap.size := (by have := hb2.size; first | omega | (simp at this; omega)); have hs2 := hb2.size; (try simp only [World.size_alloc, World.size_setCell, World.size_drew] at hs2); clear hb2))
        go_ret
        exact ⟨ret_bool HF.out.symm, by go_grown⟩
      · exact control_Near_ok p load now (loadq load) w hp hn hk (by omega) (by omega) (by unfold loadq; omega)
  · have e0 := polErr_no hk
    have hfin : nearq p load now = false := if_neg (fun h => hk h.1)
    have HF := Lib.hid hfin
    clear hk hfin
    go_enter Try.func76, Try.ntmps76
    go_wp2_with (first | (go_at_call 75; refine (policy_Check p _).mono ?_; rintro e v3 ⟨rfl, hb3⟩; obtain ⟨hc3, hf3⟩ := bcell hb3; have hB3 : Below w.heap.size w v3 := Below.trans (by go_grown) (hb3.mono (by first | omega | (simp; done) | (simp; omega))); have hz3 : w.heap.size < v3.heap.size := (by have := hb3.size; first | omega | (simp at this; omega)); have hs3 := hb3.size; (try simp only [World.size_alloc, World.size_setCell, World.size_drew] at hs3); clear hb3))
    go_ret
    exact ⟨ret_bool HF.out.symm, by go_grown⟩
def rawq (p : Pol) (load now : Int) : Int := if nearq p load now then boundq p now else boundq p (wantq p load)
theorem wantq_I64 (p : Pol) (n : Int) (hp : p.fit) (hn : I64 n) : I64 (wantq p n) := by
  unfold wantq
  split
  · have hl := loadq_bd hn
    unfold ceilq
    split
    · unfold I64; omega
    · rename_i h1 h2
      have := fl_neg (loadq n) p.target (by omega)
      have b := fl_bd (loadq n) p.target (by omega)
      have c := b.2.1 (by omega)
      rw [this]
      unfold I64
      by_cases h0 : p.target = 1
      · rw [h0, Int.emod_one, if_pos rfl, Int.ediv_one]; omega
      · have : loadq n / p.target ≤ 4611686018427387903 := by
          have e := (Int.ediv_lt_iff_lt_mul (a := loadq n) (b := 4611686018427387904) (c := p.target) (by omega)).2 (by omega)
          omega
        split <;> omega
  · unfold I64; omega
theorem control_Raw (p : Pol) (load now : Int) (w : World) (hp : p.fit) (hn : I64 load) :
    Calls Try.prog 46 #[(.agg #[.int .i64 p.min, .int .i64 p.max, .int .i64 p.target, .int .i64 p.tol, .int .i64 p.window, .int .i64 p.hold]), .int .i64 load, .int .i64 now] w fun e w' => e = .returned (.int .i64 (rawq p load now)) ∧ Below w.heap.size w w' := by
  cases h : nearq p load now
  · have HF := Lib.hid (show rawq p load now = boundq p (wantq p load) by unfold rawq; rw [h]; rfl)
    go_enter Try.func46, Try.ntmps46
    go_wp2_with (first | (go_at_call 76; refine (control_Near p load now _ hp hn).mono ?_; rintro e va ⟨rfl, hba⟩; obtain ⟨hca, hfa⟩ := bcell hba; have hBa : Below w.heap.size w va := Below.trans (by go_grown) (hba.mono (by first | omega | (simp; done) | (simp; omega))); have hza : w.heap.size < va.heap.size := (by have := hba.size; first | omega | (simp at this; omega)); have hsa := hba.size; (try simp only [World.size_alloc, World.size_setCell, World.size_drew] at hsa); clear hba))
    have HS : va.cell? ⟨w.heap.size, 0, none⟩ = some (.int .i64 p.min) ∧ va.cell? ⟨w.heap.size, 1, none⟩ = some (.int .i64 p.max) ∧ va.cell? ⟨w.heap.size, 2, none⟩ = some (.int .i64 p.target) ∧ va.cell? ⟨w.heap.size, 3, none⟩ = some (.int .i64 p.tol) ∧ va.cell? ⟨w.heap.size, 4, none⟩ = some (.int .i64 p.window) ∧ va.cell? ⟨w.heap.size, 5, none⟩ = some (.int .i64 p.hold) ∧ w.heap.size < va.heap.size ∧ Below w.heap.size w va := (by refine ⟨?_, ?_, ?_, ?_, ?_, ?_, ?_, ?_⟩ <;> first | assumption | go_simp)
    clear hca hfa hBa hza hsa
    go_region_held3 (fun w' => w'.cell? ⟨w.heap.size, 0, none⟩ = some (.int .i64 p.min) ∧ w'.cell? ⟨w.heap.size, 1, none⟩ = some (.int .i64 p.max) ∧ w'.cell? ⟨w.heap.size, 2, none⟩ = some (.int .i64 p.target) ∧ w'.cell? ⟨w.heap.size, 3, none⟩ = some (.int .i64 p.tol) ∧ w'.cell? ⟨w.heap.size, 4, none⟩ = some (.int .i64 p.window) ∧ w'.cell? ⟨w.heap.size, 5, none⟩ = some (.int .i64 p.hold) ∧ w.heap.size < w'.heap.size ∧ Below w.heap.size w w') (first | (go_split_ands; refine held6 (by assumption) ?_ ?_ ?_ ?_ ?_ ?_ ?_ ?_ <;> assumption) | exact held6_drew HS | (go_split_ands; refine ⟨?_, ?_, ?_, ?_, ?_, ?_, ?_, ?_⟩ <;> assumption))
      (first
        | (go_at_call 77; refine (control_Want p load _ hp hn).mono ?_; rintro e w1 ⟨rfl, hb⟩)
        | (go_at_call 47; refine (control_Bound p _ _).mono ?_; rintro e w1 ⟨rfl, hb⟩))
    have hz := held6_out (by assumption)
    go_wp2
    go_ret
    exact ⟨ret_int HF.out.symm, hz⟩
  · have HF := Lib.hid (show rawq p load now = boundq p now by unfold rawq; rw [h]; rfl)
    go_enter Try.func46, Try.ntmps46
    go_wp2_with (first | (go_at_call 76; refine (control_Near p load now _ hp hn).mono ?_; rintro e v4 ⟨rfl, hb4⟩; obtain ⟨hc4, hf4⟩ := bcell hb4; have hB4 : Below w.heap.size w v4 := Below.trans (by go_grown) (hb4.mono (by first | omega | (simp; done) | (simp; omega))); have hz4 : w.heap.size < v4.heap.size := (by have := hb4.size; first | omega | (simp at this; omega)); have hs4 := hb4.size; (try simp only [World.size_alloc, World.size_setCell, World.size_drew] at hs4); clear hb4) | (go_at_call 47; refine (control_Bound p _ _).mono ?_; rintro e v5 ⟨rfl, hb5⟩; obtain ⟨hc5, hf5⟩ := bcell hb5; have hB5 : Below w.heap.size w v5 := Below.trans (by go_grown) (hb5.mono (by first | omega | (simp; done) | (simp; omega))); have hz5 : w.heap.size < v5.heap.size := (by have := hb5.size; first | omega | (simp at this; omega)); have hs5 := hb5.size; (try simp only [World.size_alloc, World.size_setCell, World.size_drew] at hs5); clear hb5))
    go_ret
    exact ⟨ret_int HF.out.symm, by go_grown⟩
def lowq (p : Pol) (n : Int) : Int := if p.okP ∧ 1 ≤ n ∧ n ≤ 1073741824 then satq (satq ((n - 1) * p.target) + 1) else 0
def lowIs (p : Pol) (n : Int) : Bool := decide (p.okP ∧ 1 ≤ n ∧ n ≤ 1073741824)
def highq (p : Pol) (n : Int) : Int := if p.okP ∧ 0 ≤ n ∧ n ≤ 1073741824 then satq (n * p.target) else 0
def highIs (p : Pol) (n : Int) : Bool := decide (p.okP ∧ 0 ≤ n ∧ n ≤ 1073741824)
end Go.Proofs.Ytjodpffdlggjgaa
/- The reference's rounded quotients of 128 bits. -/
namespace Go.Proofs.Ytjodpffdlggjgaa
open Go.RowKit
set_option linter.unusedSimpArgs false
set_option linter.unusedVariables false
set_option maxHeartbeats 400000
theorem cmpN_lt (X Y : Nat) : decide (cmpN X Y < 0) = decide (X < Y) := by
  unfold cmpN
  rw [Bool.eq_iff_iff]
  simp only [decide_eq_true_eq]
  split <;> (try split) <;> omega
theorem mul_lt128q {a b : Nat} (ha : a < 2 ^ 64) (hb : b < 2 ^ 64) : a * b < 2 ^ 128 := by
  have := Nat.mul_le_mul (show a ≤ 2 ^ 64 - 1 by omega) (show b ≤ 2 ^ 64 - 1 by omega)
  omega
theorem rangeAt_blk {w : World} {g : Nat} {t : TypeId} {cs : Array Value} (h : Blk w g t cs) : w.rangeAt g 0 cs.toList := fun j v hv => by
  rw [Nat.zero_add]; exact h.cellv (by simpa using hv)
theorem heldR {w0 W w1 : World} {g : Nat} {cs : List Value} (hb : Below W.heap.size W w1) (hr : W.rangeAt g 0 cs) (hs : g < W.heap.size) (hB : Below g w0 W) : w1.rangeAt g 0 cs ∧ g < w1.heap.size ∧ Below g w0 w1 :=
  ⟨fun j v hv => (hb.cell (p := ⟨g, 0 + j, none⟩) hs).trans (hr j v hv), Nat.lt_of_lt_of_le hs hb.size, hB.trans (hb.mono (Nat.le_of_lt hs))⟩
theorem info_list (N : Nat) : (Try.prog.info? 146).map (·.size) = some (bitsA N).toList.length := by rw [info_num N]; simp
theorem num_MulM (a b M : Nat) (w : World) (hM : M = a * b) (ha : a < 2 ^ 64) (hb : b < 2 ^ 64) :
    Calls Try.prog 108 #[.int .u64 a, .int .u64 b] w fun e w' => e = .returned (.agg (bitsA M)) ∧ Below w.heap.size w w' := by
  subst hM; exact num_Mul a b w ha hb
def upIs (n d q : Nat) : Bool := decide (n ≤ q * d ∧ (q = 0 ∨ (q - 1) * d < n))
end Go.Proofs.Ytjodpffdlggjgaa
/- The reference of package control: Load, Want, Bound, Near, Open. -/
namespace Go.Proofs.Ytjodpffdlggjgaa
open Go.RowKit
set_option linter.unusedSimpArgs false
set_option linter.unusedVariables false
set_option maxHeartbeats 4000000
set_option maxRecDepth 100000
theorem ref_Load (n : Int) (w : World) :
    Calls Try.prog 109 #[.int .i64 n] w fun e w' => e = .returned (.int .i64 (loadq n)) ∧ w = w' := by
  by_cases h : n < 0
  · have HQ := Lib.hid (show loadq n = 0 from if_pos h)
    go_enter Try.func109, Try.ntmps109
    go_wp2
    go_ret
    exact ⟨ret_int HQ.out.symm, rfl⟩
  · have HQ := Lib.hid (show loadq n = n from if_neg h)
    have d : decide (n < 0) = false := by simpa using h
    clear h
    go_enter Try.func109, Try.ntmps109
    go_wp2
    go_ret
    exact ⟨ret_int HQ.out.symm, rfl⟩
abbrev Pol.row (p : Pol) : Array Value := #[.int .i64 p.min, .int .i64 p.max, .int .i64 p.target, .int .i64 p.tol, .int .i64 p.window, .int .i64 p.hold]
theorem ref_Want (p : Pol) (n : Int) (w : World) (hp : p.fit) (hn : I64 n) :
    Calls Try.prog 81 #[(.agg #[.int .i64 p.min, .int .i64 p.max, .int .i64 p.target, .int .i64 p.tol, .int .i64 p.window, .int .i64 p.hold]), .int .i64 n] w fun e w' => e = .returned (.int .i64 (wantq p n)) ∧ Below w.heap.size w w' := by
  have hL := loadq_I64 hn
  have hT := hp.2.2.1
  by_cases hk : p.okP
  · have e1 := polOk_true hk
    have HQ := Lib.hid (show wantq p n = ceilq (loadq n) p.target from if_pos hk)
    clear hk
    go_enter Try.func81, Try.ntmps81
    go_wp2_with (first | (go_at_call 49; refine (ref_Right p _).mono ?_; rw [e1]; rintro e v1 ⟨rfl, hb1⟩))
    have B0 := Lib.hid ((Blk.new w 23 p.row).call hb1)
    have hB1 : Below w.heap.size w v1 := Below.trans (by go_grown) (hb1.mono (by simp))
    clear hb1
    refine wp_region_any (by kernel_rfl) ?_; change wpAny _ _ _ _ _ _ _ (World.drew v1); refine any_of_anyG (late := fun _ => false) (S := fun wS => Below v1.heap.size v1 wS) _ _ _ _ ?_
    have S0 := (Below.refl v1.heap.size v1).drew
    refine anyG_take (i := 0) (v := _) rfl (by kernel_rfl) (by kernel_rfl) (by kernel_rfl) (by kernel_rfl) rfl (by kernel_rfl) (fun j hj => by first | (simp at hj; done) | (simp at hj; simp; omega)) (fun _ _ _ h => h) (Or.inl ⟨by rfl, fun W1 hW1 => by first | rfl | (go_simp; done) | (go_simp; with_reducible rfl)⟩) (S0) ?_
    refine anyG_take (i := 2) (v := _) rfl (by kernel_rfl) (by kernel_rfl) (by kernel_rfl) (by kernel_rfl) rfl (by kernel_rfl) (fun j hj => by first | (simp at hj; done) | (simp at hj; simp; omega)) (fun _ _ _ h => h) (Or.inl ⟨by rfl, fun W1 hW1 => by first | rfl | (go_simp; done) | (go_simp; with_reducible rfl)⟩) (S0) ?_
    refine anyG_take (i := 3) (v := .int .i64 p.target) rfl (by kernel_rfl) (by kernel_rfl) (by kernel_rfl) (by kernel_rfl) rfl (by kernel_rfl) (fun j hj => by first | (simp at hj; done) | (simp at hj; simp; omega)) (fun _ _ _ h => h) (Or.inl ⟨by rfl, fun W1 hW1 => by have c := (B0.out.call hW1).cellv (i := 2) (v := .int .i64 p.target) rfl; go_simp⟩) (S0) ?_
    refine anyG_one (k := 1) (by kernel_rfl) rfl (by rfl) (fun Q2 hQ2 => ?_); go_wp2_with (go_at_call 109; refine (ref_Load n _).mono ?_; rintro e w1 ⟨rfl, rfl⟩); refine hQ2 _ _ (fun _ => S0) ?_; clear hQ2 Q2
    refine anyG_one (k := 4) (by kernel_rfl) rfl (by rfl) (fun Q2 hQ2 => ?_); go_wp2_with (go_at_call 112; refine (ref_Ceil _ _ _ hL hT).mono ?_; rintro e w1 ⟨rfl, rfl⟩); refine hQ2 _ _ (fun _ => S0) ?_; clear hQ2 Q2
    refine anyG_one (k := 5) (by kernel_rfl) rfl (by rfl) (fun Q2 hQ2 => ?_); go_wp2_with fail; refine hQ2 _ _ (fun _ => S0) ?_; clear hQ2 Q2
    refine anyG_done (by kernel_rfl) ?_ _
    go_wp2
    go_ret
    exact ⟨ret_int HQ.out.symm, hB1.trans (S0.mono hB1.size)⟩
  · have e1 := polOk_false hk
    have HQ := Lib.hid (show wantq p n = 0 from if_neg hk)
    clear hk
    go_enter Try.func81, Try.ntmps81
    go_wp2_with (first | (go_at_call 49; refine (ref_Right p _).mono ?_; rw [e1]; rintro e v1 ⟨rfl, hb1⟩))
    go_ret
    exact ⟨ret_int HQ.out.symm, Below.trans (by go_grown) (hb1.mono (by simp))⟩
theorem ref_Bound (p : Pol) (n : Int) (w : World) :
    Calls Try.prog 51 #[(.agg #[.int .i64 p.min, .int .i64 p.max, .int .i64 p.target, .int .i64 p.tol, .int .i64 p.window, .int .i64 p.hold]), .int .i64 n] w fun e w' => e = .returned (.int .i64 (boundq p n)) ∧ Below w.heap.size w w' := by
  by_cases hk : p.okP
  · have e1 := polOk_true hk
    have HQ := Lib.hid (show boundq p n = clampq n p.min p.max from if_pos hk)
    clear hk
    go_enter Try.func51, Try.ntmps51
    go_wp2_with (first | (go_at_call 49; refine (ref_Right p _).mono ?_; rw [e1]; rintro e v1 ⟨rfl, hb1⟩; obtain ⟨hc1, hf1⟩ := bcell hb1) | (go_at_call 79; refine (ref_Clamp _ _ _ _).mono ?_; rintro e w1 ⟨rfl, rfl⟩))
    go_ret
    exact ⟨ret_int HQ.out.symm, Below.trans (by go_grown) (hb1.mono (by simp))⟩
  · have e1 := polOk_false hk
    have HQ := Lib.hid (show boundq p n = 0 from if_neg hk)
    clear hk
    go_enter Try.func51, Try.ntmps51
    go_wp2_with (first | (go_at_call 49; refine (ref_Right p _).mono ?_; rw [e1]; rintro e v1 ⟨rfl, hb1⟩))
    go_ret
    exact ⟨ret_int HQ.out.symm, Below.trans (by go_grown) (hb1.mono (by simp))⟩
end Go.Proofs.Ytjodpffdlggjgaa
/- decide.latest, Now, why; history.Highest; steady.Of; and the reference's. -/
namespace Go.Proofs.Ytjodpffdlggjgaa
open Go.RowKit
set_option linter.unusedSimpArgs false
set_option linter.unusedVariables false
set_option maxHeartbeats 4000000
set_option maxRecDepth 100000
def latestq (l : List Smp) : Int := maxq (l.map Smp.tick)
theorem latest_next {l : List Smp} {k : Nat} {x : Smp} (h : l[k]? = some x) (hk : 1 ≤ k) : latestq (l.take (k + 1)) = max (latestq (l.take k)) x.tick := by
  unfold latestq
  rw [List.map_take, List.map_take]
  exact maxq_next (by rw [List.getElem?_map, h]; rfl) hk
theorem latest_one {l : List Smp} {x : Smp} (h : l[0]? = some x) : latestq (l.take 1) = x.tick := by
  unfold latestq
  rw [List.map_take]
  exact maxq_one (by rw [List.getElem?_map, h]; rfl)
theorem fold_tick {l : List Smp} {k : Nat} {x : Smp} {a : Int} (h : l[k]? = some x) : ((l.take (k + 1)).map Smp.tick).foldl max a = max (((l.take k).map Smp.tick).foldl max a) x.tick := by
  rw [take_next h, List.map_append, List.foldl_append]; rfl
theorem latest_all {l : List Smp} {x : Smp} (h : l[0]? = some x) : (l.map Smp.tick).foldl max x.tick = latestq l := by
  cases l with
  | nil => simp at h
  | cons a l => simp at h; subst h; simp [latestq, maxq]
theorem decide_latest_no (cap : Nat) (A : Option Addr) (w : World) :
    Calls Try.prog 93 #[.slice A 0 cap] w fun e w' => e = .returned (.tuple #[.int .i64 0, .bool false]) ∧ w = w' := by
  go_enter Try.func93, Try.ntmps93
  go_wp2
  go_ret2
  exact ⟨rfl, rfl⟩
theorem decide_latest (A : Option Addr) (len cap : Nat) (l : List Smp) (w : World) (hs : SmpsAre w A len cap l) (h1 : 1 ≤ len) (hn : len ≤ 1000) :
    Calls Try.prog 93 #[.slice A len cap] w fun e w' => e = .returned (.tuple #[.int .i64 (latestq l), .bool true]) ∧ Below w.heap.size w w' := by
  have HS := Lib.hid hs
  have HL := Lib.hid hs.1
  obtain ⟨b, off, x0, rfl, hx0, hb0, u0, u1⟩ := hs.at_ (show 0 < len by omega)
  rw [Nat.zero_mul, Nat.add_zero] at u0
  have HX0 := Lib.hid hx0
  have d0 : ((len : Int) == 0) = false := by simp; omega
  clear hs hx0 u1
  go_enter Try.func93, Try.ntmps93
  go_wp2
  clear u0
  go_loopw [4, 16] (fun m i wr => ∃ k : Nat, k ≤ len ∧ i = .int .i64 k ∧ m = .int .i64 (((l.take k).map Smp.tick).foldl max x0.tick) ∧ Below w.heap.size w wr) (fun _ i _ => len - (intOf i).toNat)
  case atStart => exact ⟨0, by omega, rfl, rfl, Below.refl _ _⟩
  case round =>
    obtain ⟨k, hk, rfl, rfl, hbel⟩ := hrel
    by_cases hlt : k < len
    · obtain ⟨b', off', x, hab, hx, hb, t0, t1⟩ := HS.out.at_ hlt
      cases hab
      have kt0 := (hbel.cell (p := ⟨b, off + k * 2, none⟩) hb).trans t0
      have kt1 := (hbel.cell (p := ⟨b, off + k * 2 + 1, none⟩) hb).trans t1
      have HN := Lib.hid (fold_tick (a := x0.tick) hx)
      have hki : (k : Int) < (len : Int) := by omega
      have HB := Lib.hid hbel
      clear hx t0 t1 hb hbel
      generalize ((l.take k).map Smp.tick).foldl max x0.tick = m at *
      by_cases hlo : m < x.tick
      · have E := Lib.hid (show max m x.tick = x.tick by omega)
        go_wp2
        go_roundw
        case rel => exact ⟨k + 1, by omega, by go_num, by rw [HN.out, E.out], HB.out.alloc HB.out.size _⟩
        case measure => simp [intOf]; omega
      · have E := Lib.hid (show max m x.tick = m by omega)
        go_wp2
        go_roundw
        case rel => exact ⟨k + 1, by omega, by go_num, by rw [HN.out, E.out], HB.out.alloc HB.out.size _⟩
        case measure => simp [intOf]; omega
    · have hE : l.take k = l := List.take_of_length_le (by have := HL.out; omega)
      rw [hE, latest_all HX0.out]
      clear hE
      go_wp2
      go_ret2
      exact ⟨rfl, hbel⟩
theorem ref16_Latest (A : Option Addr) (len cap : Nat) (l : List Smp) (w : World) (hs : SmpsAre w A len cap l) (h1 : 1 ≤ len) (hn : len ≤ 1000) :
    Calls Try.prog 96 #[.slice A len cap] w fun e w' => e = .returned (.int .i64 (latestq l)) ∧ w = w' := by
  have HS := Lib.hid hs
  have HL := Lib.hid hs.1
  obtain ⟨b, off, x0, rfl, hx0, hb0, u0, u1⟩ := hs.at_ (show 0 < len by omega)
  rw [Nat.zero_mul, Nat.add_zero] at u0
  have HX0 := Lib.hid hx0
  clear hs hx0 u1
  go_enter Try.func96, Try.ntmps96
  go_wp2
  clear u0
  go_loop [3, 4] (fun m i => ∃ k : Nat, k ≤ len ∧ i = .int .i64 k ∧ m = .int .i64 (((l.take k).map Smp.tick).foldl max x0.tick)) (fun _ i => len - (intOf i).toNat)
  case atStart => exact ⟨0, by omega, rfl, rfl⟩
  case round =>
    obtain ⟨k, hk, rfl, rfl⟩ := hrel
    by_cases hlt : k < len
    · obtain ⟨b', off', x, hab, hx, hb, t0, t1⟩ := HS.out.at_ hlt
      cases hab
      have HN := Lib.hid (fold_tick (a := x0.tick) hx)
      have hki : (k : Int) < (len : Int) := by omega
      clear hx hb t1
      generalize ((l.take k).map Smp.tick).foldl max x0.tick = m at *
      by_cases hlo : m < x.tick
      · have E := Lib.hid (show max m x.tick = x.tick by omega)
        go_wp2
        go_round
        case rel => exact ⟨k + 1, by omega, by go_num, by rw [HN.out, E.out]⟩
        case measure => simp [intOf]; omega
      · have E := Lib.hid (show max m x.tick = m by omega)
        go_wp2
        go_round
        case rel => exact ⟨k + 1, by omega, by go_num, by rw [HN.out, E.out]⟩
        case measure => simp [intOf]; omega
    · have hE : l.take k = l := List.take_of_length_le (by have := HL.out; omega)
      rw [hE, latest_all HX0.out]
      clear hE
      go_wp2
      go_ret
      exact ⟨rfl, rfl⟩
def nowq (p : Pol) (past : List Adv) : Int := if past.length = 0 then p.min else replAt past (past.length - 1)
theorem decide_Now (p : Pol) (A : Option Addr) (len cap : Nat) (l : List Adv) (w : World) (hs : AdvsAre w A len cap l) (hn : len ≤ 1000) :
    Calls Try.prog 43 #[(.agg #[.int .i64 p.min, .int .i64 p.max, .int .i64 p.target, .int .i64 p.tol, .int .i64 p.window, .int .i64 p.hold]), .slice A len cap] w fun e w' => e = .returned (.int .i64 (nowq p l)) ∧ Below w.heap.size w w' := by
  have HL := hs.1
  by_cases h0 : len = 0
  · have HQ := Lib.hid (show nowq p l = p.min by unfold nowq; rw [if_pos (by omega)])
    have d0 : ((len : Int) == 0) = true := by simp; omega
    clear hs h0
    go_enter Try.func43, Try.ntmps43
    go_wp2
    go_ret
    exact ⟨ret_int HQ.out.symm, by go_grown⟩
  · have HQ := Lib.hid (show nowq p l = replAt l (len - 1) by unfold nowq; rw [if_neg (by omega), HL])
    have d0 : ((len : Int) == 0) = false := by simp; omega
    obtain ⟨j, rfl⟩ : ∃ j, len = j + 1 := ⟨len - 1, by omega⟩
    obtain ⟨b, off, x, rfl, hx, hb, t0, t1, t2, t3, t4⟩ := hs.at_ (show j < j + 1 by omega)
    have HX := Lib.hid (replAt_eq hx)
    clear hs h0 hx t0 t1 t2 t4 HL
    have e1 : ((j + 1 : Nat) : Int) - 1 = (j : Int) := by omega
    go_enter Try.func43, Try.ntmps43
    go_wp2
    go_ret
    exact ⟨ret_int (by rw [HQ.out, Nat.add_sub_cancel, HX.out]), by go_grown⟩
theorem ref16_Now (p : Pol) (A : Option Addr) (len cap : Nat) (l : List Adv) (w : World) (hs : AdvsAre w A len cap l) (hn : len ≤ 1000) :
    Calls Try.prog 50 #[(.agg #[.int .i64 p.min, .int .i64 p.max, .int .i64 p.target, .int .i64 p.tol, .int .i64 p.window, .int .i64 p.hold]), .slice A len cap] w fun e w' => e = .returned (.int .i64 (nowq p l)) ∧ Below w.heap.size w w' := by
  have HL := hs.1
  by_cases h0 : len = 0
  · have HQ := Lib.hid (show nowq p l = p.min by unfold nowq; rw [if_pos (by omega)])
    have d0 : ((len : Int) == 0) = true := by simp; omega
    clear hs h0
    go_enter Try.func50, Try.ntmps50
    go_wp2
    go_ret
    exact ⟨ret_int HQ.out.symm, by go_grown⟩
  · have HQ := Lib.hid (show nowq p l = replAt l (len - 1) by unfold nowq; rw [if_neg (by omega), HL])
    have d0 : ((len : Int) == 0) = false := by simp; omega
    obtain ⟨j, rfl⟩ : ∃ j, len = j + 1 := ⟨len - 1, by omega⟩
    obtain ⟨b, off, x, rfl, hx, hb, t0, t1, t2, t3, t4⟩ := hs.at_ (show j < j + 1 by omega)
    have HX := Lib.hid (replAt_eq hx)
    clear hs h0 hx t0 t1 t2 t4 HL
    have e1 : ((j + 1 : Nat) : Int) - 1 = (j : Int) := by omega
    go_enter Try.func50, Try.ntmps50
    go_wp2
    go_ret
    exact ⟨ret_int (by rw [HQ.out, Nat.add_sub_cancel, HX.out]), by go_grown⟩
def whyq (p : Pol) (held : Bool) (op now th : Int) : Int := if held then 4 else if p.max < op then 6 else if op < p.min then 5 else if now < th then 2 else if th < now then 3 else 1
theorem decide_why (p : Pol) (held : Bool) (op now th : Int) (w : World) :
    Calls Try.prog 95 #[(.agg #[.int .i64 p.min, .int .i64 p.max, .int .i64 p.target, .int .i64 p.tol, .int .i64 p.window, .int .i64 p.hold]), .bool held, .int .i64 op, .int .i64 now, .int .i64 th] w fun e w' => e = .returned (.int .i64 (whyq p held op now th)) ∧ Below w.heap.size w w' := by
  have HQ := Lib.hid (show whyq p held op now th = if held then 4 else if p.max < op then 6 else if op < p.min then 5 else if now < th then 2 else if th < now then 3 else 1 from rfl)
  cases held
  all_goals
    go_enter Try.func95, Try.ntmps95
    go_wp2
    all_goals
      go_ret
      exact ⟨ret_int (by rw [HQ.out]; simp only [Bool.false_eq_true, if_false, if_true]; repeat (first | rfl | rw [if_pos (by assumption)] | rw [if_neg (by omega)])), by go_grown⟩
theorem ref16_Why (p : Pol) (held : Bool) (op now th : Int) (w : World) :
    Calls Try.prog 100 #[(.agg #[.int .i64 p.min, .int .i64 p.max, .int .i64 p.target, .int .i64 p.tol, .int .i64 p.window, .int .i64 p.hold]), .bool held, .int .i64 op, .int .i64 now, .int .i64 th] w fun e w' => e = .returned (.int .i64 (whyq p held op now th)) ∧ Below w.heap.size w w' := by
  have HQ := Lib.hid (show whyq p held op now th = if held then 4 else if p.max < op then 6 else if op < p.min then 5 else if now < th then 2 else if th < now then 3 else 1 from rfl)
  cases held
  all_goals
    go_enter Try.func100, Try.ntmps100
    go_wp2
    all_goals
      go_ret
      exact ⟨ret_int (by rw [HQ.out]; simp only [Bool.false_eq_true, if_false, if_true]; repeat (first | rfl | rw [if_pos (by assumption)] | rw [if_neg (by omega)])), by go_grown⟩
end Go.Proofs.Ytjodpffdlggjgaa
/- history.Highest, steady.Of, and the reference's. -/
namespace Go.Proofs.Ytjodpffdlggjgaa
open Go.RowKit
set_option linter.unusedSimpArgs false
set_option linter.unusedVariables false
set_option maxHeartbeats 4000000
set_option maxRecDepth 100000
def hstep (f t : Int) (s : Int × Bool) (a : Adv) : Int × Bool := if f < a.tick ∧ a.tick ≤ t ∧ (s.2 = false ∨ s.1 < a.want) then (a.want, true) else s
def highq0 (l : List Adv) (f t : Int) : Int × Bool := l.foldl (hstep f t) (0, false)
def highest (l : List Adv) (tick hold : Int) : Int × Bool := highq0 l (satq (tick - hold)) tick
theorem high_next {l : List Adv} {k : Nat} {x : Adv} {f t : Int} (h : l[k]? = some x) : highq0 (l.take (k + 1)) f t = hstep f t (highq0 (l.take k) f t) x := by
  unfold highq0; rw [take_next h, List.foldl_append]; rfl
theorem hstep_yes {f t bst : Int} {is : Bool} {x : Adv} (h1 : f < x.tick) (h2 : x.tick ≤ t) (h3 : is = false ∨ bst < x.want) : hstep f t (bst, is) x = (x.want, true) := if_pos ⟨h1, h2, h3⟩
theorem hstep_no {f t bst : Int} {is : Bool} {x : Adv} (h : ¬ (f < x.tick ∧ x.tick ≤ t ∧ (is = false ∨ bst < x.want))) : hstep f t (bst, is) x = (bst, is) := if_neg h
theorem highq_I64 {l : List Adv} (hg : ∀ x ∈ l, x.good) (f t : Int) : I64 (highq0 l f t).1 := by
  have key : ∀ (l : List Adv), (∀ x ∈ l, x.good) → ∀ s : Int × Bool, I64 s.1 → I64 (l.foldl (hstep f t) s).1 := by
    intro l
    induction l with
    | nil => intro _ s hs; exact hs
    | cons x l ih =>
      intro hx s hs
      rw [List.foldl_cons]
      refine ih (fun y hy => hx y (by simp [hy])) _ ?_
      unfold hstep
      split
      · exact (hx x (by simp)).2.2.1
      · exact hs
  exact key l hg _ (by unfold I64; simp)
theorem history_Highest (A : Option Addr) (len cap : Nat) (l : List Adv) (tick hold : Int) (w : World) (hs : AdvsAre w A len cap l) (hn : len ≤ 1000) (h1 : I64 tick) (h2 : I64 hold) :
    Calls Try.prog 74 #[.slice A len cap, .int .i64 tick, .int .i64 hold] w fun e w' => e = .returned (.tuple #[.int .i64 (highest l tick hold).1, .bool (highest l tick hold).2]) ∧ Below w.heap.size w w' := by
  have HS := Lib.hid hs
  have HL := Lib.hid hs.1
  clear hs
  have HSub := Lib.hid (fun W => sat_Sub tick hold W h1 h2)
  have HH := Lib.hid (show highest l tick hold = highq0 l (satq (tick - hold)) tick from rfl)
  generalize satq (tick - hold) = F at *
  go_enter Try.func74, Try.ntmps74
  go_wp2_with (go_at_call 104; refine (HSub.out _).mono ?_; rintro e w4 ⟨rfl, rfl⟩)
  go_loopw [9, 10, 18] (fun bv iv i wr => ∃ k : Nat, ∃ bst : Int, ∃ is : Bool, k ≤ len ∧ i = .int .i64 k ∧ bv = .int .i64 bst ∧ iv = .bool is ∧ highq0 (l.take k) F tick = (bst, is) ∧ Below w.heap.size w wr) (fun _ _ i _ => len - (intOf i).toNat)
  case atStart => exact ⟨0, 0, false, by omega, rfl, rfl, rfl, rfl, Below.refl _ _⟩
  case round =>
    obtain ⟨k, bst, is, hk, rfl, rfl, rfl, hst, hbel⟩ := hrel
    have HST := Lib.hid hst
    clear hst
    by_cases hlt : k < len
    · obtain ⟨b, off, x, rfl, hx, hb, t0, t1, t2, t3, t4⟩ := HS.out.at_ hlt
      have kt0 := (hbel.cell (p := ⟨b, off + k * 5, none⟩) hb).trans t0
      have kt1 := (hbel.cell (p := ⟨b, off + k * 5 + 1, none⟩) hb).trans t1
      have kt2 := (hbel.cell (p := ⟨b, off + k * 5 + 2, none⟩) hb).trans t2
      have kt3 := (hbel.cell (p := ⟨b, off + k * 5 + 3, none⟩) hb).trans t3
      have kt4 := (hbel.cell (p := ⟨b, off + k * 5 + 4, none⟩) hb).trans t4
      have HN := Lib.hid (high_next (f := F) (t := tick) hx)
      have hki : (k : Int) < (len : Int) := by omega
      have HB := Lib.hid hbel
      clear hx t0 t1 t2 t3 t4 hb hbel
      by_cases c1 : F < x.tick
      · by_cases c2 : x.tick ≤ tick
        · cases is
          · have E := Lib.hid (hstep_yes (bst := bst) (is := false) c1 c2 (.inl rfl))
            go_wp2
            go_roundw
            case rel => exact ⟨k + 1, _, _, by omega, by go_num, rfl, rfl, by rw [HN.out, HST.out, E.out], HB.out.alloc HB.out.size _⟩
            case measure => simp [intOf]; omega
          · by_cases c3 : bst < x.want
            · have E := Lib.hid (hstep_yes (bst := bst) (is := true) c1 c2 (.inr c3))
              go_wp2
              go_roundw
              case rel => exact ⟨k + 1, _, _, by omega, by go_num, rfl, rfl, by rw [HN.out, HST.out, E.out], HB.out.alloc HB.out.size _⟩
              case measure => simp [intOf]; omega
            · have E := Lib.hid (hstep_no (f := F) (t := tick) (bst := bst) (is := true) (x := x) (fun h => by rcases h.2.2 with h | h <;> first | cases h | exact c3 h))
              go_wp2
              go_roundw
              case rel => exact ⟨k + 1, _, _, by omega, by go_num, rfl, rfl, by rw [HN.out, HST.out, E.out], HB.out.alloc HB.out.size _⟩
              case measure => simp [intOf]; omega
        · have E := Lib.hid (hstep_no (f := F) (t := tick) (bst := bst) (is := is) (x := x) (fun h => c2 h.2.1))
          go_wp2
          go_roundw
          case rel => exact ⟨k + 1, _, _, by omega, by go_num, rfl, rfl, by rw [HN.out, HST.out, E.out], HB.out.alloc HB.out.size _⟩
          case measure => simp [intOf]; omega
      · have E := Lib.hid (hstep_no (f := F) (t := tick) (bst := bst) (is := is) (x := x) (fun h => c1 h.1))
        go_wp2
        go_roundw
        case rel => exact ⟨k + 1, _, _, by omega, by go_num, rfl, rfl, by rw [HN.out, HST.out, E.out], HB.out.alloc HB.out.size _⟩
        case measure => simp [intOf]; omega
    · have hE : l.take k = l := List.take_of_length_le (by have := HL.out; omega)
      have HF := Lib.hid (show highest l tick hold = (bst, is) by rw [HH.out, ← hE]; exact HST.out)
      clear hE
      go_wp2
      go_ret2
      exact ⟨by rw [HF.out]; rfl, hbel⟩
theorem ref14_Highest (A : Option Addr) (len cap : Nat) (l : List Adv) (tick hold : Int) (w : World) (hs : AdvsAre w A len cap l) (hn : len ≤ 1000) (h1 : I64 tick) (h2 : I64 hold) :
    Calls Try.prog 82 #[.slice A len cap, .int .i64 tick, .int .i64 hold] w fun e w' => e = .returned (.tuple #[.int .i64 (highest l tick hold).1, .bool (highest l tick hold).2]) ∧ w = w' := by
  have HS := Lib.hid hs
  have HL := Lib.hid hs.1
  clear hs
  have HSub := Lib.hid (fun W => ref_Sub tick hold W h1 h2)
  have HH := Lib.hid (show highest l tick hold = highq0 l (satq (tick - hold)) tick from rfl)
  generalize satq (tick - hold) = F at *
  go_enter Try.func82, Try.ntmps82
  go_wp2_with (go_at_call 113; refine (HSub.out _).mono ?_; rintro e w4 ⟨rfl, rfl⟩)
  go_loop [8, 9, 11] (fun bv iv i => ∃ k : Nat, ∃ bst : Int, ∃ is : Bool, k ≤ len ∧ i = .int .i64 k ∧ bv = .int .i64 bst ∧ iv = .bool is ∧ highq0 (l.take k) F tick = (bst, is)) (fun _ _ i => len - (intOf i).toNat)
  case atStart => exact ⟨0, 0, false, by omega, rfl, rfl, rfl, rfl⟩
  case round =>
    obtain ⟨k, bst, is, hk, rfl, rfl, rfl, hst⟩ := hrel
    have HST := Lib.hid hst
    clear hst
    by_cases hlt : k < len
    · obtain ⟨b, off, x, rfl, hx, hb, t0, t1, t2, t3, t4⟩ := HS.out.at_ hlt
      have HN := Lib.hid (high_next (f := F) (t := tick) hx)
      have hki : (k : Int) < (len : Int) := by omega
      clear hx t1 t3 t4 hb
      by_cases c1 : F < x.tick
      · by_cases c2 : x.tick ≤ tick
        · cases is
          · have E := Lib.hid (hstep_yes (bst := bst) (is := false) c1 c2 (.inl rfl))
            go_wp2
            go_round
            case rel => exact ⟨k + 1, _, _, by omega, by go_num, rfl, rfl, by rw [HN.out, HST.out, E.out]⟩
            case measure => simp [intOf]; omega
          · by_cases c3 : bst < x.want
            · have E := Lib.hid (hstep_yes (bst := bst) (is := true) c1 c2 (.inr c3))
              go_wp2
              go_round
              case rel => exact ⟨k + 1, _, _, by omega, by go_num, rfl, rfl, by rw [HN.out, HST.out, E.out]⟩
              case measure => simp [intOf]; omega
            · have E := Lib.hid (hstep_no (f := F) (t := tick) (bst := bst) (is := true) (x := x) (fun h => by rcases h.2.2 with h | h <;> first | cases h | exact c3 h))
              go_wp2
              go_round
              case rel => exact ⟨k + 1, _, _, by omega, by go_num, rfl, rfl, by rw [HN.out, HST.out, E.out]⟩
              case measure => simp [intOf]; omega
        · have E := Lib.hid (hstep_no (f := F) (t := tick) (bst := bst) (is := is) (x := x) (fun h => c2 h.2.1))
          go_wp2
          go_round
          case rel => exact ⟨k + 1, _, _, by omega, by go_num, rfl, rfl, by rw [HN.out, HST.out, E.out]⟩
          case measure => simp [intOf]; omega
      · have E := Lib.hid (hstep_no (f := F) (t := tick) (bst := bst) (is := is) (x := x) (fun h => c1 h.1))
        go_wp2
        go_round
        case rel => exact ⟨k + 1, _, _, by omega, by go_num, rfl, rfl, by rw [HN.out, HST.out, E.out]⟩
        case measure => simp [intOf]; omega
    · have hE : l.take k = l := List.take_of_length_le (by have := HL.out; omega)
      have HF := Lib.hid (show highest l tick hold = (bst, is) by rw [HH.out, ← hE]; exact HST.out)
      clear hE
      go_wp2
      go_ret2
      exact ⟨by rw [HF.out]; rfl, rfl⟩
def steadyq (p : Pol) (tick want : Int) (past : List Adv) : Int × Bool := if (highest past tick p.hold).2 = true ∧ want < (highest past tick p.hold).1 then ((highest past tick p.hold).1, true) else (want, false)
theorem steady_Of (p : Pol) (tick want : Int) (A : Option Addr) (len cap : Nat) (l : List Adv) (w : World) (hp : p.fit) (hs : AdvsAre w A len cap l) (hn : len ≤ 1000) (h1 : I64 tick) :
    Calls Try.prog 44 #[(.agg #[.int .i64 p.min, .int .i64 p.max, .int .i64 p.target, .int .i64 p.tol, .int .i64 p.window, .int .i64 p.hold]), .int .i64 tick, .int .i64 want, .slice A len cap] w fun e w' => e = .returned (.tuple #[.int .i64 (steadyq p tick want l).1, .bool (steadyq p tick want l).2]) ∧ Below w.heap.size w w' := by
  have HS := Lib.hid hs
  have E0 := Lib.hid (show Below w.heap.size w (w.alloc (.cells p.row 23)) by go_grown)
  have HQ := Lib.hid (show steadyq p tick want l = if (highest l tick p.hold).2 = true ∧ want < (highest l tick p.hold).1 then ((highest l tick p.hold).1, true) else (want, false) from rfl)
  have HHi := Lib.hid (fun W hW => history_Highest A len cap l tick p.hold W hW hn h1 hp.2.2.2.2.2)
  generalize steadyq p tick want l = R at *
  clear hs
  generalize highest l tick p.hold = hh at *
  obtain ⟨bst, is⟩ := hh
  dsimp only at HQ HHi
  go_enter Try.func44, Try.ntmps44
  go_wp2_with fail
  refine (HHi.out _ (slice_keep HS.out E0.out)).mono ?_
  rintro e w1 ⟨rfl, hb1⟩
  have E1 := Lib.hid (E0.out.trans (hb1.mono E0.out.size))
  clear hb1
  cases is
  · have HR := Lib.hid (show R = (want, false) by rw [HQ.out]; simp)
    go_wp2
    go_ret2
    exact ⟨by rw [HR.out]; rfl, E1.out⟩
  · by_cases c : want < bst
    · have HR := Lib.hid (show R = (bst, true) by rw [HQ.out]; simp [c])
      go_wp2
      go_ret2
      exact ⟨by rw [HR.out]; rfl, E1.out⟩
    · have HR := Lib.hid (show R = (want, false) by rw [HQ.out]; simp [c])
      go_wp2
      go_ret2
      exact ⟨by rw [HR.out]; rfl, E1.out⟩
theorem ref15_Of (p : Pol) (tick want : Int) (A : Option Addr) (len cap : Nat) (l : List Adv) (w : World) (hp : p.fit) (hs : AdvsAre w A len cap l) (hn : len ≤ 1000) (h1 : I64 tick) :
    Calls Try.prog 53 #[(.agg #[.int .i64 p.min, .int .i64 p.max, .int .i64 p.target, .int .i64 p.tol, .int .i64 p.window, .int .i64 p.hold]), .int .i64 tick, .int .i64 want, .slice A len cap] w fun e w' => e = .returned (.tuple #[.int .i64 (steadyq p tick want l).1, .bool (steadyq p tick want l).2]) ∧ Below w.heap.size w w' := by
  have HS := Lib.hid hs
  have E0 := Lib.hid (show Below w.heap.size w (w.alloc (.cells p.row 23)) by go_grown)
  have HQ := Lib.hid (show steadyq p tick want l = if (highest l tick p.hold).2 = true ∧ want < (highest l tick p.hold).1 then ((highest l tick p.hold).1, true) else (want, false) from rfl)
  have HHi := Lib.hid (fun W hW => ref14_Highest A len cap l tick p.hold W hW hn h1 hp.2.2.2.2.2)
  generalize steadyq p tick want l = R at *
  clear hs
  generalize highest l tick p.hold = hh at *
  obtain ⟨bst, is⟩ := hh
  dsimp only at HQ HHi
  go_enter Try.func53, Try.ntmps53
  go_wp2_with fail
  refine (HHi.out _ (slice_keep HS.out E0.out)).mono ?_
  rintro e w1 ⟨rfl, rfl⟩
  cases is
  · have HR := Lib.hid (show R = (want, false) by rw [HQ.out]; simp)
    go_wp2
    go_ret2
    exact ⟨by rw [HR.out]; rfl, E0.out⟩
  · by_cases c : want < bst
    · have HR := Lib.hid (show R = (bst, true) by rw [HQ.out]; simp [c])
      go_wp2
      go_ret2
      exact ⟨by rw [HR.out]; rfl, E0.out⟩
    · have HR := Lib.hid (show R = (want, false) by rw [HQ.out]; simp [c])
      go_wp2
      go_ret2
      exact ⟨by rw [HR.out]; rfl, E0.out⟩
end Go.Proofs.Ytjodpffdlggjgaa
