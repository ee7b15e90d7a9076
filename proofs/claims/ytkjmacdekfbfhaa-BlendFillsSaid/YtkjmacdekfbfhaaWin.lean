/- window.Cut, window.Values, and the reference's. -/
import Derived.Test.YtkjmacdekfbfhaaSmp
import Derived.StillTailTactics
namespace Go.Proofs.Ytkjmacdekfbfhaa
open Go.RowKit
set_option linter.unusedSimpArgs false
set_option linter.unusedVariables false
set_option maxHeartbeats 2000000
set_option maxRecDepth 100000

def inq (f t : Int) (x : Smp) : Bool := decide (f ≤ x.tick) && decide (x.tick ≤ t)
def cutq (l : List Smp) (f t : Int) : List Smp := l.filter (inq f t)
theorem cutq_len (l : List Smp) (f t : Int) : (cutq l f t).length ≤ l.length := List.length_filter_le _ _
theorem cutq_yes {l : List Smp} {f t : Int} {k : Nat} {x : Smp} (h : l[k]? = some x) (h1 : f ≤ x.tick) (h2 : x.tick ≤ t) : cutq (l.take (k + 1)) f t = cutq (l.take k) f t ++ [x] := by
  rw [take_next h]; unfold cutq; rw [List.filter_append]; congr 1
  simp [inq, h1, h2]
theorem cutq_no {l : List Smp} {f t : Int} {k : Nat} {x : Smp} (h : l[k]? = some x) (h1 : ¬ (f ≤ x.tick ∧ x.tick ≤ t)) : cutq (l.take (k + 1)) f t = cutq (l.take k) f t := by
  rw [take_next h]; unfold cutq; rw [List.filter_append]
  have : inq f t x = false := by
    unfold inq
    rcases Int.lt_or_le x.tick f with h2 | h2
    · simp; omega
    · simp; omega
  simp [this]
def valq (l : List Smp) : List Int := l.map fun x => max x.value 0
theorem valq_len (l : List Smp) : (valq l).length = l.length := List.length_map _
theorem valq_next {l : List Smp} {k : Nat} {x : Smp} (h : l[k]? = some x) : valq (l.take (k + 1)) = valq (l.take k) ++ [max x.value 0] := by
  rw [take_next h]; unfold valq; simp
theorem valq_bd {l : List Smp} (hg : ∀ x ∈ l, x.good) : ∀ y ∈ valq l, 0 ≤ y ∧ y ≤ 9223372036854775807 := by
  intro y hy
  obtain ⟨x, hx, rfl⟩ := List.mem_map.1 hy
  have := (hg x hx).2
  unfold I64 at this
  omega
theorem window_Values (A : Option Addr) (len cap : Nat) (l : List Smp) (w : World) (hs : SmpsAre w A len cap l) (hn : len ≤ 1000) :
    Calls Try.prog 72 #[.slice A len cap] w fun e w' => ∃ v, e = .returned v ∧ OwnI w' w.heap.size v (valq l) ∧ Below w.heap.size w w' := by
  have HS := Lib.hid hs
  have HL := Lib.hid hs.1
  clear hs
  go_enter Try.func72, Try.ntmps72
  go_wp2
  go_loopw [3, 8] (fun v i wr => ∃ k : Nat, k ≤ len ∧ i = .int .i64 k ∧ OwnI wr w.heap.size v (valq (l.take k)) ∧ Below w.heap.size w wr) (fun _ i _ => len - (intOf i).toNat)
  case atStart => exact ⟨0, Nat.zero_le _, rfl, Own.nil _ _ _ _ _, Below.refl _ _⟩
  case round =>
    obtain ⟨k, hk, rfl, hown, hbel⟩ := hrel
    by_cases hlt : k < len
    · obtain ⟨b, off, x, rfl, hx, hb, t0, t1⟩ := HS.out.at_ hlt
      have kt0 := (hbel.cell (p := ⟨b, off + k * 2, none⟩) hb).trans t0
      have kt1 := (hbel.cell (p := ⟨b, off + k * 2 + 1, none⟩) hb).trans t1
      have hle : (valq (l.take k)).length < 1000000 := by
        rw [valq_len]
        have h2 : (l.take k).length ≤ l.length := by rw [List.length_take]; omega
        have h3 := HL.out
        omega
      have hki : (k : Int) < (len : Int) := by omega
      have HN := Lib.hid (valq_next hx)
      have HB := Lib.hid hbel
      have hsz := hbel.size
      clear hx hb t0 t1 hbel
      by_cases h1 : x.value < 0
      · have HM := Lib.hid (show max x.value 0 = 0 by omega)
        have d1 : decide (0 < x.value) = false := by simp; omega
        go_wp2_with (at_builtin; refine push_int _ rfl _ _ rfl w.heap.size _ _ rfl ((hown.alloc _).alloc _) ⟨wr.heap.size + 1, 0, none⟩ 1 0 rfl (by simp) hle (by simp; omega) ?_; intro v2 w2 ho2 hb2)
        go_roundw
        case rel => exact ⟨k + 1, by omega, by go_num, by rw [HN.out, HM.out]; exact ho2, ((HB.out.alloc HB.out.size _).alloc (by simp; omega) _).trans hb2⟩
        case measure => simp [intOf]; omega
      · by_cases h2 : x.value = 0
        · have HM := Lib.hid (show max x.value 0 = 0 by omega)
          have d1 : decide (x.value < 0) = false := by simp; omega
          have d2 : decide (0 < x.value) = false := by simp; omega
          clear h2
          go_wp2_with (at_builtin; refine push_int _ rfl _ _ rfl w.heap.size _ _ rfl ((hown.alloc _).alloc _) ⟨wr.heap.size + 1, 0, none⟩ 1 _ rfl (by simp; rfl) hle (by simp; omega) ?_; intro v2 w2 ho2 hb2)
          go_roundw
          case rel =>
            refine ⟨k + 1, by omega, by go_num, ?_, ((HB.out.alloc HB.out.size _).alloc (by simp; omega) _).trans hb2⟩
            rw [HN.out, HM.out]
            have hz : x.value = 0 := by simp at d1 d2; omega
            first | exact ho2 | (rw [hz] at ho2; exact ho2)
          case measure => simp [intOf]; omega
        · have HM := Lib.hid (show max x.value 0 = x.value by omega)
          have d1 : decide (x.value < 0) = false := by simp; omega
          have d2 : decide (0 < x.value) = true := by simp; omega
          clear h2
          go_wp2_with (at_builtin; refine push_int _ rfl _ _ rfl w.heap.size _ _ rfl ((hown.alloc _).alloc _) ⟨wr.heap.size + 1, 0, none⟩ 1 x.value rfl (by simp) hle (by simp; omega) ?_; intro v2 w2 ho2 hb2)
          go_roundw
          case rel => exact ⟨k + 1, by omega, by go_num, by rw [HN.out, HM.out]; exact ho2, ((HB.out.alloc HB.out.size _).alloc (by simp; omega) _).trans hb2⟩
          case measure => simp [intOf]; omega
    · have hE : l.take k = l := List.take_of_length_le (by have := HL.out; omega)
      rw [hE] at hown
      clear hE
      go_wp2
      go_ret
      exact ⟨_, rfl, hown, hbel⟩
theorem ref09_Values (A : Option Addr) (len cap : Nat) (l : List Smp) (w : World) (hs : SmpsAre w A len cap l) (hn : len ≤ 1000) :
    Calls Try.prog 74 #[.slice A len cap] w fun e w' => ∃ v, e = .returned v ∧ OwnI w' w.heap.size v (valq l) ∧ Below w.heap.size w w' := by
  have HS := Lib.hid hs
  have HL := Lib.hid hs.1
  clear hs
  go_enter Try.func74, Try.ntmps74
  go_wp2
  go_loopw [3, 4] (fun v i wr => ∃ k : Nat, k ≤ len ∧ i = .int .i64 k ∧ OwnI wr w.heap.size v (valq (l.take k)) ∧ Below w.heap.size w wr) (fun _ i _ => len - (intOf i).toNat)
  case atStart => exact ⟨0, Nat.zero_le _, rfl, Own.nil _ _ _ _ _, Below.refl _ _⟩
  case round =>
    obtain ⟨k, hk, rfl, hown, hbel⟩ := hrel
    by_cases hlt : k < len
    · obtain ⟨b, off, x, rfl, hx, hb, t0, t1⟩ := HS.out.at_ hlt
      have kt0 := (hbel.cell (p := ⟨b, off + k * 2, none⟩) hb).trans t0
      have kt1 := (hbel.cell (p := ⟨b, off + k * 2 + 1, none⟩) hb).trans t1
      have hle : (valq (l.take k)).length < 1000000 := by
        rw [valq_len]
        have h2 : (l.take k).length ≤ l.length := by rw [List.length_take]; omega
        have h3 := HL.out
        omega
      have hki : (k : Int) < (len : Int) := by omega
      have HN := Lib.hid (valq_next hx)
      have HB := Lib.hid hbel
      have hsz := hbel.size
      clear hx hb t0 t1 hbel
      by_cases h1 : x.value < 0
      · have HM := Lib.hid (show max x.value 0 = 0 by omega)
        go_wp2_with (at_builtin; refine push_int _ rfl _ _ rfl w.heap.size _ _ rfl (hown.alloc _) ⟨wr.heap.size, 0, none⟩ 1 0 rfl (by simp) hle (by simp; omega) ?_; intro v2 w2 ho2 hb2)
        go_roundw
        case rel => exact ⟨k + 1, by omega, by go_num, by rw [HN.out, HM.out]; exact ho2, (HB.out.alloc HB.out.size _).trans hb2⟩
        case measure => simp [intOf]; omega
      · have HM := Lib.hid (show max x.value 0 = x.value by omega)
        go_wp2_with (at_builtin; refine push_int _ rfl _ _ rfl w.heap.size _ _ rfl (hown.alloc _) ⟨wr.heap.size, 0, none⟩ 1 x.value rfl (by simp) hle (by simp; omega) ?_; intro v2 w2 ho2 hb2)
        go_roundw
        case rel => exact ⟨k + 1, by omega, by go_num, by rw [HN.out, HM.out]; exact ho2, (HB.out.alloc HB.out.size _).trans hb2⟩
        case measure => simp [intOf]; omega
    · have hE : l.take k = l := List.take_of_length_le (by have := HL.out; omega)
      rw [hE] at hown
      clear hE
      go_wp2
      go_ret
      exact ⟨_, rfl, hown, hbel⟩
end Go.Proofs.Ytkjmacdekfbfhaa
