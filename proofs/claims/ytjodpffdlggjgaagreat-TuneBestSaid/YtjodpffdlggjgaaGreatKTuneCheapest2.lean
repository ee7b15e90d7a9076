/- Several texts in one. -/
import Derived.Test.YtjodpffdlggjgaaGreatSmp
import Derived.StillTailTactics
import Derived.Test.YtjodpffdlggjgaaGreatDivP
import Derived.Test.YtjodpffdlggjgaaGreatWide
import Derived.Test.YtjodpffdlggjgaaGreatNum3
import Derived.RegionTactic
import Derived.ChangeAlike
import Derived.Test.YtjodpffdlggjgaaGreatTotal
import Derived.Test.YtjodpffdlggjgaaGreatControl
/- window.Cut, window.Values, and the reference's. -/
namespace Go.Proofs.YtjodpffdlggjgaaGreat
open Go.RowKit
set_option linter.unusedSimpArgs false
set_option linter.unusedVariables false
set_option maxHeartbeats 2000000
set_option maxRecDepth 100000

def inq (f t : Int) (x : Smp) : Bool := decide (f ≤ x.tick) && decide (x.tick ≤ t)
def cutq (l : List Smp) (f t : Int) : List Smp := l.filter (inq f t)
theorem cutq_len (l : List Smp) (f t : Int) : (cutq l f t).length ≤ l.length := List.length_filter_le _ _
theorem cutq_yes {l : List Smp} {f t : Int} {k : Nat} {x : Smp} (h : l[k]? = some x) (h1 : f ≤ x.tick) (h2 : x.tick ≤ t) : cutq (l.take (k + 1)) f t = cutq (l.take k) f t ++ [x] := by
  rw [take_next h]; unfold cutq; rw [List.filter_append]; congr 1
  simp [inq, h1, h2]
theorem cutq_no {l : List Smp} {f t : Int} {k : Nat} {x : Smp} (h : l[k]? = some x) (h1 : ¬ (f ≤ x.tick ∧ x.tick ≤ t)) : cutq (l.take (k + 1)) f t = cutq (l.take k) f t := by
  rw [take_next h]; unfold cutq; rw [List.filter_append]
  have : inq f t x = false := by
    unfold inq
    rcases Int.lt_or_le x.tick f with h2 | h2
    · simp; omega
    · simp; omega
  simp [this]
theorem window_Cut (A : Option Addr) (len cap : Nat) (l : List Smp) (f t : Int) (w : World) (hs : SmpsAre w A len cap l) (hn : len ≤ 1000) :
    Calls Tryz.prog 112 #[.slice A len cap, .int .i64 f, .int .i64 t] w fun e w' => ∃ v, e = .returned v ∧ OwnS w' w.heap.size v (cutq l f t) ∧ Below w.heap.size w w' := by
  have HS := Lib.hid hs
  have HL := Lib.hid hs.1
  clear hs
  go_enter Tryz.func112, Tryz.ntmps112
  go_wp2
  go_loopw [7, 12] (fun v i wr => ∃ k : Nat, k ≤ len ∧ i = .int .i64 k ∧ OwnS wr w.heap.size v (cutq (l.take k) f t) ∧ Below w.heap.size w wr) (fun _ i _ => len - (intOf i).toNat)
  case atStart => exact ⟨0, Nat.zero_le _, rfl, Own.nil _ _ _ _ _, Below.refl _ _⟩
  case round =>
    obtain ⟨k, hk, rfl, hown, hbel⟩ := hrel
    by_cases hlt : k < len
    · obtain ⟨b, off, x, rfl, hx, hb, t0, t1⟩ := HS.out.at_ hlt
      have kt0 := (hbel.cell (p := ⟨b, off + k * 2, none⟩) hb).trans t0
      have kt1 := (hbel.cell (p := ⟨b, off + k * 2 + 1, none⟩) hb).trans t1
      have hle : (cutq (l.take k) f t).length < 1000000 := by
        have h1 := cutq_len (l.take k) f t
        have h2 : (l.take k).length ≤ l.length := by rw [List.length_take]; omega
        have h3 := HL.out
        omega
      have hki : (k : Int) < (len : Int) := by omega
      have HX := Lib.hid hx
      have HB := Lib.hid hbel
      clear hx hb t0 t1
      by_cases h1 : f ≤ x.tick
      · by_cases h2 : x.tick ≤ t
        · have HN := Lib.hid (cutq_yes HX.out h1 h2)
          have hsz := hbel.size
          clear hbel
          go_wp2_with (at_builtin; refine push_smp _ rfl _ _ rfl w.heap.size _ _ rfl ((hown.alloc _).alloc _) (wr.heap.size + 1) _ 1 x rfl (Blk.new2 wr _ _ _) hle (by simp; omega) ?_; intro v2 w2 ho2 hb2 hg2)
          go_roundw
          case rel => exact ⟨k + 1, by omega, by go_num, by rw [HN.out]; exact ho2, ((HB.out.alloc HB.out.size _).alloc (by simp; omega) _).trans hb2⟩
          case measure => simp [intOf]; omega
        · have HN := Lib.hid (cutq_no (f := f) (t := t) HX.out (fun h => h2 h.2))
          clear hbel
          go_wp2
          go_roundw
          case rel => exact ⟨k + 1, by omega, by go_num, by rw [HN.out]; exact hown.alloc _, HB.out.alloc HB.out.size _⟩
          case measure => simp [intOf]; omega
      · have HN := Lib.hid (cutq_no (f := f) (t := t) HX.out (fun h => h1 h.1))
        clear hbel
        go_wp2
        go_roundw
        case rel => exact ⟨k + 1, by omega, by go_num, by rw [HN.out]; exact hown.alloc _, HB.out.alloc HB.out.size _⟩
        case measure => simp [intOf]; omega
    · have hE : l.take k = l := List.take_of_length_le (by have := HL.out; omega)
      rw [hE] at hown
      clear hE
      go_wp2
      go_ret
      exact ⟨_, rfl, hown, hbel⟩
theorem ref09_Cut (A : Option Addr) (len cap : Nat) (l : List Smp) (f t : Int) (w : World) (hs : SmpsAre w A len cap l) (hn : len ≤ 1000) :
    Calls Tryz.prog 65 #[.slice A len cap, .int .i64 f, .int .i64 t] w fun e w' => ∃ v, e = .returned v ∧ OwnS w' w.heap.size v (cutq l f t) ∧ Below w.heap.size w w' := by
  have HS := Lib.hid hs
  have HL := Lib.hid hs.1
  clear hs
  go_enter Tryz.func65, Tryz.ntmps65
  go_wp2
  go_loopw [7, 8] (fun v i wr => ∃ k : Nat, k ≤ len ∧ i = .int .i64 k ∧ OwnS wr w.heap.size v (cutq (l.take k) f t) ∧ Below w.heap.size w wr) (fun _ i _ => len - (intOf i).toNat)
  case atStart => exact ⟨0, Nat.zero_le _, rfl, Own.nil _ _ _ _ _, Below.refl _ _⟩
  case round =>
    obtain ⟨k, hk, rfl, hown, hbel⟩ := hrel
    by_cases hlt : k < len
    · obtain ⟨b, off, x, rfl, hx, hb, t0, t1⟩ := HS.out.at_ hlt
      have kt0 := (hbel.cell (p := ⟨b, off + k * 2, none⟩) hb).trans t0
      have kt1 := (hbel.cell (p := ⟨b, off + k * 2 + 1, none⟩) hb).trans t1
      have hle : (cutq (l.take k) f t).length < 1000000 := by
        have h1 := cutq_len (l.take k) f t
        have h2 : (l.take k).length ≤ l.length := by rw [List.length_take]; omega
        have h3 := HL.out
        omega
      have hki : (k : Int) < (len : Int) := by omega
      have HX := Lib.hid hx
      have HB := Lib.hid hbel
      clear hx hb t0 t1
      by_cases h1 : f ≤ x.tick
      · by_cases h2 : x.tick ≤ t
        · have HN := Lib.hid (cutq_yes HX.out h1 h2)
          have hsz := hbel.size
          clear hbel
          go_wp2_with (at_builtin; refine push_smp _ rfl _ _ rfl w.heap.size _ _ rfl (hown.alloc _) wr.heap.size _ 1 x rfl (Blk.new wr _ _) hle (by simp; omega) ?_; intro v2 w2 ho2 hb2 hg2)
          go_roundw
          case rel => exact ⟨k + 1, by omega, by go_num, by rw [HN.out]; exact ho2, (HB.out.alloc HB.out.size _).trans hb2⟩
          case measure => simp [intOf]; omega
        · have HN := Lib.hid (cutq_no (f := f) (t := t) HX.out (fun h => h2 h.2))
          clear hbel
          go_wp2
          go_roundw
          case rel => exact ⟨k + 1, by omega, by go_num, by rw [HN.out]; exact hown, HB.out⟩
          case measure => simp [intOf]; omega
      · have HN := Lib.hid (cutq_no (f := f) (t := t) HX.out (fun h => h1 h.1))
        clear hbel
        go_wp2
        go_roundw
        case rel => exact ⟨k + 1, by omega, by go_num, by rw [HN.out]; exact hown, HB.out⟩
        case measure => simp [intOf]; omega
    · have hE : l.take k = l := List.take_of_length_le (by have := HL.out; omega)
      rw [hE] at hown
      clear hE
      go_wp2
      go_ret
      exact ⟨_, rfl, hown, hbel⟩
def valq (l : List Smp) : List Int := l.map fun x => max x.value 0
theorem valq_len (l : List Smp) : (valq l).length = l.length := List.length_map _
theorem valq_next {l : List Smp} {k : Nat} {x : Smp} (h : l[k]? = some x) : valq (l.take (k + 1)) = valq (l.take k) ++ [max x.value 0] := by
  rw [take_next h]; unfold valq; simp
theorem valq_bd {l : List Smp} (hg : ∀ x ∈ l, x.good) : ∀ y ∈ valq l, 0 ≤ y ∧ y ≤ 9223372036854775807 := by
  intro y hy
  obtain ⟨x, hx, rfl⟩ := List.mem_map.1 hy
  have := (hg x hx).2
  unfold I64 at this
  omega
theorem window_Values (A : Option Addr) (len cap : Nat) (l : List Smp) (w : World) (hs : SmpsAre w A len cap l) (hn : len ≤ 1000) :
    Calls Tryz.prog 125 #[.slice A len cap] w fun e w' => ∃ v, e = .returned v ∧ OwnI w' w.heap.size v (valq l) ∧ Below w.heap.size w w' := by
  have HS := Lib.hid hs
  have HL := Lib.hid hs.1
  clear hs
  go_enter Tryz.func125, Tryz.ntmps125
  go_wp2
  go_loopw [3, 8] (fun v i wr => ∃ k : Nat, k ≤ len ∧ i = .int .i64 k ∧ OwnI wr w.heap.size v (valq (l.take k)) ∧ Below w.heap.size w wr) (fun _ i _ => len - (intOf i).toNat)
  case atStart => exact ⟨0, Nat.zero_le _, rfl, Own.nil _ _ _ _ _, Below.refl _ _⟩
  case round =>
    obtain ⟨k, hk, rfl, hown, hbel⟩ := hrel
    by_cases hlt : k < len
    · obtain ⟨b, off, x, rfl, hx, hb, t0, t1⟩ := HS.out.at_ hlt
      have kt0 := (hbel.cell (p := ⟨b, off + k * 2, none⟩) hb).trans t0
      have kt1 := (hbel.cell (p := ⟨b, off + k * 2 + 1, none⟩) hb).trans t1
      have hle : (valq (l.take k)).length < 1000000 := by
        rw [valq_len]
        have h2 : (l.take k).length ≤ l.length := by rw [List.length_take]; omega
        have h3 := HL.out
        omega
      have hki : (k : Int) < (len : Int) := by omega
      have HN := Lib.hid (valq_next hx)
      have HB := Lib.hid hbel
      have hsz := hbel.size
      clear hx hb t0 t1 hbel
      by_cases h1 : x.value < 0
      · have HM := Lib.hid (show max x.value 0 = 0 by omega)
        have d1 : decide (0 < x.value) = false := by simp; omega
        go_wp2_with (at_builtin; refine push_int _ rfl _ _ rfl w.heap.size _ _ rfl ((hown.alloc _).alloc _) ⟨wr.heap.size + 1, 0, none⟩ 1 0 rfl (by simp) hle (by simp; omega) ?_; intro v2 w2 ho2 hb2)
        go_roundw
        case rel => exact ⟨k + 1, by omega, by go_num, by rw [HN.out, HM.out]; exact ho2, ((HB.out.alloc HB.out.size _).alloc (by simp; omega) _).trans hb2⟩
        case measure => simp [intOf]; omega
      · by_cases h2 : x.value = 0
        · have HM := Lib.hid (show max x.value 0 = 0 by omega)
          have d1 : decide (x.value < 0) = false := by simp; omega
          have d2 : decide (0 < x.value) = false := by simp; omega
          clear h2
          go_wp2_with (at_builtin; refine push_int _ rfl _ _ rfl w.heap.size _ _ rfl ((hown.alloc _).alloc _) ⟨wr.heap.size + 1, 0, none⟩ 1 _ rfl (by simp; rfl) hle (by simp; omega) ?_; intro v2 w2 ho2 hb2)
          go_roundw
          case rel =>
            refine ⟨k + 1, by omega, by go_num, ?_, ((HB.out.alloc HB.out.size _).alloc (by simp; omega) _).trans hb2⟩
            rw [HN.out, HM.out]
            have hz : x.value = 0 := by simp at d1 d2; omega
            first | exact ho2 | (rw [hz] at ho2; exact ho2)
          case measure => simp [intOf]; omega
        · have HM := Lib.hid (show max x.value 0 = x.value by omega)
          have d1 : decide (x.value < 0) = false := by simp; omega
          have d2 : decide (0 < x.value) = true := by simp; omega
          clear h2
          go_wp2_with (at_builtin; refine push_int _ rfl _ _ rfl w.heap.size _ _ rfl ((hown.alloc _).alloc _) ⟨wr.heap.size + 1, 0, none⟩ 1 x.value rfl (by simp) hle (by simp; omega) ?_; intro v2 w2 ho2 hb2)
          go_roundw
          case rel => exact ⟨k + 1, by omega, by go_num, by rw [HN.out, HM.out]; exact ho2, ((HB.out.alloc HB.out.size _).alloc (by simp; omega) _).trans hb2⟩
          case measure => simp [intOf]; omega
    · have hE : l.take k = l := List.take_of_length_le (by have := HL.out; omega)
      rw [hE] at hown
      clear hE
      go_wp2
      go_ret
      exact ⟨_, rfl, hown, hbel⟩
theorem ref09_Values (A : Option Addr) (len cap : Nat) (l : List Smp) (w : World) (hs : SmpsAre w A len cap l) (hn : len ≤ 1000) :
    Calls Tryz.prog 97 #[.slice A len cap] w fun e w' => ∃ v, e = .returned v ∧ OwnI w' w.heap.size v (valq l) ∧ Below w.heap.size w w' := by
  have HS := Lib.hid hs
  have HL := Lib.hid hs.1
  clear hs
  go_enter Tryz.func97, Tryz.ntmps97
  go_wp2
  go_loopw [3, 4] (fun v i wr => ∃ k : Nat, k ≤ len ∧ i = .int .i64 k ∧ OwnI wr w.heap.size v (valq (l.take k)) ∧ Below w.heap.size w wr) (fun _ i _ => len - (intOf i).toNat)
  case atStart => exact ⟨0, Nat.zero_le _, rfl, Own.nil _ _ _ _ _, Below.refl _ _⟩
  case round =>
    obtain ⟨k, hk, rfl, hown, hbel⟩ := hrel
    by_cases hlt : k < len
    · obtain ⟨b, off, x, rfl, hx, hb, t0, t1⟩ := HS.out.at_ hlt
      have kt0 := (hbel.cell (p := ⟨b, off + k * 2, none⟩) hb).trans t0
      have kt1 := (hbel.cell (p := ⟨b, off + k * 2 + 1, none⟩) hb).trans t1
      have hle : (valq (l.take k)).length < 1000000 := by
        rw [valq_len]
        have h2 : (l.take k).length ≤ l.length := by rw [List.length_take]; omega
        have h3 := HL.out
        omega
      have hki : (k : Int) < (len : Int) := by omega
      have HN := Lib.hid (valq_next hx)
      have HB := Lib.hid hbel
      have hsz := hbel.size
      clear hx hb t0 t1 hbel
      by_cases h1 : x.value < 0
      · have HM := Lib.hid (show max x.value 0 = 0 by omega)
        go_wp2_with (at_builtin; refine push_int _ rfl _ _ rfl w.heap.size _ _ rfl (hown.alloc _) ⟨wr.heap.size, 0, none⟩ 1 0 rfl (by simp) hle (by simp; omega) ?_; intro v2 w2 ho2 hb2)
        go_roundw
        case rel => exact ⟨k + 1, by omega, by go_num, by rw [HN.out, HM.out]; exact ho2, (HB.out.alloc HB.out.size _).trans hb2⟩
        case measure => simp [intOf]; omega
      · have HM := Lib.hid (show max x.value 0 = x.value by omega)
        go_wp2_with (at_builtin; refine push_int _ rfl _ _ rfl w.heap.size _ _ rfl (hown.alloc _) ⟨wr.heap.size, 0, none⟩ 1 x.value rfl (by simp) hle (by simp; omega) ?_; intro v2 w2 ho2 hb2)
        go_roundw
        case rel => exact ⟨k + 1, by omega, by go_num, by rw [HN.out, HM.out]; exact ho2, (HB.out.alloc HB.out.size _).trans hb2⟩
        case measure => simp [intOf]; omega
    · have hE : l.take k = l := List.take_of_length_le (by have := HL.out; omega)
      rw [hE] at hown
      clear hE
      go_wp2
      go_ret
      exact ⟨_, rfl, hown, hbel⟩
end Go.Proofs.YtjodpffdlggjgaaGreat
/- wide.Div. -/
namespace Go.Proofs.YtjodpffdlggjgaaGreat
open Go.RowKit
set_option linter.unusedSimpArgs false
set_option linter.unusedVariables false
set_option maxHeartbeats 400000
theorem or_bit (r x y : Nat) (hx : x < 18446744073709551616) (hy : y = (2 * r + x / 9223372036854775808) % 18446744073709551616) : bits .or .u64 (IntKind.u64.wrap ((r : Int) * 2)) ((x : Int) / 9223372036854775808) = (y : Int) := by
  have e : IntKind.u64.wrap ((r : Int) * 2) = ((2 * r % 18446744073709551616 : Nat) : Int) := by rw [IntKind.wrap_u64]; omega
  have e2 : (x : Int) / 9223372036854775808 = ((x / 9223372036854775808 : Nat) : Int) := by omega
  rw [e, e2, u64_or_nat _ _ (by omega) (by omega), nat_join1 _ _ (by omega) (by omega)]
  omega
theorem or_pow (q m : Nat) (hq : q < 18446744073709551616) (hm : m < 64) : bits .or .u64 (q : Int) (IntKind.u64.wrap (2 ^ m)) = ((q ||| 2 ^ m : Nat) : Int) := by
  have hl : 2 ^ m < 18446744073709551616 := Nat.lt_of_lt_of_le (Nat.pow_lt_pow_right (n := 64) (by decide) hm) (by decide)
  have e : IntKind.u64.wrap (2 ^ m) = ((2 ^ m : Nat) : Int) := by
    rw [show (2 : Int) ^ m = ((2 ^ m : Nat) : Int) by simp, IntKind.wrap_u64]; generalize 2 ^ m = p at *; omega
  rw [e, u64_or_nat _ _ hq hl]
set_option maxRecDepth 100000 in
theorem wide_Div (h l d : Nat) (w : World) (hh : h < 2 ^ 64) (hl : l < 2 ^ 64) (hd : d < 2 ^ 64) (hd1 : 1 ≤ d) :
    Calls Tryz.prog 104 #[.agg #[.int .u64 h, .int .u64 l], .int .u64 d] w fun e w' =>
      e = .returned (.tuple #[.agg #[.int .u64 ((hiQ (two h l / d) : Nat) : Int), .int .u64 ((loQ (two h l / d) : Nat) : Int)], .int .u64 ((two h l % d : Nat) : Int), .bool true]) ∧ Below w.heap.size w w' := by
  have dd : ((d : Int) == 0) = false := by simp; omega
  have HH := Lib.hid hh
  have HL := Lib.hid hl
  have HD := Lib.hid hd
  clear hh hl hd
  go_enter Tryz.func104, Tryz.ntmps104
  go_wp2
  go_loopw [8, 14] (fun r i wr => ∃ k Q R xh xl qh ql : Nat, k ≤ 128 ∧ i = .int .i64 k ∧ r = .int .u64 R ∧ DivAt (two h l) d k Q R (two xh xl) ∧ two qh ql = Q * 2 ^ (128 - k) ∧ xh < 18446744073709551616 ∧ xl < 18446744073709551616 ∧ qh < 18446744073709551616 ∧ ql < 18446744073709551616 ∧
    Blk wr w.heap.size 142 #[.int .u64 xh, .int .u64 xl] ∧ Blk wr (w.heap.size + 1) 142 #[.int .u64 0, .int .u64 0] ∧ Blk wr (w.heap.size + 1 + 1) 142 #[.int .u64 qh, .int .u64 ql] ∧ Below w.heap.size w wr) (fun _ i _ => 128 - (intOf i).toNat)
  case atStart =>
    refine ⟨0, 0, 0, h, l, 0, 0, by omega, rfl, rfl, DivAt.start (by unfold two; have := HH.out; have := HL.out; omega) (by omega), by simp [two], HH.out, HL.out, by omega, by omega, ?_, ?_, ?_, by go_grown⟩
    · exact ((Blk.new w _ _).alloc _).alloc _
    · exact (Blk.new_ w _ _ _).alloc _
    · exact Blk.new__ w _ _ _ _
  case round =>
    obtain ⟨k, Q, R, xh, xl, qh, ql, hk, rfl, rfl, hdiv, hq, bxh, bxl, bqh, bql, h0, h1, h2, hbel⟩ := hrel
    have HV := Lib.hid hdiv
    have HQ := Lib.hid hq
    have H0 := Lib.hid h0
    have H1 := Lib.hid h1
    have H2 := Lib.hid h2
    have HBel := Lib.hid hbel
    clear hdiv hq h0 h1 h2 hbel
    by_cases hlt : k < 128
    · obtain ⟨R2, hR2⟩ : ∃ R2 : Nat, R2 = (2 * R + xh / 9223372036854775808) % 18446744073709551616 := ⟨_, rfl⟩
      obtain ⟨xh2, hxh2⟩ : ∃ xh2 : Nat, xh2 = (2 * xh + xl / 9223372036854775808) % 18446744073709551616 := ⟨_, rfl⟩
      obtain ⟨xl2, hxl2⟩ : ∃ xl2 : Nat, xl2 = 2 * xl % 18446744073709551616 := ⟨_, rfl⟩
      have hRd : R < d := HV.out.rest
      have hdd := HD.out
      have e1 : bits .or .u64 (IntKind.u64.wrap ((R : Int) * 2)) ((xh : Int) / 9223372036854775808) = (R2 : Int) := or_bit R xh R2 (by omega) hR2
      have e2 : bits .or .u64 (IntKind.u64.wrap ((xh : Int) * 2)) ((xl : Int) / 9223372036854775808) = (xh2 : Int) := or_bit xh xl xh2 (by omega) hxh2
      have e3 : IntKind.u64.wrap ((xl : Int) * 2) = (xl2 : Int) := by rw [IntKind.wrap_u64]; omega
      have e4 : ∀ (h : R < 9223372036854775808), bits .or .u64 ((R : Int) * 2) ((xh : Int) / 9223372036854775808) = (R2 : Int) := fun h => by
        rw [← e1, IntKind.wrap_u64]; congr 1; omega
      have hx2 : two xh2 xl2 = 2 * two xh xl % 2 ^ 128 := by rw [hxh2, hxl2]; unfold two; omega
      have hbit : xh / 9223372036854775808 = two xh xl / 2 ^ 127 := by unfold two; omega
      have hx64 : xh2 < 18446744073709551616 := by omega
      have hl64 : xl2 < 18446744073709551616 := by omega
      have r0 := H0.out.cellv (i := 0) (v := .int .u64 xh) rfl
      have r1 := H0.out.cellv (i := 1) (v := .int .u64 xl) rfl
      have f0 := H0.out.frozen 0
      have f1 := H0.out.frozen 1
      have r2 := H2.out.cellv (i := 0) (v := .int .u64 qh) rfl
      have r3 := H2.out.cellv (i := 1) (v := .int .u64 ql) rfl
      have f2 := H2.out.frozen 0
      have f3 := H2.out.frozen 1
      by_cases hc : 2 * R + xh / 9223372036854775808 < d
      · have HS := Lib.hid (show DivAt (two h l) d (k + 1) (2 * Q) R2 (two xh2 xl2) by
          have := HV.out.step0 (by rw [← hbit]; exact hc)
          rw [← hbit, ← hx2] at this
          rw [show R2 = 2 * R + xh / 9223372036854775808 by omega]
          exact this)
        have hRs : R < 9223372036854775808 := by omega
        have d1 : ((R : Int) / 9223372036854775808 == 0) = true := by simp; omega
        have d2 : (R : Int) / 9223372036854775808 = 0 := by omega
        have d3 : R2 < d := by omega
        have e5 := e4 hRs
        clear e4 hbit hR2 hxh2 hxl2 hx2 hc
        go_wp2
        go_roundw
        case rel =>
          refine ⟨k + 1, 2 * Q, R2, xh2, xl2, qh, ql, by omega, by go_num, rfl, HS.out, by rw [quo_keep hlt]; exact HQ.out, hx64, hl64, bqh, bql, ?_, (H1.out.far (by simp <;> omega) _).far (by simp <;> omega) _, (H2.out.far (by simp <;> omega) _).far (by simp <;> omega) _, (HBel.out.setCell (by simp <;> omega) _).setCell (by simp <;> omega) _⟩
          exact (H0.out.set_ 0 _).set_ 1 _
        case measure => simp [intOf]; omega
      · obtain ⟨R3, hR3⟩ : ∃ R3 : Nat, R3 = 2 * R + xh / 9223372036854775808 - d := ⟨_, rfl⟩
        have HS := Lib.hid (show DivAt (two h l) d (k + 1) (2 * Q + 1) R3 (two xh2 xl2) by
          have := HV.out.step1 (by rw [← hbit]; omega)
          rw [← hbit, ← hx2, ← hR3] at this
          exact this)
        have e6 : IntKind.u64.wrap ((R2 : Int) - (d : Int)) = (R3 : Int) := by rw [IntKind.wrap_u64]; omega
        have hsm := HV.out.small (by unfold two; have := HH.out; have := HL.out; omega) hk
        have hR264 : R2 < 18446744073709551616 := by omega
        by_cases hk64 : k < 64
        · obtain ⟨q1, q2, q3, q4⟩ := quo_high hk64 hsm (by have := bql; omega) HQ.out
          have hor2 : bits .or .u64 (qh : Int) (IntKind.u64.wrap (2 ^ (63 - k))) = ((qh ||| 2 ^ (63 - k) : Nat) : Int) := or_pow qh (63 - k) bqh (by omega)
          generalize (qh ||| 2 ^ (63 - k)) = qn at *
          have Q1 := Lib.hid q1
          clear q1 q2
          by_cases hRs : R < 9223372036854775808
          · have d1 : ((R : Int) / 9223372036854775808 == 0) = true := by simp; omega
            have d2 : (R : Int) / 9223372036854775808 = 0 := by omega
            have d3 : decide (R2 < d) = false := by simp; omega
            have e5 := e4 hRs
            clear e4 hbit hR2 hxh2 hxl2 hx2 hc hR3
            go_wp2
            go_region
            go_wp2
            go_roundw
            case rel =>
              refine ⟨k + 1, 2 * Q + 1, R3, xh2, xl2, qn, ql, by omega, by go_num, rfl, HS.out, Q1.out, hx64, hl64, q4, bql, ?_, ?_, ?_, ?_⟩
              · exact ((((H0.out.set_ 0 _).set_ 1 _).far (by simp <;> omega) _).drew)
              · exact ((((H1.out.far (by simp <;> omega) _).far (by simp <;> omega) _).far (by simp <;> omega) _).drew)
              · have := (((H2.out.far (p := ⟨w.heap.size, 0, none⟩) (by simp <;> omega) (.int .u64 xh2)).far (p := ⟨w.heap.size, 1, none⟩) (by simp <;> omega) (.int .u64 xl2)).set_ 0 (.int .u64 qn)).drew
                exact this
              · exact ((((HBel.out.setCell (by simp <;> omega) _).setCell (by simp <;> omega) _).setCell (by simp <;> omega) _).drew)
            case measure => simp [intOf]; omega
          · have d1 : ((R : Int) / 9223372036854775808 == 0) = false := by simp; omega
            have d2 : ¬ (R : Int) / 9223372036854775808 = 0 := by omega
            clear e4 hbit hR2 hxh2 hxl2 hx2 hc hR3
            go_wp2
            go_region
            go_wp2
            go_roundw
            case rel =>
              refine ⟨k + 1, 2 * Q + 1, R3, xh2, xl2, qn, ql, by omega, by go_num, rfl, HS.out, Q1.out, hx64, hl64, q4, bql, ?_, ?_, ?_, ?_⟩
              · exact ((((H0.out.set_ 0 _).set_ 1 _).far (by simp <;> omega) _).drew)
              · exact ((((H1.out.far (by simp <;> omega) _).far (by simp <;> omega) _).far (by simp <;> omega) _).drew)
              · have := (((H2.out.far (p := ⟨w.heap.size, 0, none⟩) (by simp <;> omega) (.int .u64 xh2)).far (p := ⟨w.heap.size, 1, none⟩) (by simp <;> omega) (.int .u64 xl2)).set_ 0 (.int .u64 qn)).drew
                exact this
              · exact ((((HBel.out.setCell (by simp <;> omega) _).setCell (by simp <;> omega) _).setCell (by simp <;> omega) _).drew)
            case measure => simp [intOf]; omega
        · obtain ⟨q1, q3, q4⟩ := quo_low hlt (by omega) hsm (by have := bql; omega) HQ.out
          have hor2 : bits .or .u64 (ql : Int) (IntKind.u64.wrap (2 ^ (127 - k))) = ((ql ||| 2 ^ (127 - k) : Nat) : Int) := or_pow ql (127 - k) bql (by omega)
          generalize (ql ||| 2 ^ (127 - k)) = qn at *
          have Q1 := Lib.hid q1
          clear q1
          by_cases hRs : R < 9223372036854775808
          · have d1 : ((R : Int) / 9223372036854775808 == 0) = true := by simp; omega
            have d2 : (R : Int) / 9223372036854775808 = 0 := by omega
            have d3 : decide (R2 < d) = false := by simp; omega
            have e5 := e4 hRs
            clear e4 hbit hR2 hxh2 hxl2 hx2 hc hR3
            go_wp2
            go_region
            go_wp2
            go_roundw
            case rel =>
              refine ⟨k + 1, 2 * Q + 1, R3, xh2, xl2, qh, qn, by omega, by go_num, rfl, HS.out, Q1.out, hx64, hl64, bqh, q4, ?_, ?_, ?_, ?_⟩
              · exact ((((H0.out.set_ 0 _).set_ 1 _).far (by simp <;> omega) _).drew)
              · exact ((((H1.out.far (by simp <;> omega) _).far (by simp <;> omega) _).far (by simp <;> omega) _).drew)
              · have := (((H2.out.far (p := ⟨w.heap.size, 0, none⟩) (by simp <;> omega) (.int .u64 xh2)).far (p := ⟨w.heap.size, 1, none⟩) (by simp <;> omega) (.int .u64 xl2)).set_ 1 (.int .u64 qn)).drew
                exact this
              · exact ((((HBel.out.setCell (by simp <;> omega) _).setCell (by simp <;> omega) _).setCell (by simp <;> omega) _).drew)
            case measure => simp [intOf]; omega
          · have d1 : ((R : Int) / 9223372036854775808 == 0) = false := by simp; omega
            have d2 : ¬ (R : Int) / 9223372036854775808 = 0 := by omega
            clear e4 hbit hR2 hxh2 hxl2 hx2 hc hR3
            go_wp2
            go_region
            go_wp2
            go_roundw
            case rel =>
              refine ⟨k + 1, 2 * Q + 1, R3, xh2, xl2, qh, qn, by omega, by go_num, rfl, HS.out, Q1.out, hx64, hl64, bqh, q4, ?_, ?_, ?_, ?_⟩
              · exact ((((H0.out.set_ 0 _).set_ 1 _).far (by simp <;> omega) _).drew)
              · exact ((((H1.out.far (by simp <;> omega) _).far (by simp <;> omega) _).far (by simp <;> omega) _).drew)
              · have := (((H2.out.far (p := ⟨w.heap.size, 0, none⟩) (by simp <;> omega) (.int .u64 xh2)).far (p := ⟨w.heap.size, 1, none⟩) (by simp <;> omega) (.int .u64 xl2)).set_ 1 (.int .u64 qn)).drew
                exact this
              · exact ((((HBel.out.setCell (by simp <;> omega) _).setCell (by simp <;> omega) _).setCell (by simp <;> omega) _).drew)
            case measure => simp [intOf]; omega
    · obtain rfl : k = 128 := by omega
      obtain ⟨e1, e2⟩ := HV.out.done
      have hq := HQ.out
      rw [Nat.sub_self, Nat.pow_zero, Nat.mul_one, e1] at hq
      obtain ⟨g1, g2⟩ := hi_lo_of (N := two h l / d) (h := qh) (l := ql) hq.symm (by omega)
      have G1 := Lib.hid g1
      have G2 := Lib.hid g2
      have E2 := Lib.hid e2
      clear e1 e2 g1 g2 hq
      have r2 := H2.out.cellv (i := 0) (v := .int .u64 qh) rfl
      have r3 := H2.out.cellv (i := 1) (v := .int .u64 ql) rfl
      have s2 := H1.out.cellv (i := 0) (v := .int .u64 0) rfl
      have s3 := H1.out.cellv (i := 1) (v := .int .u64 0) rfl
      have f2 := H1.out.frozen 0
      have f3 := H1.out.frozen 1
      go_wp2
      refine bodyPost_ret (results_row_tmp2 rfl _ _ (w.heap.size + 1) _ _ _ rfl ((H1.out.set_ 0 _).set_ 1 _) Tryz.underlying142 rfl (by kernel_rfl)) rfl ⟨?_, (HBel.out.setCell (by simp <;> omega) _).setCell (by simp <;> omega) _⟩
      rw [G1.out, G2.out, ← E2.out]
      rfl
end Go.Proofs.YtjodpffdlggjgaaGreat
/- wide.Total, wide.Scale, wide.Mean. -/
namespace Go.Proofs.YtjodpffdlggjgaaGreat
open Go.RowKit
set_option linter.unusedSimpArgs false
set_option linter.unusedVariables false
set_option maxHeartbeats 400000
set_option maxRecDepth 100000 in
theorem wide_Total (A : Option Addr) (len cap : Nat) (l : List Int) (w : World) (hs : IntsAre w A len cap l) (hg : ∀ x ∈ l, I64 x) (hn : len ≤ 1000000) :
    Calls Tryz.prog 137 #[.slice A len cap] w fun e w' => e = .returned (.agg #[.int .u64 ((hiQ (totq l) : Nat) : Int), .int .u64 ((loQ (totq l) : Nat) : Int)]) ∧ Below w.heap.size w w' := by
  have HS := Lib.hid hs
  have HG := Lib.hid hg
  have HL := Lib.hid hs.1
  clear hs hg
  go_enter Tryz.func137, Tryz.ntmps137
  go_wp2
  go_loopw [8] (fun i wr => ∃ k O : Nat, k ≤ len ∧ i = .int .i64 k ∧ O = totq (l.take k) ∧ Blk wr w.heap.size 142 #[.int .u64 0, .int .u64 0] ∧ Blk wr (w.heap.size + 1) 142 #[.int .u64 ((hiQ O : Nat) : Int), .int .u64 ((loQ O : Nat) : Int)] ∧ Below w.heap.size w wr) (fun i _ => len - (intOf i).toNat)
  case atStart =>
    refine ⟨0, 0, by omega, rfl, rfl, ?_, ?_, by go_grown⟩
    · exact (Blk.new w _ _).alloc _
    · exact Blk.new_ w _ _ _
  case round =>
    obtain ⟨k, O, hk, rfl, hO, h0, h1, hbel⟩ := hrel
    have H0 := Lib.hid h0
    have H1 := Lib.hid h1
    have HBel := Lib.hid hbel
    by_cases hlt : k < len
    · obtain ⟨b, off, x, rfl, hx, hb, hc⟩ := HS.out.at_ hlt
      have kc := (hbel.cell (p := ⟨b, off + k, none⟩) hb).trans hc
      have hxI := HG.out x (List.mem_of_getElem? hx)
      unfold I64 at hxI
      have hsn := totq_snoc (l.take k) x
      rw [← take_next hx, ← hO] at hsn
      have hle := totq_lt (l.take k) (take_I64 HG.out k)
      have hlk : (l.take k).length ≤ 1000000 := by rw [List.length_take]; omega
      have hle2 : totq (l.take k) ≤ 1000000 * 9223372036854775807 := Nat.le_trans hle (Nat.mul_le_mul_right _ hlk)
      rw [← hO] at hle2
      clear hle hlk
      have hki : (k : Int) < (len : Int) := by omega
      by_cases hpos : 0 < x
      · obtain ⟨X, rfl⟩ : ∃ X : Nat, x = (X : Int) := ⟨x.toNat, by omega⟩
        rw [Int.toNat_natCast] at hsn
        have HN := Lib.hid (show sumRow (O + X) = totq (l.take (k + 1)) by rw [hsn]; unfold sumRow; rw [if_pos (by omega)])
        have HM := Lib.hid (show O < 2 ^ 128 ∧ X < 2 ^ 128 ∧ X < 2 ^ 64 by omega)
        have hX0 : (0 : Int) = ((hiQ X : Nat) : Int) := by have : hiQ X = 0 := by unfold hiQ; omega
                                                           rw [this]; rfl
        have hX1 : (X : Int) = ((loQ X : Nat) : Int) := by have : loQ X = X := by unfold loQ; omega
                                                           rw [this]
        have HC := Lib.hid (fun W => (wide_AddN O X W HM.out.1 HM.out.2.1))
        rw [← hX0, ← hX1] at HC
        have r0 := H1.out.cellv (i := 0) (v := .int .u64 ((hiQ O : Nat) : Int)) rfl
        have r1 := H1.out.cellv (i := 1) (v := .int .u64 ((loQ O : Nat) : Int)) rfl
        have f0 := H1.out.frozen 0
        have f1 := H1.out.frozen 1
        clear hsn hle2 hO hx hc hb h0 h1 hX0 hX1
        go_wp2_with (first | (go_at_call 130; refine (HC.out _).mono ?_; rintro e v2 ⟨rfl, hb2⟩; have r20 := (H1.out.call hb2).cellv (i := 0) (v := .int .u64 ((hiQ O : Nat) : Int)) rfl; have r21 := (H1.out.call hb2).cellv (i := 1) (v := .int .u64 ((loQ O : Nat) : Int)) rfl; have f20 := (H1.out.call hb2).frozen 0; have f21 := (H1.out.call hb2).frozen 1))
        go_roundw
        case rel =>
          refine ⟨k + 1, sumRow (O + X), by omega, by go_num, HN.out, ((H0.out.call hb2).far (by simp) _).far (by simp) _, ((H1.out.call hb2).set_ 0 _).set_ 1 _, ((HBel.out.trans (hb2.mono HBel.out.size)).setCell (by simp) _).setCell (by simp) _⟩
        case measure => simp [intOf]; omega
      · have d : decide (0 < x) = false := by simpa using hpos
        have HN := Lib.hid (show O = totq (l.take (k + 1)) by rw [hsn, show x.toNat = 0 by omega, Nat.add_zero])
        clear hsn hle2 hO hx hc hb h0 h1
        go_wp2
        go_roundw
        case rel => exact ⟨k + 1, O, by omega, by go_num, HN.out, H0.out, H1.out, HBel.out⟩
        case measure => simp [intOf]; omega
    · obtain rfl : k = len := by omega
      obtain rfl : O = totq l := by rw [hO, List.take_of_length_le (by have := HL.out; omega)]
      clear hO h0 h1
      have r0 := H1.out.cellv (i := 0) (v := .int .u64 ((hiQ (totq l) : Nat) : Int)) rfl
      have r1 := H1.out.cellv (i := 1) (v := .int .u64 ((loQ (totq l) : Nat) : Int)) rfl
      have s2 := H0.out.cellv (i := 0) (v := .int .u64 0) rfl
      have s3 := H0.out.cellv (i := 1) (v := .int .u64 0) rfl
      have f2 := H0.out.frozen 0
      have f3 := H0.out.frozen 1
      go_wp2
      refine bodyPost_ret (results_row rfl _ _ w.heap.size _ _ _ rfl ((H0.out.set_ 0 _).set_ 1 _) Tryz.underlying142 rfl (by kernel_rfl)) rfl ⟨rfl, (HBel.out.setCell (by simp <;> omega) _).setCell (by simp <;> omega) _⟩
theorem wide_DivN (N d : Nat) (w : World) (hN : N < 2 ^ 128) (hd : d < 2 ^ 64) (hd1 : 1 ≤ d) :
    Calls Tryz.prog 104 #[.agg #[.int .u64 ((hiQ N : Nat) : Int), .int .u64 ((loQ N : Nat) : Int)], .int .u64 d] w fun e w' =>
      e = .returned (.tuple #[.agg #[.int .u64 ((hiQ (N / d) : Nat) : Int), .int .u64 ((loQ (N / d) : Nat) : Int)], .int .u64 ((N % d : Nat) : Int), .bool true]) ∧ Below w.heap.size w w' := by
  have := wide_Div (hiQ N) (loQ N) d w (hiQ_lt hN) (loQ_lt N) hd hd1
  rw [two_eq] at this
  exact this
theorem wide_SmallN (N : Nat) (w : World) (hN : N < 2 ^ 128) :
    Calls Tryz.prog 106 #[.agg #[.int .u64 ((hiQ N : Nat) : Int), .int .u64 ((loQ N : Nat) : Int)]] w fun e w' => e = .returned (.int .i64 ((smallQ N : Nat) : Int)) ∧ Below w.heap.size w w' := by
  have := wide_Small (hiQ N) (loQ N) w (hiQ_lt hN) (loQ_lt N)
  rw [two_eq] at this
  exact this
theorem wide_Add1 (N : Nat) (w : World) (hN : N < 2 ^ 127) :
    Calls Tryz.prog 130 #[.agg #[.int .u64 ((hiQ N : Nat) : Int), .int .u64 ((loQ N : Nat) : Int)], .agg #[.int .u64 0, .int .u64 1]] w fun e w' =>
      e = .returned (.tuple #[.agg #[.int .u64 ((hiQ (N + 1) : Nat) : Int), .int .u64 ((loQ (N + 1) : Nat) : Int)], .bool true]) ∧ Below w.heap.size w w' := by
  have := wide_AddN N 1 w (by omega) (by omega)
  rw [show sumRow (N + 1) = N + 1 from if_pos (by omega), show sumFits (N + 1) = true from decide_eq_true (by omega)] at this
  exact this
theorem upq_zero {n d : Nat} (hd : 0 < d) (h : n % d = 0) : upq n d = n / d := by
  refine ((upq_spec hd).1 ⟨?_, ?_⟩).symm
  · have := Nat.div_add_mod n d; rw [Nat.mul_comm]; omega
  · rcases Nat.eq_zero_or_pos (n / d) with h0 | h0
    · exact .inl h0
    · right
      have := Nat.div_add_mod n d
      obtain ⟨m, hm⟩ : ∃ m, n / d = m + 1 := ⟨n / d - 1, by omega⟩
      rw [hm] at this ⊢
      rw [Nat.add_sub_cancel, Nat.mul_comm]
      rw [Nat.mul_add] at this
      omega
theorem upq_pos {n d : Nat} (hd : 0 < d) (h : 0 < n % d) : upq n d = n / d + 1 := by
  refine ((upq_spec hd).1 ⟨?_, .inr ?_⟩).symm
  · have := Nat.div_add_mod n d; have := Nat.mod_lt n hd; rw [Nat.mul_comm, Nat.mul_add]; omega
  · have := Nat.div_add_mod n d; rw [Nat.add_sub_cancel, Nat.mul_comm]; omega
def scaleq (a b c : Int) : Int := if a < 0 ∨ b < 0 ∨ c < 1 then 0 else (smallQ (upq (a.toNat * b.toNat) c.toNat) : Nat)
def meanq (l : List Int) : Int := if l.length = 0 then 0 else (smallQ (upq (totq l) l.length) : Nat)
theorem mul_lt126 {a b : Nat} (ha : a < 9223372036854775808) (hb : b < 9223372036854775808) : a * b < 2 ^ 126 := by
  have := Nat.mul_le_mul (show a ≤ 9223372036854775807 by omega) (show b ≤ 9223372036854775807 by omega)
  omega
set_option maxRecDepth 100000 in
theorem wide_Mean (A : Option Addr) (len cap : Nat) (l : List Int) (w : World) (hs : IntsAre w A len cap l) (hg : ∀ x ∈ l, I64 x) (hn : len ≤ 1000000) :
    Calls Tryz.prog 129 #[.slice A len cap] w fun e w' => e = .returned (.int .i64 (meanq l)) ∧ Below w.heap.size w w' := by
  have hl := hs.1
  by_cases h1 : len = 0
  · have HQ := Lib.hid (show meanq l = 0 from if_pos (by omega))
    have h0 : ((len : Int) == 0) = true := by simp; omega
    clear hs hl h1
    go_enter Tryz.func129, Tryz.ntmps129
    go_wp2
    go_ret
    exact ⟨ret_int HQ.out.symm, by go_grown⟩
  have HQ := Lib.hid (show meanq l = (smallQ (upq (totq l) len) : Nat) by unfold meanq; rw [if_neg (by omega), hl])
  have h0 : ((len : Int) == 0) = false := by simp; omega
  have hle := totq_lt l hg
  have hle2 : totq l ≤ 1000000 * 9223372036854775807 := Nat.le_trans hle (Nat.mul_le_mul_right _ (by omega))
  have HXY := Lib.hid (show totq l < 2 ^ 128 by omega)
  have HQL := Lib.hid (show totq l / len < 2 ^ 126 by exact Nat.lt_of_le_of_lt (Nat.div_le_self _ _) (by omega))
  have HTot := Lib.hid (fun W h => wide_Total A len cap l W h hg hn)
  have HS := Lib.hid hs
  have d0 : 1 ≤ len := by omega
  have HD := Lib.hid (show len < 2 ^ 64 by omega)
  clear hs hl hle hle2 hg h1
  generalize totq l = N at *
  obtain ⟨d, rfl⟩ : ∃ d, d = len := ⟨_, rfl⟩
  by_cases hr : 0 < N % d
  · have HU := Lib.hid (upq_pos (n := N) d0 hr)
    go_enter Tryz.func129, Tryz.ntmps129
    go_wp2_with (first | (go_at_call 137; refine (HTot.out _ HS.out).mono ?_; rintro e v1 ⟨rfl, hb1⟩) | (go_at_call 104; refine (wide_DivN N d _ HXY.out HD.out d0).mono ?_; rintro e v2 ⟨rfl, hb2⟩) | (go_at_call 130; refine (wide_Add1 _ _ (by have := HQL.out; omega)).mono ?_; rintro e v3 ⟨rfl, hb3⟩; obtain ⟨hc3, hf3⟩ := bcell hb3; have hs3 := hb3.size; simp only [World.size_alloc] at hs3) | (go_at_call 106; refine (wide_SmallN _ _ (by have := HQL.out; omega)).mono ?_; rintro e v4 ⟨rfl, hb4⟩))
    go_ret
    refine ⟨ret_int (by rw [HQ.out, HU.out]), ?_⟩
    have e2 := hb1.trans (hb2.mono hb1.size)
    have e3 := (e2.alloc e2.size (.cells #[.int .u64 ((hiQ (N / d) : Nat) : Int), .int .u64 ((loQ (N / d) : Nat) : Int)] 142)).trans (hb3.mono (by have := e2.size; simp; omega))
    have e4 := (e3.setCell (p := ⟨v2.heap.size, 0, none⟩) e2.size (.int .u64 ((hiQ (N / d + 1) : Nat) : Int))).setCell (p := ⟨v2.heap.size, 1, none⟩) e2.size (.int .u64 ((loQ (N / d + 1) : Nat) : Int))
    exact e4.trans (hb4.mono e4.size)
  · have h0 : N % d = 0 := by omega
    have HU := Lib.hid (upq_zero (n := N) d0 h0)
    have hr' : decide (0 < N % d) = false := by simpa using hr
    clear hr
    go_enter Tryz.func129, Tryz.ntmps129
    go_wp2_with (first | (go_at_call 137; refine (HTot.out _ HS.out).mono ?_; rintro e v1 ⟨rfl, hb1⟩) | (go_at_call 104; refine (wide_DivN N d _ HXY.out HD.out d0).mono ?_; rintro e v2 ⟨rfl, hb2⟩) | (go_at_call 130; refine (wide_Add1 _ _ (by have := HQL.out; omega)).mono ?_; rintro e v3 ⟨rfl, hb3⟩; obtain ⟨hc3, hf3⟩ := bcell hb3; have hs3 := hb3.size; simp only [World.size_alloc] at hs3) | (go_at_call 106; refine (wide_SmallN _ _ (by have := HQL.out; omega)).mono ?_; rintro e v4 ⟨rfl, hb4⟩))
    go_ret
    refine ⟨ret_int (by rw [HQ.out, HU.out]), ?_⟩
    have e2 := hb1.trans (hb2.mono hb1.size)
    have e4 := e2.alloc e2.size (.cells #[.int .u64 ((hiQ (N / d) : Nat) : Int), .int .u64 ((loQ (N / d) : Nat) : Int)] 142)
    exact e4.trans (hb4.mono e4.size)
end Go.Proofs.YtjodpffdlggjgaaGreat
/- slices.Min, slices.Max, window.Of, window.From, window.At. -/
namespace Go.Proofs.YtjodpffdlggjgaaGreat
open Go.RowKit
set_option linter.unusedSimpArgs false
set_option linter.unusedVariables false
set_option maxHeartbeats 2000000
set_option maxRecDepth 100000

def minq : List Int → Int
  | [] => 0
  | a :: l => l.foldl min a
def maxq : List Int → Int
  | [] => 0
  | a :: l => l.foldl max a
theorem minq_snoc (a : Int) (l : List Int) (x : Int) : minq (a :: l ++ [x]) = min (minq (a :: l)) x := by simp [minq]
theorem maxq_snoc (a : Int) (l : List Int) (x : Int) : maxq (a :: l ++ [x]) = max (maxq (a :: l)) x := by simp [maxq]
theorem minq_next {l : List Int} {k : Nat} {x : Int} (h : l[k]? = some x) (hk : 1 ≤ k) : minq (l.take (k + 1)) = min (minq (l.take k)) x := by
  rw [take_next h]
  obtain ⟨j, rfl⟩ : ∃ j, k = j + 1 := ⟨k - 1, by omega⟩
  cases l with
  | nil => simp at h
  | cons a l => exact minq_snoc a (l.take j) x
theorem maxq_next {l : List Int} {k : Nat} {x : Int} (h : l[k]? = some x) (hk : 1 ≤ k) : maxq (l.take (k + 1)) = max (maxq (l.take k)) x := by
  rw [take_next h]
  obtain ⟨j, rfl⟩ : ∃ j, k = j + 1 := ⟨k - 1, by omega⟩
  cases l with
  | nil => simp at h
  | cons a l => exact maxq_snoc a (l.take j) x
theorem minq_one {l : List Int} {x : Int} (h : l[0]? = some x) : minq (l.take 1) = x := by
  cases l with
  | nil => simp at h
  | cons a l => simp at h; subst h; rfl
theorem maxq_one {l : List Int} {x : Int} (h : l[0]? = some x) : maxq (l.take 1) = x := by
  cases l with
  | nil => simp at h
  | cons a l => simp at h; subst h; rfl
theorem slices_Min (A : Option Addr) (len cap : Nat) (l : List Int) (w : World) (hs : IntsAre w A len cap l) (h1 : 1 ≤ len) (hn : len ≤ 1000) :
    Calls Tryz.prog 127 #[.slice A len cap] w fun e w' => e = .returned (.int .i64 (minq l)) ∧ w = w' := by
  have HS := Lib.hid hs
  have HL := Lib.hid hs.1
  have m1 : len ≤ 9223372036854775806 := by omega
  obtain ⟨b, off, x0, rfl, hx0, hb0, hc0⟩ := IntsAre.at_ hs (show 0 < len by omega)
  have HX0 := Lib.hid (minq_one hx0)
  rw [Nat.add_zero] at hc0
  clear hs hx0
  go_enter Tryz.func127, Tryz.ntmps127
  go_wp2
  clear hc0
  go_loop [3, 4] (fun m i => ∃ k : Nat, 1 ≤ k ∧ k ≤ len ∧ i = .int .i64 k ∧ m = .int .i64 (minq (l.take k))) (fun _ i => len - (intOf i).toNat)
  case atStart => exact ⟨1, by omega, by omega, rfl, by rw [HX0.out]⟩
  case round =>
    obtain ⟨k, hk1, hk, rfl, rfl⟩ := hrel
    by_cases hlt : k < len
    · obtain ⟨b', off', x, hab, hx, hb, hc⟩ := IntsAre.at_ HS.out hlt
      cases hab
      have HN := Lib.hid (minq_next hx hk1)
      have hki : (k : Int) < (len : Int) := by omega
      clear hx
      generalize minq (l.take k) = m at *
      by_cases hlo : x < m
      · have E := Lib.hid (show min m x = x by omega)
        go_wp2
        go_round
        case rel => exact ⟨k + 1, by omega, by omega, by go_num, by rw [HN.out, E.out]⟩
        case measure => simp [intOf]; omega
      · have E := Lib.hid (show min m x = m by omega)
        go_wp2
        go_round
        case rel => exact ⟨k + 1, by omega, by omega, by go_num, by rw [HN.out, E.out]⟩
        case measure => simp [intOf]; omega
    · have hE : l.take k = l := List.take_of_length_le (by have := HL.out; omega)
      rw [hE]
      clear hE
      go_wp2
      go_ret
      exact ⟨rfl, rfl⟩
theorem slices_Max (A : Option Addr) (len cap : Nat) (l : List Int) (w : World) (hs : IntsAre w A len cap l) (h1 : 1 ≤ len) (hn : len ≤ 1000) :
    Calls Tryz.prog 128 #[.slice A len cap] w fun e w' => e = .returned (.int .i64 (maxq l)) ∧ w = w' := by
  have HS := Lib.hid hs
  have HL := Lib.hid hs.1
  have m1 : len ≤ 9223372036854775806 := by omega
  obtain ⟨b, off, x0, rfl, hx0, hb0, hc0⟩ := IntsAre.at_ hs (show 0 < len by omega)
  have HX0 := Lib.hid (maxq_one hx0)
  rw [Nat.add_zero] at hc0
  clear hs hx0
  go_enter Tryz.func128, Tryz.ntmps128
  go_wp2
  clear hc0
  go_loop [3, 4] (fun m i => ∃ k : Nat, 1 ≤ k ∧ k ≤ len ∧ i = .int .i64 k ∧ m = .int .i64 (maxq (l.take k))) (fun _ i => len - (intOf i).toNat)
  case atStart => exact ⟨1, by omega, by omega, rfl, by rw [HX0.out]⟩
  case round =>
    obtain ⟨k, hk1, hk, rfl, rfl⟩ := hrel
    by_cases hlt : k < len
    · obtain ⟨b', off', x, hab, hx, hb, hc⟩ := IntsAre.at_ HS.out hlt
      cases hab
      have HN := Lib.hid (maxq_next hx hk1)
      have hki : (k : Int) < (len : Int) := by omega
      clear hx
      generalize maxq (l.take k) = m at *
      by_cases hlo : m < x
      · have E := Lib.hid (show max m x = x by omega)
        go_wp2
        go_round
        case rel => exact ⟨k + 1, by omega, by omega, by go_num, by rw [HN.out, E.out]⟩
        case measure => simp [intOf]; omega
      · have E := Lib.hid (show max m x = m by omega)
        go_wp2
        go_round
        case rel => exact ⟨k + 1, by omega, by omega, by go_num, by rw [HN.out, E.out]⟩
        case measure => simp [intOf]; omega
    · have hE : l.take k = l := List.take_of_length_le (by have := HL.out; omega)
      rw [hE]
      clear hE
      go_wp2
      go_ret
      exact ⟨rfl, rfl⟩
structure Stat where
  count : Int
  sum : Int
  least : Int
  most : Int
  mean : Int
deriving DecidableEq
abbrev Stat.row (s : Stat) : Array Value := #[.int .i64 s.count, .int .i64 s.sum, .int .i64 s.least, .int .i64 s.most, .int .i64 s.mean]
def statq (l : List Smp) : Stat := if l.length = 0 then ⟨0, 0, 0, 0, 0⟩ else ⟨l.length, sumq (valq l), minq (valq l), maxq (valq l), meanq (valq l)⟩
theorem window_Of (A : Option Addr) (len cap : Nat) (l : List Smp) (w : World) (hs : SmpsAre w A len cap l) (hg : ∀ x ∈ l, x.good) (hn : len ≤ 200) :
    Calls Tryz.prog 111 #[.slice A len cap] w fun e w' => e = .returned (.agg (statq l).row) ∧ Below w.heap.size w w' := by
  have HS := Lib.hid hs
  have HL := Lib.hid hs.1
  have HV := Lib.hid (valq_bd hg)
  clear hs hg
  have E0 := Lib.hid (show Below w.heap.size w (w.alloc (.cells #[.int .i64 0, .int .i64 0, .int .i64 0, .int .i64 0, .int .i64 0] 132)) by go_grown)
  go_enter Tryz.func111, Tryz.ntmps111
  go_wp2_with fail
  refine (window_Values A len cap l _ (slice_keep HS.out E0.out) (by omega)).mono ?_
  rintro e w1 ⟨v, rfl, ho, hb1⟩
  obtain ⟨A', n', c', rfl, hn', hsl⟩ := ho.shape (fun _ => rfl)
  obtain rfl : n' = len := by rw [hn', valq_len]; exact HL.out
  have BR := Lib.hid ((Blk.new w 132 #[.int .i64 0, .int .i64 0, .int .i64 0, .int .i64 0, .int .i64 0]).call hb1)
  have E1 := Lib.hid (E0.out.trans (hb1.mono E0.out.size))
  have SL := Lib.hid hsl
  clear hn' ho hsl hb1 E0
  by_cases h0 : n' = 0
  · have HQ := Lib.hid (show statq l = ⟨0, 0, 0, 0, 0⟩ by unfold statq; rw [if_pos (by rw [HL.out]; exact h0)])
    have d0 : ((n' : Int) == 0) = true := by simp; omega
    clear h0
    go_wp2_with (refine wpList_store_row rfl 132 (.tmp 2) (.tmp 9) rfl w.heap.size _ _ _ rfl rfl BR.out (by rfl) (by kernel_rfl) (by simp [Value.oneCell']) ?_; intro w9 hb9 hg9)
    refine bodyPost_ret (results_row rfl _ _ w.heap.size _ _ _ rfl hb9 Tryz.underlying132 rfl (by kernel_rfl)) rfl ⟨by rw [HQ.out], E1.out.trans (Only.below hg9 (Nat.le_refl _) E1.out.size)⟩
  · have HQ := Lib.hid (show statq l = ⟨n', sumq (valq l), minq (valq l), maxq (valq l), meanq (valq l)⟩ by unfold statq; rw [if_neg (by rw [HL.out]; exact h0), HL.out])
    have d0 : ((n' : Int) == 0) = false := by simp; omega
    have h1 : 1 ≤ n' := by omega
    have HG := Lib.hid (fun x hx => (show I64 x by have := HV.out x hx; unfold I64; omega) : ∀ x ∈ valq l, I64 x)
    clear h0
    go_wp2_with fail
    refine (sat_Sum _ _ _ _ _ SL.out HG.out (by omega)).mono ?_
    rintro e w2 ⟨rfl, rfl⟩
    go_wp2_with fail
    refine (slices_Min _ _ _ _ _ SL.out h1 (by omega)).mono ?_
    rintro e w2 ⟨rfl, rfl⟩
    go_wp2_with fail
    refine (slices_Max _ _ _ _ _ SL.out h1 (by omega)).mono ?_
    rintro e w2 ⟨rfl, rfl⟩
    go_wp2_with fail
    refine (wide_Mean _ _ _ _ _ SL.out HG.out (by omega)).mono ?_
    rintro e w2 ⟨rfl, hb2⟩
    go_wp2_with (refine wpList_store_row rfl 132 (.tmp 2) (.tmp 20) rfl w.heap.size _ _ _ rfl rfl (BR.out.call hb2) (by rfl) (by kernel_rfl) (by simp [Value.oneCell']) ?_; intro w9 hb9 hg9)
    have E2 := E1.out.trans (hb2.mono E1.out.size)
    refine bodyPost_ret (results_row rfl _ _ w.heap.size _ _ _ rfl hb9 Tryz.underlying132 rfl (by kernel_rfl)) rfl ⟨by rw [HQ.out], E2.trans (Only.below hg9 (Nat.le_refl _) E2.size)⟩
def fromq (to width : Int) : Int := satq (satq (to - width) + 1)
theorem fromq_I64 (to width : Int) : I64 (fromq to width) := satq_I64 _
theorem window_From (to width : Int) (w : World) (h1 : I64 to) (h2 : I64 width) :
    Calls Tryz.prog 113 #[.int .i64 to, .int .i64 width] w fun e w' => e = .returned (.int .i64 (fromq to width)) ∧ w = w' := by
  go_enter Tryz.func113, Tryz.ntmps113
  go_wp2_with (first | (go_at_call 55; refine (sat_Sub _ _ _ h1 h2).mono ?_; rintro e w1 ⟨rfl, rfl⟩) | (go_at_call 47; refine (sat_Add _ _ _ (satq_I64 _) (by unfold I64; omega)).mono ?_; rintro e w1 ⟨rfl, rfl⟩))
  go_ret
  exact ⟨rfl, rfl⟩
theorem ref09_From (to width : Int) (w : World) (h1 : I64 to) (h2 : I64 width) :
    Calls Tryz.prog 66 #[.int .i64 to, .int .i64 width] w fun e w' => e = .returned (.int .i64 (fromq to width)) ∧ w = w' := by
  go_enter Tryz.func66, Tryz.ntmps66
  go_wp2_with (first | (go_at_call 33; refine (ref_Sub _ _ _ h1 h2).mono ?_; rintro e w1 ⟨rfl, rfl⟩) | (go_at_call 35; refine (ref_Add _ _ _ (satq_I64 _) (by unfold I64; omega)).mono ?_; rintro e w1 ⟨rfl, rfl⟩))
  go_ret
  exact ⟨rfl, rfl⟩
theorem cutq_good {l : List Smp} (hg : ∀ x ∈ l, x.good) (f t : Int) : ∀ x ∈ cutq l f t, x.good := fun x hx => hg x ((List.mem_filter.1 hx).1)
theorem window_At (A : Option Addr) (len cap : Nat) (l : List Smp) (to width : Int) (w : World) (hs : SmpsAre w A len cap l) (hg : ∀ x ∈ l, x.good) (hn : len ≤ 200) (h1 : I64 to) (h2 : I64 width) :
    Calls Tryz.prog 88 #[.slice A len cap, .int .i64 to, .int .i64 width] w fun e w' => e = .returned (.agg (statq (cutq l (fromq to width) to)).row) ∧ Below w.heap.size w w' := by
  have HS := Lib.hid hs
  have HL := Lib.hid hs.1
  have HG := Lib.hid hg
  clear hs hg
  have E0 := Lib.hid (show Below w.heap.size w (w.alloc (.cells #[.int .i64 0, .int .i64 0, .int .i64 0, .int .i64 0, .int .i64 0] 132)) by go_grown)
  go_enter Tryz.func88, Tryz.ntmps88
  go_wp2_with fail
  refine (window_From to width _ h1 h2).mono ?_
  rintro e w1 ⟨rfl, rfl⟩
  go_wp2_with fail
  refine (window_Cut A len cap l _ to _ (slice_keep HS.out E0.out) (by omega)).mono ?_
  rintro e w1 ⟨v, rfl, ho, hb1⟩
  obtain ⟨A', n', c', rfl, hn', hsl⟩ := ho.shape (fun _ => rfl)
  have hn2 : n' ≤ 200 := by have := cutq_len l (fromq to width) to; have := HL.out; omega
  have BR := Lib.hid ((Blk.new w 132 #[.int .i64 0, .int .i64 0, .int .i64 0, .int .i64 0, .int .i64 0]).call hb1)
  have E1 := Lib.hid (E0.out.trans (hb1.mono E0.out.size))
  have SL := Lib.hid hsl
  clear hn' ho hsl hb1 E0
  go_wp2_with fail
  refine (window_Of A' n' c' _ _ SL.out (cutq_good HG.out _ _) hn2).mono ?_
  rintro e w2 ⟨rfl, hb2⟩
  have E2 := E1.out.trans (hb2.mono E1.out.size)
  go_wp2_with (refine wpList_store_row rfl 132 (.tmp 6) (.tmp 13) rfl w.heap.size _ _ _ rfl rfl (BR.out.call hb2) (by rfl) (by kernel_rfl) (by simp [Value.oneCell']) ?_; intro w9 hb9 hg9)
  refine bodyPost_ret (results_row rfl _ _ w.heap.size _ _ _ rfl hb9 Tryz.underlying132 rfl (by kernel_rfl)) rfl ⟨rfl, E2.trans (Only.below hg9 (Nat.le_refl _) E2.size)⟩
end Go.Proofs.YtjodpffdlggjgaaGreat
/- Package control, the rest: near or not, what is decided, the ends. -/
namespace Go.Proofs.YtjodpffdlggjgaaGreat
open Go.RowKit
set_option linter.unusedSimpArgs false
set_option linter.unusedVariables false
set_option maxHeartbeats 400000

theorem control_Near (p : Pol) (load now : Int) (w : World) (hp : p.fit) (hn : I64 load) :
    Calls Tryz.prog 91 #[(.agg #[.int .i64 p.min, .int .i64 p.max, .int .i64 p.target, .int .i64 p.tol, .int .i64 p.window, .int .i64 p.hold]), .int .i64 load, .int .i64 now] w fun e w' => e = .returned (.bool (nearq p load now)) ∧ Below w.heap.size w w' := by
  by_cases hk : p.okP
  · by_cases h1 : now < 1
    · have e0 := polErr_ok hk
      have hfin : nearq p load now = false := if_neg (by omega)
      have HF := Lib.hid hfin
      clear hk hfin
      go_enter Tryz.func91, Tryz.ntmps91
      go_wp2_with (first | (go_at_call 29; refine (policy_Check p _).mono ?_; rintro e v1 ⟨rfl, hb1⟩; obtain ⟨hc1, hf1⟩ := bcell hb1; have hB1 : Below w.heap.size w v1 := Below.trans (by go_grown) (hb1.mono (by first | omega | (simp; done) | (simp; omega))); have hz1 : w.heap.size < v1.heap.size := (by have := hb1.size; first | omega | (simp at this; omega)); have hs1 := hb1.size; (try simp only [World.size_alloc, World.size_setCell, World.size_drew] at hs1); clear hb1))
      go_ret
      exact ⟨ret_bool HF.out.symm, by go_grown⟩
    · by_cases h2 : 1073741824 < now
      · have e0 := polErr_ok hk
        have hfin : nearq p load now = false := if_neg (by omega)
        have HF := Lib.hid hfin
        clear hk hfin
        go_enter Tryz.func91, Tryz.ntmps91
        go_wp2_with (first | (go_at_call 29; refine (policy_Check p _).mono ?_; rintro e v2 ⟨rfl, hb2⟩; obtain ⟨hc2, hf2⟩ := bcell hb2; have hB2 : Below w.heap.size w v2 := Below.trans (by go_grown) (hb2.mono (by first | omega | (simp; done) | (simp; omega))); have hz2 : w.heap.size < v2.heap.size := (by have := hb2.size; first | omega | (simp at this; omega)); have hs2 := hb2.size; (try simp only [World.size_alloc, World.size_setCell, World.size_drew] at hs2); clear hb2))
        go_ret
        exact ⟨ret_bool HF.out.symm, by go_grown⟩
      · exact control_Near_ok p load now (loadq load) w hp hn hk (by omega) (by omega) (by unfold loadq; omega)
  · have e0 := polErr_no hk
    have hfin : nearq p load now = false := if_neg (fun h => hk h.1)
    have HF := Lib.hid hfin
    clear hk hfin
    go_enter Tryz.func91, Tryz.ntmps91
    go_wp2_with (first | (go_at_call 29; refine (policy_Check p _).mono ?_; rintro e v3 ⟨rfl, hb3⟩; obtain ⟨hc3, hf3⟩ := bcell hb3; have hB3 : Below w.heap.size w v3 := Below.trans (by go_grown) (hb3.mono (by first | omega | (simp; done) | (simp; omega))); have hz3 : w.heap.size < v3.heap.size := (by have := hb3.size; first | omega | (simp at this; omega)); have hs3 := hb3.size; (try simp only [World.size_alloc, World.size_setCell, World.size_drew] at hs3); clear hb3))
    go_ret
    exact ⟨ret_bool HF.out.symm, by go_grown⟩
def rawq (p : Pol) (load now : Int) : Int := if nearq p load now then boundq p now else boundq p (wantq p load)
theorem wantq_I64 (p : Pol) (n : Int) (hp : p.fit) (hn : I64 n) : I64 (wantq p n) := by
  unfold wantq
  split
  · have hl := loadq_bd hn
    unfold ceilq
    split
    · unfold I64; omega
    · rename_i h1 h2
      have := fl_neg (loadq n) p.target (by omega)
      have b := fl_bd (loadq n) p.target (by omega)
      have c := b.2.1 (by omega)
      rw [this]
      unfold I64
      by_cases h0 : p.target = 1
      · rw [h0, Int.emod_one, if_pos rfl, Int.ediv_one]; omega
      · have : loadq n / p.target ≤ 4611686018427387903 := by
          have e := (Int.ediv_lt_iff_lt_mul (a := loadq n) (b := 4611686018427387904) (c := p.target) (by omega)).2 (by omega)
          omega
        split <;> omega
  · unfold I64; omega
theorem control_Raw (p : Pol) (load now : Int) (w : World) (hp : p.fit) (hn : I64 load) :
    Calls Tryz.prog 92 #[(.agg #[.int .i64 p.min, .int .i64 p.max, .int .i64 p.target, .int .i64 p.tol, .int .i64 p.window, .int .i64 p.hold]), .int .i64 load, .int .i64 now] w fun e w' => e = .returned (.int .i64 (rawq p load now)) ∧ Below w.heap.size w w' := by
  cases h : nearq p load now
  · have HF := Lib.hid (show rawq p load now = boundq p (wantq p load) by unfold rawq; rw [h]; rfl)
    go_enter Tryz.func92, Tryz.ntmps92
    go_wp2_with (first | (go_at_call 91; refine (control_Near p load now _ hp hn).mono ?_; rintro e va ⟨rfl, hba⟩; obtain ⟨hca, hfa⟩ := bcell hba; have hBa : Below w.heap.size w va := Below.trans (by go_grown) (hba.mono (by first | omega | (simp; done) | (simp; omega))); have hza : w.heap.size < va.heap.size := (by have := hba.size; first | omega | (simp at this; omega)); have hsa := hba.size; (try simp only [World.size_alloc, World.size_setCell, World.size_drew] at hsa); clear hba))
    have HS : va.cell? ⟨w.heap.size, 0, none⟩ = some (.int .i64 p.min) ∧ va.cell? ⟨w.heap.size, 1, none⟩ = some (.int .i64 p.max) ∧ va.cell? ⟨w.heap.size, 2, none⟩ = some (.int .i64 p.target) ∧ va.cell? ⟨w.heap.size, 3, none⟩ = some (.int .i64 p.tol) ∧ va.cell? ⟨w.heap.size, 4, none⟩ = some (.int .i64 p.window) ∧ va.cell? ⟨w.heap.size, 5, none⟩ = some (.int .i64 p.hold) ∧ w.heap.size < va.heap.size ∧ Below w.heap.size w va := (by refine ⟨?_, ?_, ?_, ?_, ?_, ?_, ?_, ?_⟩ <;> first | assumption | go_simp)
    clear hca hfa hBa hza hsa
    go_region_held3 (fun w' => w'.cell? ⟨w.heap.size, 0, none⟩ = some (.int .i64 p.min) ∧ w'.cell? ⟨w.heap.size, 1, none⟩ = some (.int .i64 p.max) ∧ w'.cell? ⟨w.heap.size, 2, none⟩ = some (.int .i64 p.target) ∧ w'.cell? ⟨w.heap.size, 3, none⟩ = some (.int .i64 p.tol) ∧ w'.cell? ⟨w.heap.size, 4, none⟩ = some (.int .i64 p.window) ∧ w'.cell? ⟨w.heap.size, 5, none⟩ = some (.int .i64 p.hold) ∧ w.heap.size < w'.heap.size ∧ Below w.heap.size w w') (first | (go_split_ands; refine held6 (by assumption) ?_ ?_ ?_ ?_ ?_ ?_ ?_ ?_ <;> assumption) | exact held6_drew HS | (go_split_ands; refine ⟨?_, ?_, ?_, ?_, ?_, ?_, ?_, ?_⟩ <;> assumption))
      (first
        | (go_at_call 90; refine (control_Want p load _ hp hn).mono ?_; rintro e w1 ⟨rfl, hb⟩)
        | (go_at_call 43; refine (control_Bound p _ _).mono ?_; rintro e w1 ⟨rfl, hb⟩))
    have hz := held6_out (by assumption)
    go_wp2
    go_ret
    exact ⟨ret_int HF.out.symm, hz⟩
  · have HF := Lib.hid (show rawq p load now = boundq p now by unfold rawq; rw [h]; rfl)
    go_enter Tryz.func92, Tryz.ntmps92
    go_wp2_with (first | (go_at_call 91; refine (control_Near p load now _ hp hn).mono ?_; rintro e v4 ⟨rfl, hb4⟩; obtain ⟨hc4, hf4⟩ := bcell hb4; have hB4 : Below w.heap.size w v4 := Below.trans (by go_grown) (hb4.mono (by first | omega | (simp; done) | (simp; omega))); have hz4 : w.heap.size < v4.heap.size := (by have := hb4.size; first | omega | (simp at this; omega)); have hs4 := hb4.size; (try simp only [World.size_alloc, World.size_setCell, World.size_drew] at hs4); clear hb4) | (go_at_call 43; refine (control_Bound p _ _).mono ?_; rintro e v5 ⟨rfl, hb5⟩; obtain ⟨hc5, hf5⟩ := bcell hb5; have hB5 : Below w.heap.size w v5 := Below.trans (by go_grown) (hb5.mono (by first | omega | (simp; done) | (simp; omega))); have hz5 : w.heap.size < v5.heap.size := (by have := hb5.size; first | omega | (simp at this; omega)); have hs5 := hb5.size; (try simp only [World.size_alloc, World.size_setCell, World.size_drew] at hs5); clear hb5))
    go_ret
    exact ⟨ret_int HF.out.symm, by go_grown⟩
def lowq (p : Pol) (n : Int) : Int := if p.okP ∧ 1 ≤ n ∧ n ≤ 1073741824 then satq (satq ((n - 1) * p.target) + 1) else 0
def lowIs (p : Pol) (n : Int) : Bool := decide (p.okP ∧ 1 ≤ n ∧ n ≤ 1073741824)
def highq (p : Pol) (n : Int) : Int := if p.okP ∧ 0 ≤ n ∧ n ≤ 1073741824 then satq (n * p.target) else 0
def highIs (p : Pol) (n : Int) : Bool := decide (p.okP ∧ 0 ≤ n ∧ n ≤ 1073741824)
end Go.Proofs.YtjodpffdlggjgaaGreat
