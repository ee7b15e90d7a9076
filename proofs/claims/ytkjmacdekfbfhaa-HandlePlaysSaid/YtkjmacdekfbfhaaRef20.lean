/- The reference's handles: Live, Find; flywheelref07.Same. -/
import Derived.Test.YtkjmacdekfbfhaaOwn
import Derived.Test.YtkjmacdekfbfhaaBlk
import Derived.Test.YtkjmacdekfbfhaaSame
import Derived.BigQuiet
namespace Go.Proofs.Ytkjmacdekfbfhaa
open Go.RowKit
set_option linter.unusedSimpArgs false
set_option linter.unusedVariables false
set_option maxHeartbeats 4000000
set_option maxRecDepth 100000
def liveq (l : List Int) : Int := ((l.filter fun x => decide (0 ≤ x)).length : Nat)
theorem liveq_le (l : List Int) : 0 ≤ liveq l ∧ liveq l ≤ l.length := by unfold liveq; have := List.length_filter_le (fun x : Int => decide (0 ≤ x)) l; omega
theorem take_nxt {α : Type} {l : List α} {k : Nat} {x : α} (h : l[k]? = some x) : l.take (k + 1) = l.take k ++ [x] := by
  rw [List.take_add_one, h]; rfl
theorem liveq_yes {l : List Int} {k : Nat} {x : Int} (h : l[k]? = some x) (h1 : 0 ≤ x) : liveq (l.take (k + 1)) = liveq (l.take k) + 1 := by
  rw [take_nxt h]; unfold liveq; rw [List.filter_append]; simp [h1]
theorem liveq_no {l : List Int} {k : Nat} {x : Int} (h : l[k]? = some x) (h1 : ¬ 0 ≤ x) : liveq (l.take (k + 1)) = liveq (l.take k) := by
  rw [take_nxt h]; unfold liveq; rw [List.filter_append]; simp [h1]
abbrev boxT (A : Option Addr) (len cap : Nat) : Array Value := #[.slice A len cap]
theorem ref20_Live (A : Option Addr) (len cap : Nat) (l : List Int) (w : World) (hs : IntsAre w A len cap l) (hn : len ≤ 10000) :
    Calls Try.prog 51 #[.agg #[.slice A len cap]] w fun e w' => e = .returned (.int .i64 (liveq l)) ∧ Below w.heap.size w w' := by
  have HS := Lib.hid hs
  have HL := Lib.hid hs.1
  have hd : len < 9223372036854775808 := by omega
  have B0 := Blk.new w 86 (boxT A len cap)
  have c0 := B0.cellv (i := 0) (v := .slice A len cap) rfl
  have HB := Lib.hid ((Below.refl w.heap.size w).alloc (Nat.le_refl _) (.cells (boxT A len cap) 86))
  have HI := Lib.hid (fun (p : Addr) (h : p.block < w.heap.size) => Below.cell HB.out (p := p) h)
  clear hs B0
  go_enter Try.func51, Try.ntmps51
  go_wp2
  go_loopw [3, 4] (fun v i wr => ∃ k : Nat, k ≤ len ∧ i = .int .i64 k ∧ v = .int .i64 (liveq (l.take k)) ∧ wr = w.alloc (.cells (boxT A len cap) 86)) (fun _ i _ => len - (intOf i).toNat)
  case atStart => exact ⟨0, Nat.zero_le _, rfl, rfl, rfl⟩
  case round =>
    obtain ⟨k, hk, rfl, rfl, rfl⟩ := hrel
    by_cases hlt : k < len
    · obtain ⟨b, off, x, rfl, hx, hb, t0⟩ := HS.out.at_ hlt
      have kt0 := (HI.out ⟨b, off + k, none⟩ hb).trans t0
      have hki : (k : Int) < (len : Int) := by omega
      have hle := liveq_le (l.take k)
      have hlen : (l.take k).length ≤ k := by rw [List.length_take]; omega
      have HX := Lib.hid hx
      clear hx hb t0
      by_cases h1 : 0 ≤ x
      · have HN := Lib.hid (liveq_yes HX.out h1)
        have hd2 : IntKind.i64.wrap (liveq (l.take k) + 1) = liveq (l.take k) + 1 := by rw [IntKind.wrap_i64]; omega
        go_wp2
        go_roundw
        case rel => exact ⟨k + 1, by omega, by go_num, by rw [HN.out], by first | rfl | trivial⟩
        case measure => simp [intOf]; omega
      · have HN := Lib.hid (liveq_no HX.out h1)
        have d1 : decide (0 ≤ x) = false := by simpa using h1
        clear h1
        go_wp2
        go_roundw
        case rel => exact ⟨k + 1, by omega, by go_num, by rw [HN.out], by first | rfl | trivial⟩
        case measure => simp [intOf]; omega
    · have hE : l.take k = l := List.take_of_length_le (by have := HL.out; omega)
      rw [hE]
      go_wp2
      go_ret
      exact ⟨rfl, HB.out⟩
def findq (l : List Int) (n : Int) : Int := if n < 1 ∨ (l.length : Int) < n then 5 else if (l[(n - 1).toNat]?).getD 0 < 0 then 8 else 0
theorem ref20_Find (A : Option Addr) (len cap : Nat) (l : List Int) (n : Int) (w : World) (hs : IntsAre w A len cap l) (hn : len ≤ 10000) (hi : I64 n) :
    Calls Try.prog 49 #[.agg #[.slice A len cap], .int .i64 n] w fun e w' => e = .returned (.int .i64 (findq l n)) ∧ Below w.heap.size w w' := by
  have HS := Lib.hid hs
  have hll := hs.1
  have B0 := Blk.new w 86 (boxT A len cap)
  have c0 := B0.cellv (i := 0) (v := .slice A len cap) rfl
  have HB := Lib.hid ((Below.refl w.heap.size w).alloc (Nat.le_refl _) (.cells (boxT A len cap) 86))
  clear hs B0
  by_cases h1 : n < 1
  · have HE := Lib.hid (show findq l n = 5 from if_pos (.inl h1))
    have d1 : decide (n < 1) = true := by simpa using h1
    clear h1 hll
    go_enter Try.func49, Try.ntmps49
    go_wp2
    go_ret
    exact ⟨ret_int HE.out.symm, HB.out⟩
  have d1 : decide (n < 1) = false := by simpa using h1
  by_cases h2 : (len : Int) < n
  · have HE := Lib.hid (show findq l n = 5 from if_pos (.inr (by omega)))
    have d2 : decide ((len : Int) < n) = true := by simpa using h2
    clear h1 h2 hll
    go_enter Try.func49, Try.ntmps49
    go_wp2
    go_ret
    exact ⟨ret_int HE.out.symm, HB.out⟩
  have d2 : decide ((len : Int) < n) = false := by simpa using h2
  obtain ⟨k, rfl⟩ : ∃ k : Nat, n = (k : Int) + 1 := ⟨(n - 1).toNat, by omega⟩
  obtain ⟨b, off, x, rfl, hx, hb, t0⟩ := HS.out.at_ (show k < len by omega)
  have kt0 := (HB.out.cell (p := ⟨b, off + k, none⟩) hb).trans t0
  have hfq : findq l ((k : Int) + 1) = if x < 0 then 8 else 0 := by
    unfold findq
    rw [if_neg (by omega), show (((k : Int) + 1 - 1).toNat) = k by omega, hx]; rfl
  have hw1 : IntKind.i64.wrap ((k : Int) + 1 - 1) = k := by rw [IntKind.wrap_i64]; omega
  have hki : (k : Int) < (len : Int) := by omega
  have HX := Lib.hid hfq
  clear hx hb t0 hfq h1 h2 hll
  by_cases h3 : x < 0
  · have HE := Lib.hid (HX.out.trans (if_pos h3))
    go_enter Try.func49, Try.ntmps49
    go_wp2
    go_ret
    exact ⟨ret_int HE.out.symm, HB.out⟩
  · have HE := Lib.hid (HX.out.trans (if_neg h3))
    have d3 : decide (x < 0) = false := by simpa using h3
    clear h3
    go_enter Try.func49, Try.ntmps49
    go_wp2
    go_ret
    exact ⟨ret_int HE.out.symm, HB.out⟩
theorem ref07_Same (A B : Option Addr) (la ca lb cb : Nat) (xs ys : List Int) (w : World) (hx : IntsAre w A la ca xs) (hy : IntsAre w B lb cb ys) :
    Calls Try.prog 93 #[.slice A la ca, .slice B lb cb] w fun e w' => e = .returned (.bool (xs == ys)) ∧ Below w.heap.size w w' := by
  have l1 := hx.1
  have l2 := hy.1
  have m1 : la < 9223372036854775807 ∨ la = 9223372036854775807 := by have := hx.2.1; have := hx.2.2.1; unfold maxLen at *; omega
  by_cases hl : la = lb
  · subst hl
    have HX := Lib.hid hx
    have HY := Lib.hid hy
    have H1 := Lib.hid l1
    have H2 := Lib.hid l2
    clear hx hy l1 l2
    go_enter Try.func93, Try.ntmps93
    go_wp2
    go_loopw [5] (fun i wr => ∃ k : Nat, k ≤ la ∧ i = .int .i64 k ∧ xs.take k = ys.take k ∧ Below w.heap.size w wr) (fun i _ => la - (intOf i).toNat)
    case atStart => exact ⟨0, Nat.zero_le _, rfl, rfl, Below.refl _ _⟩
    case round =>
      obtain ⟨k, hk, rfl, he, hbel⟩ := hrel
      have HE := Lib.hid he
      clear he
      by_cases hlt : k < la
      · obtain ⟨b, off, x, rfl, hx, hb, hc⟩ := HX.out.at_ hlt
        obtain ⟨b2, off2, y, rfl, hy, hb2, hc2⟩ := HY.out.at_ hlt
        have HX2 := Lib.hid hx
        have HY2 := Lib.hid hy
        clear hx hy
        have kc := (hbel.cell (p := ⟨b, off + k, none⟩) hb).trans hc
        have kc2 := (hbel.cell (p := ⟨b2, off2 + k, none⟩) hb2).trans hc2
        have hki : (k : Int) < (la : Int) := by omega
        clear hc hc2 hb hb2
        by_cases hxy : x = y
        · subst hxy
          go_wp2
          go_quiet (fail)
          go_wp2
          go_roundw
          case rel => exact ⟨k + 1, by omega, by go_num, by rw [take_next HX2.out, take_next HY2.out, HE.out], below_drewN hbel nq⟩
          case measure => simp [intOf]; omega
        · have hq : (xs == ys) = false := by
            simp only [beq_eq_false_iff_ne]
            intro h
            rw [h, HY2.out] at HX2
            exact hxy (Option.some.inj HX2.out).symm
          have d : (x == y) = false := by simpa using hxy
          have d2 : (x != y) = true := by simpa using hxy
          have HQ := Lib.hid hq
          clear hq
          go_wp2
          go_quiet (fail)
          go_wp2
          go_ret
          exact ⟨by rw [HQ.out]; rfl, below_drewN hbel nq⟩
      · go_wp2
        go_ret
        refine ⟨?_, hbel⟩
        have h1 := HE.out
        rw [List.take_of_length_le (by have := H1.out; omega), List.take_of_length_le (by have := H2.out; omega)] at h1
        rw [h1]; simp
  · have hq : (xs == ys) = false := by
      simp only [beq_eq_false_iff_ne]
      intro h; subst h; omega
    rw [hq]
    have d : ((la : Int) == (lb : Int)) = false := by simp; omega
    clear hq hx hy l1 l2
    go_enter Try.func93, Try.ntmps93
    go_wp2
    go_ret
    exact ⟨rfl, Below.refl _ _⟩
end Go.Proofs.Ytkjmacdekfbfhaa
