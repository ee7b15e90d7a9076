/- Lists of api.Advice: how often they turn. -/
import Derived.Test.YtjodpffdlggjgaaGreatTrial
import Derived.WalkMore
import Derived.Test.YtjodpffdlggjgaaGreatRegG
namespace Go.Proofs.YtjodpffdlggjgaaGreat
open Go.RowKit
set_option linter.unusedSimpArgs false
set_option linter.unusedVariables false
set_option maxHeartbeats 4000000
set_option maxRecDepth 100000

/-- Among the first k numbers of r: the turns so far, and the way (0, 1, -1). -/
def turnq (r : Nat → Int) : Nat → Nat × Int
  | 0 => (0, 0)
  | 1 => (0, 0)
  | k + 2 =>
    if r (k + 1) = r k then turnq r (k + 1)
    else if r k < r (k + 1) then ((turnq r (k + 1)).1 + if (turnq r (k + 1)).2 = -1 then 1 else 0, 1)
    else ((turnq r (k + 1)).1 + if (turnq r (k + 1)).2 = 1 then 1 else 0, -1)
theorem turnq_le (r : Nat → Int) (k : Nat) : (turnq r k).1 ≤ k := by
  match k with
  | 0 => simp [turnq]
  | 1 => simp [turnq]
  | k + 2 => have := turnq_le r (k + 1); unfold turnq; split <;> (try split) <;> (try simp only) <;> (try split) <;> omega
theorem turnq_way (r : Nat → Int) (k : Nat) : (turnq r k).2 = 0 ∨ (turnq r k).2 = 1 ∨ (turnq r k).2 = -1 := by
  match k with
  | 0 => simp [turnq]
  | 1 => simp [turnq]
  | k + 2 =>
    have := turnq_way r (k + 1)
    unfold turnq
    split
    · exact this
    · split <;> simp
theorem turn_eq {r : Nat → Int} {k : Nat} (h : r (k + 1) = r k) : turnq r (k + 2) = turnq r (k + 1) := by
  show (if r (k + 1) = r k then _ else _) = _
  rw [if_pos h]
theorem turn_up {r : Nat → Int} {k T : Nat} {W : Int} (h : r k < r (k + 1)) (e : turnq r (k + 1) = (T, W)) : turnq r (k + 2) = (T + if W = -1 then 1 else 0, 1) := by
  show (if r (k + 1) = r k then _ else _) = _
  rw [if_neg (by omega), if_pos h, e]
theorem turn_down {r : Nat → Int} {k T : Nat} {W : Int} (h : r (k + 1) < r k) (e : turnq r (k + 1) = (T, W)) : turnq r (k + 2) = (T + if W = 1 then 1 else 0, -1) := by
  show (if r (k + 1) = r k then _ else _) = _
  rw [if_neg (by omega), if_neg (by omega), e]
theorem steady_Turns (A : Option Addr) (len cap : Nat) (l : List Adv) (w : World) (hs : AdvsAre w A len cap l) (hn : len ≤ 1000) :
    Calls Tryz.prog 54 #[.slice A len cap] w fun e w' => e = .returned (.int .i64 ((turnq (replAt l) len).1 : Nat)) ∧ Below w.heap.size w w' := by
  have HS := Lib.hid hs
  clear hs
  go_enter Tryz.func54, Tryz.ntmps54
  go_wp2
  go_step3
  go_wp2
  go_step3
  go_wp2
  go_loopw [3, 4, 5] (fun tn wy i wr => ∃ k T : Nat, ∃ W : Int, (k = 0 ∨ k < len) ∧ i = .int .i64 ((k + 1 : Nat) : Int) ∧ tn = .int .i64 (T : Int) ∧ wy = .int .i64 W ∧ turnq (replAt l) (k + 1) = (T, W) ∧ Below w.heap.size w wr) (fun _ _ i _ => len - (intOf i).toNat)
  case atStart => exact ⟨0, 0, 0, .inl rfl, rfl, rfl, rfl, rfl, Below.refl _ _⟩
  case round =>
    obtain ⟨k, T, W, hk, rfl, rfl, rfl, hT, hbel⟩ := hrel
    by_cases hlt : k + 1 < len
    · obtain ⟨b, off, x, rfl, hx, hb, t0, t1, t2, t3, t4⟩ := HS.out.at_ (show k < len by omega)
      obtain ⟨b2, off2, y, hab, hy, hb2, s0, s1, s2, s3, s4⟩ := HS.out.at_ hlt
      cases hab
      have HX := Lib.hid (replAt_eq hx)
      have HY := Lib.hid (replAt_eq hy)
      have kt := (hbel.cell (p := ⟨b, off + k * 5 + 3, none⟩) hb).trans t3
      have ks := (hbel.cell (p := ⟨b, off + (k + 1) * 5 + 3, none⟩) hb).trans s3
      have hkl : (k : Int) < (len : Int) := by omega
      have hki : (k : Int) + 1 < (len : Int) := by omega
      have hle := turnq_le (replAt l) (k + 1)
      have hW := turnq_way (replAt l) (k + 1)
      rw [hT] at hle hW
      simp only at hle hW
      have HT := Lib.hid hT
      clear hx hy hb hb2 t0 t1 t2 t3 t4 s0 s1 s2 s3 s4 hT
      rcases Int.lt_trichotomy y.repl x.repl with hxy | hxy | hxy
      · have d1 : (y.repl == x.repl) = false := by simp; omega
        have d2 : decide (x.repl < y.repl) = false := by simp; omega
        have HN := Lib.hid (turn_down (by rw [HX.out, HY.out]; exact hxy) HT.out)
        clear hxy
        rcases hW with rfl | rfl | rfl
        all_goals
          go_wp2
          go_quiet (fail)
          go_wp2
          go_quiet (fail)
          go_wp2
          go_roundw
          case rel => exact ⟨k + 1, _, _, .inr hlt, by go_num, by go_num, rfl, HN.out, below_drewN hbel _⟩
          case measure => simp [intOf]; omega
      · have d1 : (y.repl == x.repl) = true := by simp; omega
        have HN := Lib.hid ((turn_eq (by rw [HX.out, HY.out]; exact hxy)).trans HT.out)
        clear hxy
        go_wp2
        go_quiet (fail)
        go_wp2
        go_roundw
        case rel => exact ⟨k + 1, _, _, .inr hlt, by go_num, rfl, rfl, HN.out, below_drewN hbel _⟩
        case measure => simp [intOf]; omega
      · have d1 : (y.repl == x.repl) = false := by simp; omega
        have d2 : decide (x.repl < y.repl) = true := by simp; omega
        have HN := Lib.hid (turn_up (by rw [HX.out, HY.out]; exact hxy) HT.out)
        clear hxy
        rcases hW with rfl | rfl | rfl
        all_goals
          go_wp2
          go_quiet (fail)
          go_wp2
          go_quiet (fail)
          go_wp2
          go_roundw
          case rel => exact ⟨k + 1, _, _, .inr hlt, by go_num, by go_num, rfl, HN.out, below_drewN hbel _⟩
          case measure => simp [intOf]; omega
    · go_wp2
      rw [Exit.noGoto_ret]
      go_ret
      refine ⟨?_, hbel⟩
      rcases hk with rfl | hk
      · cases hT
        rcases (show len = 0 ∨ len = 1 by omega) with rfl | rfl <;> rfl
      · exact ret_int (by rw [show len = k + 1 by omega, hT])
end Go.Proofs.YtjodpffdlggjgaaGreat
