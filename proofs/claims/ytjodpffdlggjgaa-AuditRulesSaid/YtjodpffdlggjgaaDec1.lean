/- decide.latest, Now, why; history.Highest; steady.Of; and the reference's. -/
import Derived.Test.YtjodpffdlggjgaaWin2
import Derived.Test.YtjodpffdlggjgaaTrial
import Derived.Test.YtjodpffdlggjgaaNear
namespace Go.Proofs.Ytjodpffdlggjgaa
open Go.RowKit
set_option linter.unusedSimpArgs false
set_option linter.unusedVariables false
set_option maxHeartbeats 4000000
set_option maxRecDepth 100000
def latestq (l : List Smp) : Int := maxq (l.map Smp.tick)
theorem latest_next {l : List Smp} {k : Nat} {x : Smp} (h : l[k]? = some x) (hk : 1 ≤ k) : latestq (l.take (k + 1)) = max (latestq (l.take k)) x.tick := by
  unfold latestq
  rw [List.map_take, List.map_take]
  exact maxq_next (by rw [List.getElem?_map, h]; rfl) hk
theorem latest_one {l : List Smp} {x : Smp} (h : l[0]? = some x) : latestq (l.take 1) = x.tick := by
  unfold latestq
  rw [List.map_take]
  exact maxq_one (by rw [List.getElem?_map, h]; rfl)
theorem fold_tick {l : List Smp} {k : Nat} {x : Smp} {a : Int} (h : l[k]? = some x) : ((l.take (k + 1)).map Smp.tick).foldl max a = max (((l.take k).map Smp.tick).foldl max a) x.tick := by
  rw [take_next h, List.map_append, List.foldl_append]; rfl
theorem latest_all {l : List Smp} {x : Smp} (h : l[0]? = some x) : (l.map Smp.tick).foldl max x.tick = latestq l := by
  cases l with
  | nil => simp at h
  | cons a l => simp at h; subst h; simp [latestq, maxq]
theorem decide_latest_no (cap : Nat) (A : Option Addr) (w : World) :
    Calls Try.prog 93 #[.slice A 0 cap] w fun e w' => e = .returned (.tuple #[.int .i64 0, .bool false]) ∧ w = w' := by
  go_enter Try.func93, Try.ntmps93
  go_wp2
  go_ret2
  exact ⟨rfl, rfl⟩
theorem decide_latest (A : Option Addr) (len cap : Nat) (l : List Smp) (w : World) (hs : SmpsAre w A len cap l) (h1 : 1 ≤ len) (hn : len ≤ 1000) :
    Calls Try.prog 93 #[.slice A len cap] w fun e w' => e = .returned (.tuple #[.int .i64 (latestq l), .bool true]) ∧ Below w.heap.size w w' := by
  have HS := Lib.hid hs
  have HL := Lib.hid hs.1
  obtain ⟨b, off, x0, rfl, hx0, hb0, u0, u1⟩ := hs.at_ (show 0 < len by omega)
  rw [Nat.zero_mul, Nat.add_zero] at u0
  have HX0 := Lib.hid hx0
  have d0 : ((len : Int) == 0) = false := by simp; omega
  clear hs hx0 u1
  go_enter Try.func93, Try.ntmps93
  go_wp2
  clear u0
  go_loopw [4, 16] (fun m i wr => ∃ k : Nat, k ≤ len ∧ i = .int .i64 k ∧ m = .int .i64 (((l.take k).map Smp.tick).foldl max x0.tick) ∧ Below w.heap.size w wr) (fun _ i _ => len - (intOf i).toNat)
  case atStart => exact ⟨0, by omega, rfl, rfl, Below.refl _ _⟩
  case round =>
    obtain ⟨k, hk, rfl, rfl, hbel⟩ := hrel
    by_cases hlt : k < len
    · obtain ⟨b', off', x, hab, hx, hb, t0, t1⟩ := HS.out.at_ hlt
      cases hab
      have kt0 := (hbel.cell (p := ⟨b, off + k * 2, none⟩) hb).trans t0
      have kt1 := (hbel.cell (p := ⟨b, off + k * 2 + 1, none⟩) hb).trans t1
      have HN := Lib.hid (fold_tick (a := x0.tick) hx)
      have hki : (k : Int) < (len : Int) := by omega
      have HB := Lib.hid hbel
      clear hx t0 t1 hb hbel
      generalize ((l.take k).map Smp.tick).foldl max x0.tick = m at *
      by_cases hlo : m < x.tick
      · have E := Lib.hid (show max m x.tick = x.tick by omega)
        go_wp2
        go_roundw
        case rel => exact ⟨k + 1, by omega, by go_num, by rw [HN.out, E.out], HB.out.alloc HB.out.size _⟩
        case measure => simp [intOf]; omega
      · have E := Lib.hid (show max m x.tick = m by omega)
        go_wp2
        go_roundw
        case rel => exact ⟨k + 1, by omega, by go_num, by rw [HN.out, E.out], HB.out.alloc HB.out.size _⟩
        case measure => simp [intOf]; omega
    · have hE : l.take k = l := List.take_of_length_le (by have := HL.out; omega)
      rw [hE, latest_all HX0.out]
      clear hE
      go_wp2
      go_ret2
      exact ⟨rfl, hbel⟩
theorem ref16_Latest (A : Option Addr) (len cap : Nat) (l : List Smp) (w : World) (hs : SmpsAre w A len cap l) (h1 : 1 ≤ len) (hn : len ≤ 1000) :
    Calls Try.prog 96 #[.slice A len cap] w fun e w' => e = .returned (.int .i64 (latestq l)) ∧ w = w' := by
  have HS := Lib.hid hs
  have HL := Lib.hid hs.1
  obtain ⟨b, off, x0, rfl, hx0, hb0, u0, u1⟩ := hs.at_ (show 0 < len by omega)
  rw [Nat.zero_mul, Nat.add_zero] at u0
  have HX0 := Lib.hid hx0
  clear hs hx0 u1
  go_enter Try.func96, Try.ntmps96
  go_wp2
  clear u0
  go_loop [3, 4] (fun m i => ∃ k : Nat, k ≤ len ∧ i = .int .i64 k ∧ m = .int .i64 (((l.take k).map Smp.tick).foldl max x0.tick)) (fun _ i => len - (intOf i).toNat)
  case atStart => exact ⟨0, by omega, rfl, rfl⟩
  case round =>
    obtain ⟨k, hk, rfl, rfl⟩ := hrel
    by_cases hlt : k < len
    · obtain ⟨b', off', x, hab, hx, hb, t0, t1⟩ := HS.out.at_ hlt
      cases hab
      have HN := Lib.hid (fold_tick (a := x0.tick) hx)
      have hki : (k : Int) < (len : Int) := by omega
      clear hx hb t1
      generalize ((l.take k).map Smp.tick).foldl max x0.tick = m at *
      by_cases hlo : m < x.tick
      · have E := Lib.hid (show max m x.tick = x.tick by omega)
        go_wp2
        go_round
        case rel => exact ⟨k + 1, by omega, by go_num, by rw [HN.out, E.out]⟩
        case measure => simp [intOf]; omega
      · have E := Lib.hid (show max m x.tick = m by omega)
        go_wp2
        go_round
        case rel => exact ⟨k + 1, by omega, by go_num, by rw [HN.out, E.out]⟩
        case measure => simp [intOf]; omega
    · have hE : l.take k = l := List.take_of_length_le (by have := HL.out; omega)
      rw [hE, latest_all HX0.out]
      clear hE
      go_wp2
      go_ret
      exact ⟨rfl, rfl⟩
def nowq (p : Pol) (past : List Adv) : Int := if past.length = 0 then p.min else replAt past (past.length - 1)
theorem decide_Now (p : Pol) (A : Option Addr) (len cap : Nat) (l : List Adv) (w : World) (hs : AdvsAre w A len cap l) (hn : len ≤ 1000) :
    Calls Try.prog 43 #[(.agg #[.int .i64 p.min, .int .i64 p.max, .int .i64 p.target, .int .i64 p.tol, .int .i64 p.window, .int .i64 p.hold]), .slice A len cap] w fun e w' => e = .returned (.int .i64 (nowq p l)) ∧ Below w.heap.size w w' := by
  have HL := hs.1
  by_cases h0 : len = 0
  · have HQ := Lib.hid (show nowq p l = p.min by unfold nowq; rw [if_pos (by omega)])
    have d0 : ((len : Int) == 0) = true := by simp; omega
    clear hs h0
    go_enter Try.func43, Try.ntmps43
    go_wp2
    go_ret
    exact ⟨ret_int HQ.out.symm, by go_grown⟩
  · have HQ := Lib.hid (show nowq p l = replAt l (len - 1) by unfold nowq; rw [if_neg (by omega), HL])
    have d0 : ((len : Int) == 0) = false := by simp; omega
    obtain ⟨j, rfl⟩ : ∃ j, len = j + 1 := ⟨len - 1, by omega⟩
    obtain ⟨b, off, x, rfl, hx, hb, t0, t1, t2, t3, t4⟩ := hs.at_ (show j < j + 1 by omega)
    have HX := Lib.hid (replAt_eq hx)
    clear hs h0 hx t0 t1 t2 t4 HL
    have e1 : ((j + 1 : Nat) : Int) - 1 = (j : Int) := by omega
    go_enter Try.func43, Try.ntmps43
    go_wp2
    go_ret
    exact ⟨ret_int (by rw [HQ.out, Nat.add_sub_cancel, HX.out]), by go_grown⟩
theorem ref16_Now (p : Pol) (A : Option Addr) (len cap : Nat) (l : List Adv) (w : World) (hs : AdvsAre w A len cap l) (hn : len ≤ 1000) :
    Calls Try.prog 50 #[(.agg #[.int .i64 p.min, .int .i64 p.max, .int .i64 p.target, .int .i64 p.tol, .int .i64 p.window, .int .i64 p.hold]), .slice A len cap] w fun e w' => e = .returned (.int .i64 (nowq p l)) ∧ Below w.heap.size w w' := by
  have HL := hs.1
  by_cases h0 : len = 0
  · have HQ := Lib.hid (show nowq p l = p.min by unfold nowq; rw [if_pos (by omega)])
    have d0 : ((len : Int) == 0) = true := by simp; omega
    clear hs h0
    go_enter Try.func50, Try.ntmps50
    go_wp2
    go_ret
    exact ⟨ret_int HQ.out.symm, by go_grown⟩
  · have HQ := Lib.hid (show nowq p l = replAt l (len - 1) by unfold nowq; rw [if_neg (by omega), HL])
    have d0 : ((len : Int) == 0) = false := by simp; omega
    obtain ⟨j, rfl⟩ : ∃ j, len = j + 1 := ⟨len - 1, by omega⟩
    obtain ⟨b, off, x, rfl, hx, hb, t0, t1, t2, t3, t4⟩ := hs.at_ (show j < j + 1 by omega)
    have HX := Lib.hid (replAt_eq hx)
    clear hs h0 hx t0 t1 t2 t4 HL
    have e1 : ((j + 1 : Nat) : Int) - 1 = (j : Int) := by omega
    go_enter Try.func50, Try.ntmps50
    go_wp2
    go_ret
    exact ⟨ret_int (by rw [HQ.out, Nat.add_sub_cancel, HX.out]), by go_grown⟩
def whyq (p : Pol) (held : Bool) (op now th : Int) : Int := if held then 4 else if p.max < op then 6 else if op < p.min then 5 else if now < th then 2 else if th < now then 3 else 1
theorem decide_why (p : Pol) (held : Bool) (op now th : Int) (w : World) :
    Calls Try.prog 95 #[(.agg #[.int .i64 p.min, .int .i64 p.max, .int .i64 p.target, .int .i64 p.tol, .int .i64 p.window, .int .i64 p.hold]), .bool held, .int .i64 op, .int .i64 now, .int .i64 th] w fun e w' => e = .returned (.int .i64 (whyq p held op now th)) ∧ Below w.heap.size w w' := by
  have HQ := Lib.hid (show whyq p held op now th = if held then 4 else if p.max < op then 6 else if op < p.min then 5 else if now < th then 2 else if th < now then 3 else 1 from rfl)
  cases held
  all_goals
    go_enter Try.func95, Try.ntmps95
    go_wp2
    all_goals
      go_ret
      exact ⟨ret_int (by rw [HQ.out]; simp only [Bool.false_eq_true, if_false, if_true]; repeat (first | rfl | rw [if_pos (by assumption)] | rw [if_neg (by omega)])), by go_grown⟩
theorem ref16_Why (p : Pol) (held : Bool) (op now th : Int) (w : World) :
    Calls Try.prog 100 #[(.agg #[.int .i64 p.min, .int .i64 p.max, .int .i64 p.target, .int .i64 p.tol, .int .i64 p.window, .int .i64 p.hold]), .bool held, .int .i64 op, .int .i64 now, .int .i64 th] w fun e w' => e = .returned (.int .i64 (whyq p held op now th)) ∧ Below w.heap.size w w' := by
  have HQ := Lib.hid (show whyq p held op now th = if held then 4 else if p.max < op then 6 else if op < p.min then 5 else if now < th then 2 else if th < now then 3 else 1 from rfl)
  cases held
  all_goals
    go_enter Try.func100, Try.ntmps100
    go_wp2
    all_goals
      go_ret
      exact ⟨ret_int (by rw [HQ.out]; simp only [Bool.false_eq_true, if_false, if_true]; repeat (first | rfl | rw [if_pos (by assumption)] | rw [if_neg (by omega)])), by go_grown⟩
end Go.Proofs.Ytjodpffdlggjgaa
