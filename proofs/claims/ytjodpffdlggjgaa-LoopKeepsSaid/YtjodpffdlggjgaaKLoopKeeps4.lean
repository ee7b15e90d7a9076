/- Several texts in one. -/
import Derived.Test.YtjodpffdlggjgaaKLoopKeeps3
import Derived.Test.YtjodpffdlggjgaaTrial
import Derived.Test.YtjodpffdlggjgaaMean
import Derived.Test.YtjodpffdlggjgaaRegT
/- decide.latest, Now, why; history.Highest; steady.Of; and the reference's. -/
namespace Go.Proofs.Ytjodpffdlggjgaa
open Go.RowKit
set_option linter.unusedSimpArgs false
set_option linter.unusedVariables false
set_option maxHeartbeats 4000000
set_option maxRecDepth 100000
def latestq (l : List Smp) : Int := maxq (l.map Smp.tick)
theorem latest_next {l : List Smp} {k : Nat} {x : Smp} (h : l[k]? = some x) (hk : 1 ≤ k) : latestq (l.take (k + 1)) = max (latestq (l.take k)) x.tick := by
  unfold latestq
  rw [List.map_take, List.map_take]
  exact maxq_next (by rw [List.getElem?_map, h]; rfl) hk
theorem latest_one {l : List Smp} {x : Smp} (h : l[0]? = some x) : latestq (l.take 1) = x.tick := by
  unfold latestq
  rw [List.map_take]
  exact maxq_one (by rw [List.getElem?_map, h]; rfl)
theorem fold_tick {l : List Smp} {k : Nat} {x : Smp} {a : Int} (h : l[k]? = some x) : ((l.take (k + 1)).map Smp.tick).foldl max a = max (((l.take k).map Smp.tick).foldl max a) x.tick := by
  rw [take_next h, List.map_append, List.foldl_append]; rfl
theorem latest_all {l : List Smp} {x : Smp} (h : l[0]? = some x) : (l.map Smp.tick).foldl max x.tick = latestq l := by
  cases l with
  | nil => simp at h
  | cons a l => simp at h; subst h; simp [latestq, maxq]
theorem decide_latest_no (cap : Nat) (A : Option Addr) (w : World) :
    Calls Try.prog 93 #[.slice A 0 cap] w fun e w' => e = .returned (.tuple #[.int .i64 0, .bool false]) ∧ w = w' := by
  go_enter Try.func93, Try.ntmps93
  go_wp2
  go_ret2
  exact ⟨rfl, rfl⟩
theorem decide_latest (A : Option Addr) (len cap : Nat) (l : List Smp) (w : World) (hs : SmpsAre w A len cap l) (h1 : 1 ≤ len) (hn : len ≤ 1000) :
    Calls Try.prog 93 #[.slice A len cap] w fun e w' => e = .returned (.tuple #[.int .i64 (latestq l), .bool true]) ∧ Below w.heap.size w w' := by
  have HS := Lib.hid hs
  have HL := Lib.hid hs.1
  obtain ⟨b, off, x0, rfl, hx0, hb0, u0, u1⟩ := hs.at_ (show 0 < len by omega)
  rw [Nat.zero_mul, Nat.add_zero] at u0
  have HX0 := Lib.hid hx0
  have d0 : ((len : Int) == 0) = false := by simp; omega
  clear hs hx0 u1
  go_enter Try.func93, Try.ntmps93
  go_wp2
  clear u0
  go_loopw [4, 16] (fun m i wr => ∃ k : Nat, k ≤ len ∧ i = .int .i64 k ∧ m = .int .i64 (((l.take k).map Smp.tick).foldl max x0.tick) ∧ Below w.heap.size w wr) (fun _ i _ => len - (intOf i).toNat)
  case atStart => exact ⟨0, by omega, rfl, rfl, Below.refl _ _⟩
  case round =>
    obtain ⟨k, hk, rfl, rfl, hbel⟩ := hrel
    by_cases hlt : k < len
    · obtain ⟨b', off', x, hab, hx, hb, t0, t1⟩ := HS.out.at_ hlt
      cases hab
      have kt0 := (hbel.cell (p := ⟨b, off + k * 2, none⟩) hb).trans t0
      have kt1 := (hbel.cell (p := ⟨b, off + k * 2 + 1, none⟩) hb).trans t1
      have HN := Lib.hid (fold_tick (a := x0.tick) hx)
      have hki : (k : Int) < (len : Int) := by omega
      have HB := Lib.hid hbel
      clear hx t0 t1 hb hbel
      generalize ((l.take k).map Smp.tick).foldl max x0.tick = m at *
      by_cases hlo : m < x.tick
      · have E := Lib.hid (show max m x.tick = x.tick by omega)
        go_wp2
        go_roundw
        case rel => exact ⟨k + 1, by omega, by go_num, by rw [HN.out, E.out], HB.out.alloc HB.out.size _⟩
        case measure => simp [intOf]; omega
      · have E := Lib.hid (show max m x.tick = m by omega)
        go_wp2
        go_roundw
        case rel => exact ⟨k + 1, by omega, by go_num, by rw [HN.out, E.out], HB.out.alloc HB.out.size _⟩
        case measure => simp [intOf]; omega
    · have hE : l.take k = l := List.take_of_length_le (by have := HL.out; omega)
      rw [hE, latest_all HX0.out]
      clear hE
      go_wp2
      go_ret2
      exact ⟨rfl, hbel⟩
theorem ref16_Latest (A : Option Addr) (len cap : Nat) (l : List Smp) (w : World) (hs : SmpsAre w A len cap l) (h1 : 1 ≤ len) (hn : len ≤ 1000) :
    Calls Try.prog 96 #[.slice A len cap] w fun e w' => e = .returned (.int .i64 (latestq l)) ∧ w = w' := by
  have HS := Lib.hid hs
  have HL := Lib.hid hs.1
  obtain ⟨b, off, x0, rfl, hx0, hb0, u0, u1⟩ := hs.at_ (show 0 < len by omega)
  rw [Nat.zero_mul, Nat.add_zero] at u0
  have HX0 := Lib.hid hx0
  clear hs hx0 u1
  go_enter Try.func96, Try.ntmps96
  go_wp2
  clear u0
  go_loop [3, 4] (fun m i => ∃ k : Nat, k ≤ len ∧ i = .int .i64 k ∧ m = .int .i64 (((l.take k).map Smp.tick).foldl max x0.tick)) (fun _ i => len - (intOf i).toNat)
  case atStart => exact ⟨0, by omega, rfl, rfl⟩
  case round =>
    obtain ⟨k, hk, rfl, rfl⟩ := hrel
    by_cases hlt : k < len
    · obtain ⟨b', off', x, hab, hx, hb, t0, t1⟩ := HS.out.at_ hlt
      cases hab
      have HN := Lib.hid (fold_tick (a := x0.tick) hx)
      have hki : (k : Int) < (len : Int) := by omega
      clear hx hb t1
      generalize ((l.take k).map Smp.tick).foldl max x0.tick = m at *
      by_cases hlo : m < x.tick
      · have E := Lib.hid (show max m x.tick = x.tick by omega)
        go_wp2
        go_round
        case rel => exact ⟨k + 1, by omega, by go_num, by rw [HN.out, E.out]⟩
        case measure => simp [intOf]; omega
      · have E := Lib.hid (show max m x.tick = m by omega)
        go_wp2
        go_round
        case rel => exact ⟨k + 1, by omega, by go_num, by rw [HN.out, E.out]⟩
        case measure => simp [intOf]; omega
    · have hE : l.take k = l := List.take_of_length_le (by have := HL.out; omega)
      rw [hE, latest_all HX0.out]
      clear hE
      go_wp2
      go_ret
      exact ⟨rfl, rfl⟩
def nowq (p : Pol) (past : List Adv) : Int := if past.length = 0 then p.min else replAt past (past.length - 1)
theorem decide_Now (p : Pol) (A : Option Addr) (len cap : Nat) (l : List Adv) (w : World) (hs : AdvsAre w A len cap l) (hn : len ≤ 1000) :
    Calls Try.prog 43 #[(.agg #[.int .i64 p.min, .int .i64 p.max, .int .i64 p.target, .int .i64 p.tol, .int .i64 p.window, .int .i64 p.hold]), .slice A len cap] w fun e w' => e = .returned (.int .i64 (nowq p l)) ∧ Below w.heap.size w w' := by
  have HL := hs.1
  by_cases h0 : len = 0
  · have HQ := Lib.hid (show nowq p l = p.min by unfold nowq; rw [if_pos (by omega)])
    have d0 : ((len : Int) == 0) = true := by simp; omega
    clear hs h0
    go_enter Try.func43, Try.ntmps43
    go_wp2
    go_ret
    exact ⟨ret_int HQ.out.symm, by go_grown⟩
  · have HQ := Lib.hid (show nowq p l = replAt l (len - 1) by unfold nowq; rw [if_neg (by omega), HL])
    have d0 : ((len : Int) == 0) = false := by simp; omega
    obtain ⟨j, rfl⟩ : ∃ j, len = j + 1 := ⟨len - 1, by omega⟩
    obtain ⟨b, off, x, rfl, hx, hb, t0, t1, t2, t3, t4⟩ := hs.at_ (show j < j + 1 by omega)
    have HX := Lib.hid (replAt_eq hx)
    clear hs h0 hx t0 t1 t2 t4 HL
    have e1 : ((j + 1 : Nat) : Int) - 1 = (j : Int) := by omega
    go_enter Try.func43, Try.ntmps43
    go_wp2
    go_ret
    exact ⟨ret_int (by rw [HQ.out, Nat.add_sub_cancel, HX.out]), by go_grown⟩
theorem ref16_Now (p : Pol) (A : Option Addr) (len cap : Nat) (l : List Adv) (w : World) (hs : AdvsAre w A len cap l) (hn : len ≤ 1000) :
    Calls Try.prog 50 #[(.agg #[.int .i64 p.min, .int .i64 p.max, .int .i64 p.target, .int .i64 p.tol, .int .i64 p.window, .int .i64 p.hold]), .slice A len cap] w fun e w' => e = .returned (.int .i64 (nowq p l)) ∧ Below w.heap.size w w' := by
  have HL := hs.1
  by_cases h0 : len = 0
  · have HQ := Lib.hid (show nowq p l = p.min by unfold nowq; rw [if_pos (by omega)])
    have d0 : ((len : Int) == 0) = true := by simp; omega
    clear hs h0
    go_enter Try.func50, Try.ntmps50
    go_wp2
    go_ret
    exact ⟨ret_int HQ.out.symm, by go_grown⟩
  · have HQ := Lib.hid (show nowq p l = replAt l (len - 1) by unfold nowq; rw [if_neg (by omega), HL])
    have d0 : ((len : Int) == 0) = false := by simp; omega
    obtain ⟨j, rfl⟩ : ∃ j, len = j + 1 := ⟨len - 1, by omega⟩
    obtain ⟨b, off, x, rfl, hx, hb, t0, t1, t2, t3, t4⟩ := hs.at_ (show j < j + 1 by omega)
    have HX := Lib.hid (replAt_eq hx)
    clear hs h0 hx t0 t1 t2 t4 HL
    have e1 : ((j + 1 : Nat) : Int) - 1 = (j : Int) := by omega
    go_enter Try.func50, Try.ntmps50
    go_wp2
    go_ret
    exact ⟨ret_int (by rw [HQ.out, Nat.add_sub_cancel, HX.out]), by go_grown⟩
def whyq (p : Pol) (held : Bool) (op now th : Int) : Int := if held then 4 else if p.max < op then 6 else if op < p.min then 5 else if now < th then 2 else if th < now then 3 else 1
theorem decide_why (p : Pol) (held : Bool) (op now th : Int) (w : World) :
    Calls Try.prog 95 #[(.agg #[.int .i64 p.min, .int .i64 p.max, .int .i64 p.target, .int .i64 p.tol, .int .i64 p.window, .int .i64 p.hold]), .bool held, .int .i64 op, .int .i64 now, .int .i64 th] w fun e w' => e = .returned (.int .i64 (whyq p held op now th)) ∧ Below w.heap.size w w' := by
  have HQ := Lib.hid (show whyq p held op now th = if held then 4 else if p.max < op then 6 else if op < p.min then 5 else if now < th then 2 else if th < now then 3 else 1 from rfl)
  cases held
  all_goals
    go_enter Try.func95, Try.ntmps95
    go_wp2
    all_goals
      go_ret
      exact ⟨ret_int (by rw [HQ.out]; simp only [Bool.false_eq_true, if_false, if_true]; repeat (first | rfl | rw [if_pos (by assumption)] | rw [if_neg (by omega)])), by go_grown⟩
theorem ref16_Why (p : Pol) (held : Bool) (op now th : Int) (w : World) :
    Calls Try.prog 100 #[(.agg #[.int .i64 p.min, .int .i64 p.max, .int .i64 p.target, .int .i64 p.tol, .int .i64 p.window, .int .i64 p.hold]), .bool held, .int .i64 op, .int .i64 now, .int .i64 th] w fun e w' => e = .returned (.int .i64 (whyq p held op now th)) ∧ Below w.heap.size w w' := by
  have HQ := Lib.hid (show whyq p held op now th = if held then 4 else if p.max < op then 6 else if op < p.min then 5 else if now < th then 2 else if th < now then 3 else 1 from rfl)
  cases held
  all_goals
    go_enter Try.func100, Try.ntmps100
    go_wp2
    all_goals
      go_ret
      exact ⟨ret_int (by rw [HQ.out]; simp only [Bool.false_eq_true, if_false, if_true]; repeat (first | rfl | rw [if_pos (by assumption)] | rw [if_neg (by omega)])), by go_grown⟩
end Go.Proofs.Ytjodpffdlggjgaa
/- history.Highest, steady.Of, and the reference's. -/
namespace Go.Proofs.Ytjodpffdlggjgaa
open Go.RowKit
set_option linter.unusedSimpArgs false
set_option linter.unusedVariables false
set_option maxHeartbeats 4000000
set_option maxRecDepth 100000
def hstep (f t : Int) (s : Int × Bool) (a : Adv) : Int × Bool := if f < a.tick ∧ a.tick ≤ t ∧ (s.2 = false ∨ s.1 < a.want) then (a.want, true) else s
def highq0 (l : List Adv) (f t : Int) : Int × Bool := l.foldl (hstep f t) (0, false)
def highest (l : List Adv) (tick hold : Int) : Int × Bool := highq0 l (satq (tick - hold)) tick
theorem high_next {l : List Adv} {k : Nat} {x : Adv} {f t : Int} (h : l[k]? = some x) : highq0 (l.take (k + 1)) f t = hstep f t (highq0 (l.take k) f t) x := by
  unfold highq0; rw [take_next h, List.foldl_append]; rfl
theorem hstep_yes {f t bst : Int} {is : Bool} {x : Adv} (h1 : f < x.tick) (h2 : x.tick ≤ t) (h3 : is = false ∨ bst < x.want) : hstep f t (bst, is) x = (x.want, true) := if_pos ⟨h1, h2, h3⟩
theorem hstep_no {f t bst : Int} {is : Bool} {x : Adv} (h : ¬ (f < x.tick ∧ x.tick ≤ t ∧ (is = false ∨ bst < x.want))) : hstep f t (bst, is) x = (bst, is) := if_neg h
theorem highq_I64 {l : List Adv} (hg : ∀ x ∈ l, x.good) (f t : Int) : I64 (highq0 l f t).1 := by
  have key : ∀ (l : List Adv), (∀ x ∈ l, x.good) → ∀ s : Int × Bool, I64 s.1 → I64 (l.foldl (hstep f t) s).1 := by
    intro l
    induction l with
    | nil => intro _ s hs; exact hs
    | cons x l ih =>
      intro hx s hs
      rw [List.foldl_cons]
      refine ih (fun y hy => hx y (by simp [hy])) _ ?_
      unfold hstep
      split
      · exact (hx x (by simp)).2.2.1
      · exact hs
  exact key l hg _ (by unfold I64; simp)
theorem history_Highest (A : Option Addr) (len cap : Nat) (l : List Adv) (tick hold : Int) (w : World) (hs : AdvsAre w A len cap l) (hn : len ≤ 1000) (h1 : I64 tick) (h2 : I64 hold) :
    Calls Try.prog 74 #[.slice A len cap, .int .i64 tick, .int .i64 hold] w fun e w' => e = .returned (.tuple #[.int .i64 (highest l tick hold).1, .bool (highest l tick hold).2]) ∧ Below w.heap.size w w' := by
  have HS := Lib.hid hs
  have HL := Lib.hid hs.1
  clear hs
  have HSub := Lib.hid (fun W => sat_Sub tick hold W h1 h2)
  have HH := Lib.hid (show highest l tick hold = highq0 l (satq (tick - hold)) tick from rfl)
  generalize satq (tick - hold) = F at *
  go_enter Try.func74, Try.ntmps74
  go_wp2_with (go_at_call 104; refine (HSub.out _).mono ?_; rintro e w4 ⟨rfl, rfl⟩)
  go_loopw [9, 10, 18] (fun bv iv i wr => ∃ k : Nat, ∃ bst : Int, ∃ is : Bool, k ≤ len ∧ i = .int .i64 k ∧ bv = .int .i64 bst ∧ iv = .bool is ∧ highq0 (l.take k) F tick = (bst, is) ∧ Below w.heap.size w wr) (fun _ _ i _ => len - (intOf i).toNat)
  case atStart => exact ⟨0, 0, false, by omega, rfl, rfl, rfl, rfl, Below.refl _ _⟩
  case round =>
    obtain ⟨k, bst, is, hk, rfl, rfl, rfl, hst, hbel⟩ := hrel
    have HST := Lib.hid hst
    clear hst
    by_cases hlt : k < len
    · obtain ⟨b, off, x, rfl, hx, hb, t0, t1, t2, t3, t4⟩ := HS.out.at_ hlt
      have kt0 := (hbel.cell (p := ⟨b, off + k * 5, none⟩) hb).trans t0
      have kt1 := (hbel.cell (p := ⟨b, off + k * 5 + 1, none⟩) hb).trans t1
      have kt2 := (hbel.cell (p := ⟨b, off + k * 5 + 2, none⟩) hb).trans t2
      have kt3 := (hbel.cell (p := ⟨b, off + k * 5 + 3, none⟩) hb).trans t3
      have kt4 := (hbel.cell (p := ⟨b, off + k * 5 + 4, none⟩) hb).trans t4
      have HN := Lib.hid (high_next (f := F) (t := tick) hx)
      have hki : (k : Int) < (len : Int) := by omega
      have HB := Lib.hid hbel
      clear hx t0 t1 t2 t3 t4 hb hbel
      by_cases c1 : F < x.tick
      · by_cases c2 : x.tick ≤ tick
        · cases is
          · have E := Lib.hid (hstep_yes (bst := bst) (is := false) c1 c2 (.inl rfl))
            go_wp2
            go_roundw
            case rel => exact ⟨k + 1, _, _, by omega, by go_num, rfl, rfl, by rw [HN.out, HST.out, E.out], HB.out.alloc HB.out.size _⟩
            case measure => simp [intOf]; omega
          · by_cases c3 : bst < x.want
            · have E := Lib.hid (hstep_yes (bst := bst) (is := true) c1 c2 (.inr c3))
              go_wp2
              go_roundw
              case rel => exact ⟨k + 1, _, _, by omega, by go_num, rfl, rfl, by rw [HN.out, HST.out, E.out], HB.out.alloc HB.out.size _⟩
              case measure => simp [intOf]; omega
            · have E := Lib.hid (hstep_no (f := F) (t := tick) (bst := bst) (is := true) (x := x) (fun h => by rcases h.2.2 with h | h <;> first | cases h | exact c3 h))
              go_wp2
              go_roundw
              case rel => exact ⟨k + 1, _, _, by omega, by go_num, rfl, rfl, by rw [HN.out, HST.out, E.out], HB.out.alloc HB.out.size _⟩
              case measure => simp [intOf]; omega
        · have E := Lib.hid (hstep_no (f := F) (t := tick) (bst := bst) (is := is) (x := x) (fun h => c2 h.2.1))
          go_wp2
          go_roundw
          case rel => exact ⟨k + 1, _, _, by omega, by go_num, rfl, rfl, by rw [HN.out, HST.out, E.out], HB.out.alloc HB.out.size _⟩
          case measure => simp [intOf]; omega
      · have E := Lib.hid (hstep_no (f := F) (t := tick) (bst := bst) (is := is) (x := x) (fun h => c1 h.1))
        go_wp2
        go_roundw
        case rel => exact ⟨k + 1, _, _, by omega, by go_num, rfl, rfl, by rw [HN.out, HST.out, E.out], HB.out.alloc HB.out.size _⟩
        case measure => simp [intOf]; omega
    · have hE : l.take k = l := List.take_of_length_le (by have := HL.out; omega)
      have HF := Lib.hid (show highest l tick hold = (bst, is) by rw [HH.out, ← hE]; exact HST.out)
      clear hE
      go_wp2
      go_ret2
      exact ⟨by rw [HF.out]; rfl, hbel⟩
theorem ref14_Highest (A : Option Addr) (len cap : Nat) (l : List Adv) (tick hold : Int) (w : World) (hs : AdvsAre w A len cap l) (hn : len ≤ 1000) (h1 : I64 tick) (h2 : I64 hold) :
    Calls Try.prog 82 #[.slice A len cap, .int .i64 tick, .int .i64 hold] w fun e w' => e = .returned (.tuple #[.int .i64 (highest l tick hold).1, .bool (highest l tick hold).2]) ∧ w = w' := by
  have HS := Lib.hid hs
  have HL := Lib.hid hs.1
  clear hs
  have HSub := Lib.hid (fun W => ref_Sub tick hold W h1 h2)
  have HH := Lib.hid (show highest l tick hold = highq0 l (satq (tick - hold)) tick from rfl)
  generalize satq (tick - hold) = F at *
  go_enter Try.func82, Try.ntmps82
  go_wp2_with (go_at_call 113; refine (HSub.out _).mono ?_; rintro e w4 ⟨rfl, rfl⟩)
  go_loop [8, 9, 11] (fun bv iv i => ∃ k : Nat, ∃ bst : Int, ∃ is : Bool, k ≤ len ∧ i = .int .i64 k ∧ bv = .int .i64 bst ∧ iv = .bool is ∧ highq0 (l.take k) F tick = (bst, is)) (fun _ _ i => len - (intOf i).toNat)
  case atStart => exact ⟨0, 0, false, by omega, rfl, rfl, rfl, rfl⟩
  case round =>
    obtain ⟨k, bst, is, hk, rfl, rfl, rfl, hst⟩ := hrel
    have HST := Lib.hid hst
    clear hst
    by_cases hlt : k < len
    · obtain ⟨b, off, x, rfl, hx, hb, t0, t1, t2, t3, t4⟩ := HS.out.at_ hlt
      have HN := Lib.hid (high_next (f := F) (t := tick) hx)
      have hki : (k : Int) < (len : Int) := by omega
      clear hx t1 t3 t4 hb
      by_cases c1 : F < x.tick
      · by_cases c2 : x.tick ≤ tick
        · cases is
          · have E := Lib.hid (hstep_yes (bst := bst) (is := false) c1 c2 (.inl rfl))
            go_wp2
            go_round
            case rel => exact ⟨k + 1, _, _, by omega, by go_num, rfl, rfl, by rw [HN.out, HST.out, E.out]⟩
            case measure => simp [intOf]; omega
          · by_cases c3 : bst < x.want
            · have E := Lib.hid (hstep_yes (bst := bst) (is := true) c1 c2 (.inr c3))
              go_wp2
              go_round
              case rel => exact ⟨k + 1, _, _, by omega, by go_num, rfl, rfl, by rw [HN.out, HST.out, E.out]⟩
              case measure => simp [intOf]; omega
            · have E := Lib.hid (hstep_no (f := F) (t := tick) (bst := bst) (is := true) (x := x) (fun h => by rcases h.2.2 with h | h <;> first | cases h | exact c3 h))
              go_wp2
              go_round
              case rel => exact ⟨k + 1, _, _, by omega, by go_num, rfl, rfl, by rw [HN.out, HST.out, E.out]⟩
              case measure => simp [intOf]; omega
        · have E := Lib.hid (hstep_no (f := F) (t := tick) (bst := bst) (is := is) (x := x) (fun h => c2 h.2.1))
          go_wp2
          go_round
          case rel => exact ⟨k + 1, _, _, by omega, by go_num, rfl, rfl, by rw [HN.out, HST.out, E.out]⟩
          case measure => simp [intOf]; omega
      · have E := Lib.hid (hstep_no (f := F) (t := tick) (bst := bst) (is := is) (x := x) (fun h => c1 h.1))
        go_wp2
        go_round
        case rel => exact ⟨k + 1, _, _, by omega, by go_num, rfl, rfl, by rw [HN.out, HST.out, E.out]⟩
        case measure => simp [intOf]; omega
    · have hE : l.take k = l := List.take_of_length_le (by have := HL.out; omega)
      have HF := Lib.hid (show highest l tick hold = (bst, is) by rw [HH.out, ← hE]; exact HST.out)
      clear hE
      go_wp2
      go_ret2
      exact ⟨by rw [HF.out]; rfl, rfl⟩
def steadyq (p : Pol) (tick want : Int) (past : List Adv) : Int × Bool := if (highest past tick p.hold).2 = true ∧ want < (highest past tick p.hold).1 then ((highest past tick p.hold).1, true) else (want, false)
theorem steady_Of (p : Pol) (tick want : Int) (A : Option Addr) (len cap : Nat) (l : List Adv) (w : World) (hp : p.fit) (hs : AdvsAre w A len cap l) (hn : len ≤ 1000) (h1 : I64 tick) :
    Calls Try.prog 44 #[(.agg #[.int .i64 p.min, .int .i64 p.max, .int .i64 p.target, .int .i64 p.tol, .int .i64 p.window, .int .i64 p.hold]), .int .i64 tick, .int .i64 want, .slice A len cap] w fun e w' => e = .returned (.tuple #[.int .i64 (steadyq p tick want l).1, .bool (steadyq p tick want l).2]) ∧ Below w.heap.size w w' := by
  have HS := Lib.hid hs
  have E0 := Lib.hid (show Below w.heap.size w (w.alloc (.cells p.row 23)) by go_grown)
  have HQ := Lib.hid (show steadyq p tick want l = if (highest l tick p.hold).2 = true ∧ want < (highest l tick p.hold).1 then ((highest l tick p.hold).1, true) else (want, false) from rfl)
  have HHi := Lib.hid (fun W hW => history_Highest A len cap l tick p.hold W hW hn h1 hp.2.2.2.2.2)
  generalize steadyq p tick want l = R at *
  clear hs
  generalize highest l tick p.hold = hh at *
  obtain ⟨bst, is⟩ := hh
  dsimp only at HQ HHi
  go_enter Try.func44, Try.ntmps44
  go_wp2_with fail
  refine (HHi.out _ (slice_keep HS.out E0.out)).mono ?_
  rintro e w1 ⟨rfl, hb1⟩
  have E1 := Lib.hid (E0.out.trans (hb1.mono E0.out.size))
  clear hb1
  cases is
  · have HR := Lib.hid (show R = (want, false) by rw [HQ.out]; simp)
    go_wp2
    go_ret2
    exact ⟨by rw [HR.out]; rfl, E1.out⟩
  · by_cases c : want < bst
    · have HR := Lib.hid (show R = (bst, true) by rw [HQ.out]; simp [c])
      go_wp2
      go_ret2
      exact ⟨by rw [HR.out]; rfl, E1.out⟩
    · have HR := Lib.hid (show R = (want, false) by rw [HQ.out]; simp [c])
      go_wp2
      go_ret2
      exact ⟨by rw [HR.out]; rfl, E1.out⟩
theorem ref15_Of (p : Pol) (tick want : Int) (A : Option Addr) (len cap : Nat) (l : List Adv) (w : World) (hp : p.fit) (hs : AdvsAre w A len cap l) (hn : len ≤ 1000) (h1 : I64 tick) :
    Calls Try.prog 53 #[(.agg #[.int .i64 p.min, .int .i64 p.max, .int .i64 p.target, .int .i64 p.tol, .int .i64 p.window, .int .i64 p.hold]), .int .i64 tick, .int .i64 want, .slice A len cap] w fun e w' => e = .returned (.tuple #[.int .i64 (steadyq p tick want l).1, .bool (steadyq p tick want l).2]) ∧ Below w.heap.size w w' := by
  have HS := Lib.hid hs
  have E0 := Lib.hid (show Below w.heap.size w (w.alloc (.cells p.row 23)) by go_grown)
  have HQ := Lib.hid (show steadyq p tick want l = if (highest l tick p.hold).2 = true ∧ want < (highest l tick p.hold).1 then ((highest l tick p.hold).1, true) else (want, false) from rfl)
  have HHi := Lib.hid (fun W hW => ref14_Highest A len cap l tick p.hold W hW hn h1 hp.2.2.2.2.2)
  generalize steadyq p tick want l = R at *
  clear hs
  generalize highest l tick p.hold = hh at *
  obtain ⟨bst, is⟩ := hh
  dsimp only at HQ HHi
  go_enter Try.func53, Try.ntmps53
  go_wp2_with fail
  refine (HHi.out _ (slice_keep HS.out E0.out)).mono ?_
  rintro e w1 ⟨rfl, rfl⟩
  cases is
  · have HR := Lib.hid (show R = (want, false) by rw [HQ.out]; simp)
    go_wp2
    go_ret2
    exact ⟨by rw [HR.out]; rfl, E0.out⟩
  · by_cases c : want < bst
    · have HR := Lib.hid (show R = (bst, true) by rw [HQ.out]; simp [c])
      go_wp2
      go_ret2
      exact ⟨by rw [HR.out]; rfl, E0.out⟩
    · have HR := Lib.hid (show R = (want, false) by rw [HQ.out]; simp [c])
      go_wp2
      go_ret2
      exact ⟨by rw [HR.out]; rfl, E0.out⟩
end Go.Proofs.Ytjodpffdlggjgaa
/- Plain facts on the mean that is rounded up. -/
namespace Go.Proofs.Ytjodpffdlggjgaa
set_option linter.unusedVariables false
theorem tot_low (l : List Int) (a : Int) (h0 : 0 ≤ a) (h : ∀ x ∈ l, a ≤ x) : a.toNat * l.length ≤ totq l := by
  induction l with
  | nil => simp [totq]
  | cons x l ih =>
    have h1 := ih (fun y hy => h y (by simp [hy]))
    have h2 := h x (by simp)
    simp only [totq, List.map_cons, List.sum_cons, List.length_cons, Nat.mul_add, Nat.mul_one] at *
    omega
theorem tot_high (l : List Int) (b : Int) (h : ∀ x ∈ l, x ≤ b) : totq l ≤ b.toNat * l.length := by
  induction l with
  | nil => simp [totq]
  | cons x l ih =>
    have h1 := ih (fun y hy => h y (by simp [hy]))
    have h2 := h x (by simp)
    simp only [totq, List.map_cons, List.sum_cons, List.length_cons, Nat.mul_add, Nat.mul_one] at *
    omega
theorem upq_le {n d q : Nat} (hd : 0 < d) (h : n ≤ q * d) : upq n d ≤ q := by
  have h2 := (upq_spec (n := n) (d := d) (q := upq n d) hd).2 rfl
  rcases Nat.lt_or_ge q (upq n d) with hlt | hge
  · rcases h2.2 with h3 | h3
    · omega
    · have := Nat.mul_le_mul_right d (show q ≤ upq n d - 1 by omega)
      omega
  · exact hge
theorem le_upq {n d q : Nat} (hd : 0 < d) (h : q * d ≤ n) : q ≤ upq n d := by
  have h2 := ((upq_spec (n := n) (d := d) (q := upq n d) hd).2 rfl).1
  exact Nat.le_of_mul_le_mul_right (Nat.le_trans h h2) hd
theorem mean_plain {l : List Int} (hg : ∀ x ∈ l, I64 x) (hl : 0 < l.length) : meanq l = (upq (totq l) l.length : Nat) ∧ upq (totq l) l.length ≤ 9223372036854775807 := by
  have h1 := upq_le (q := 9223372036854775807) (d := l.length) hl (by have := totq_lt l hg; rw [Nat.mul_comm]; exact this)
  refine ⟨?_, h1⟩
  unfold meanq smallQ
  rw [if_neg (by omega), if_pos (by omega)]
end Go.Proofs.Ytjodpffdlggjgaa
/- The reference's mean by halving. -/
namespace Go.Proofs.Ytjodpffdlggjgaa
open Go.RowKit
set_option linter.unusedSimpArgs false
set_option linter.unusedVariables false
set_option maxHeartbeats 4000000
set_option maxRecDepth 100000
theorem cmpN_ge (X Y : Nat) : decide (0 ≤ cmpN X Y) = decide (Y ≤ X) := by
  unfold cmpN
  rw [Bool.eq_iff_iff]
  simp only [decide_eq_true_eq]
  split <;> (try split) <;> omega
theorem ref16_atLeastN (A : Option Addr) (len cap : Nat) (l : List Int) (M : Nat) (w : World) (hs : IntsAre w A len cap l) (hg : ∀ x ∈ l, I64 x) (hn : len ≤ 1000) (hM : M ≤ 9223372036854775807) :
    Calls Try.prog 120 #[.slice A len cap, .int .i64 (M : Int)] w fun e w' => e = .returned (.bool (decide (totq l ≤ M * len))) ∧ Below w.heap.size w w' := by
  have HS := Lib.hid hs
  have HG := Lib.hid hg
  have hl := hs.1
  have hT : totq l < 2 ^ 128 := by
    have h1 := totq_lt l hg
    have h2 := Nat.mul_le_mul_right 9223372036854775807 (show l.length ≤ 1000 by omega)
    omega
  have HT := Lib.hid hT
  clear hs hg hT
  by_cases h0 : len = 0
  · have HQ := Lib.hid (show decide (totq l ≤ M * len) = true by
      have : l = [] := List.eq_nil_of_length_eq_zero (by omega)
      subst this
      simp [totq])
    have d0 : ((len : Int) == 0) = true := by simp; omega
    clear h0 hl
    go_enter Try.func120, Try.ntmps120
    go_wp2
    go_ret
    exact ⟨by rw [HQ.out]; rfl, Below.refl _ _⟩
  · have d0 : ((len : Int) == 0) = false := by simp; omega
    obtain ⟨P, hP⟩ : ∃ P, P = M * len := ⟨_, rfl⟩
    have hPl : P < 2 ^ 128 := by rw [hP]; exact mul_lt128q (by omega) (by omega)
    have HPl := Lib.hid hPl
    have HM := Lib.hid (fun W => num_MulM M len P W hP (by omega) (by omega))
    rw [← hP]
    have HTot := Lib.hid (fun W hW => num_Total A len cap l W hW HG.out (by omega))
    have hM2 : (M : Int) ≤ 9223372036854775807 := by omega
    generalize totq l = T at *
    have HC := Lib.hid (fun W => num_Cmp P T W HPl.out HT.out)
    have HR := Lib.hid (cmpN_ge P T)
    generalize cmpN P T = C at *
    clear h0 hl hP hPl
    go_enter Try.func120, Try.ntmps120
    go_wp2_with (first | (go_at_call 108; refine (HM.out _).mono ?_; rintro e v1 ⟨rfl, hb1⟩) | (refine wpList_store_fresh rfl 146 _ _ rfl _ _ _ (bitsA _) rfl rfl rfl (by rw [bitsA_size]; kernel_rfl) (info_num _) (bitsA_one _) ?_))
    have BP := Lib.hid (Blk.new v1 146 (bitsA P))
    have E1 := Lib.hid (hb1.alloc hb1.size (.cells (bitsA P) 146))
    clear hb1
    generalize v1.heap.size = g at *
    generalize v1.alloc (.cells (bitsA P) 146) = v2 at *
    refine wp_region_any (by kernel_rfl) ?_; change wpAny _ _ _ _ _ _ _ (World.drew v2); refine any_of_anyG (late := fun _ => false) (S := fun wS => Below v2.heap.size v2 wS) _ _ _ _ ?_
    have S0 := (Below.refl v2.heap.size v2).drew
    refine anyG_takes (is := [0, 1]) (vs := [_, _]) (m := 4) (listed2 := #[true, true, false, false, false, false]) (a2 := ⟨#[_, _, _, _, _, _, _, _, _, _, _, _, _, _, _, _, _, _, _, _], _⟩) (by kernel_rfl) (fun j hj => by simp at hj) (by kernel_rfl) (fun _ _ _ _ _ h => h) (Ys.cons rfl (Or.inl ⟨by rfl, fun W1 hW1 => exec_load (ty := 146) (x := .tmp 5) rfl rfl (run_loadAt_blk _ _ _ _ _ _ (BP.out.call hW1) Try.underlying146 rfl (by first | exact info_num _ | kernel_rfl))⟩) (Ys.cons rfl (Or.inl ⟨by rfl, fun W1 hW1 => by first | rfl | (go_simp; done) | (go_simp; with_reducible rfl)⟩) (Ys.nil))) (S0) (by rfl) (by rfl) ?_
    refine anyG_one (k := 2) (by kernel_rfl) rfl (by rfl) (fun Q2 hQ2 => ?_); go_wp2_with (go_at_call 137; refine (HTot.out _ (slice_keep HS.out (E1.out.trans (S0.mono E1.out.size)))).mono ?_; rintro e v3 ⟨rfl, hb3⟩); refine hQ2 _ _ (fun _ => S0.trans (hb3.mono S0.size)) ?_; clear hQ2 Q2
    have S3 := S0.trans (hb3.mono S0.size)
    refine anyG_one (k := 3) (by kernel_rfl) rfl (by rfl) (fun Q2 hQ2 => ?_); go_wp2_with (go_at_call 111; refine (HC.out _).mono ?_; rintro e v4 ⟨rfl, hb4⟩); refine hQ2 _ _ (fun _ => S3.trans (hb4.mono S3.size)) ?_; clear hQ2 Q2
    have S4 := S3.trans (hb4.mono S3.size)
    refine anyG_one (k := 4) (by kernel_rfl) rfl (by rfl) (fun Q2 hQ2 => ?_); go_wp2_with fail; refine hQ2 _ _ (fun _ => S4) ?_; clear hQ2 Q2
    refine anyG_takes (is := [5]) (vs := [_]) (m := 0) (listed2 := #[true, true, true, true, true, true]) (a2 := ⟨#[_, _, _, _, _, _, _, _, _, _, _, _, _, _, _, _, _, _, _, _], _⟩) (by kernel_rfl) (fun j hj => by simp at hj) (by kernel_rfl) (fun _ _ _ _ _ h => h) (Ys.cons rfl (Or.inl ⟨by rfl, fun W1 hW1 => by first | rfl | (go_simp; done) | (go_simp; with_reducible rfl)⟩) (Ys.nil)) (S4) (by rfl) (by rfl) ?_
    refine anyG_done (by kernel_rfl) ?_ _
    go_wp2
    go_ret
    exact ⟨ret_bool HR.out, E1.out.trans (S4.mono E1.out.size)⟩
theorem mean_least {l : List Int} (hg : ∀ x ∈ l, I64 x) (h0 : ∀ x ∈ l, 0 ≤ x) (M : Nat) : decide (totq l ≤ M * l.length) = decide (meanq l ≤ (M : Int)) ∧ 0 ≤ meanq l ∧ meanq l ≤ 9223372036854775807 := by
  by_cases hl : l.length = 0
  · have e : l = [] := List.eq_nil_of_length_eq_zero hl
    subst e
    simp [totq, meanq]
  · obtain ⟨h1, h2⟩ := mean_plain hg (by omega)
    have h3 := (upq_spec (n := totq l) (d := l.length) (q := upq (totq l) l.length) (by omega)).2 rfl
    rw [h1]
    refine ⟨?_, by omega, by omega⟩
    rw [Bool.eq_iff_iff]
    simp only [decide_eq_true_eq]
    constructor
    · intro h
      have := upq_le (by omega) h
      omega
    · intro h
      have := Nat.mul_le_mul_right l.length (show upq (totq l) l.length ≤ M by omega)
      omega
theorem ref16_atLeast (A : Option Addr) (len cap : Nat) (l : List Int) (m : Int) (w : World) (hs : IntsAre w A len cap l) (hg : ∀ x ∈ l, I64 x) (hg0 : ∀ x ∈ l, 0 ≤ x) (hn : len ≤ 1000) (h0 : 0 ≤ m) (h1 : m ≤ 9223372036854775807) :
    Calls Try.prog 120 #[.slice A len cap, .int .i64 m] w fun e w' => e = .returned (.bool (decide (meanq l ≤ m))) ∧ Below w.heap.size w w' := by
  obtain ⟨M, rfl⟩ := Int.eq_ofNat_of_zero_le h0
  have := ref16_atLeastN A len cap l M w hs hg hn (by omega)
  rw [← hs.1, (mean_least hg hg0 M).1] at this
  rw [← hs.1]
  exact this
theorem ref16_Mean (A : Option Addr) (len cap : Nat) (l : List Smp) (w : World) (hs : SmpsAre w A len cap l) (hg : ∀ x ∈ l, x.good) (hn : len ≤ 200) :
    Calls Try.prog 97 #[.slice A len cap] w fun e w' => e = .returned (.int .i64 (meanq (valq l))) ∧ Below w.heap.size w w' := by
  have HS := Lib.hid hs
  have HL := Lib.hid hs.1
  have HG := Lib.hid (fun x hx => (show I64 x by have := valq_bd hg x hx; unfold I64; omega) : ∀ x ∈ valq l, I64 x)
  have HG0 := Lib.hid (fun x hx => (valq_bd hg x hx).1 : ∀ x ∈ valq l, 0 ≤ x)
  obtain ⟨-, m0, m1⟩ := mean_least HG.out HG0.out 0
  clear hs hg
  go_enter Try.func97, Try.ntmps97
  go_wp2_with fail
  refine (ref09_Values A len cap l _ HS.out (by omega)).mono ?_
  rintro e w1 ⟨v, rfl, ho, hb1⟩
  obtain ⟨A', n', c', rfl, hn', hsl⟩ := ho.shape (fun _ => rfl)
  have hn2 : n' ≤ 200 := by rw [hn', valq_len]; have := HL.out; omega
  have SL := Lib.hid hsl
  have HB := Lib.hid hb1
  clear hn' ho hsl hb1
  have HAt := Lib.hid (fun W m hW h0 h1 => ref16_atLeast A' n' c' (valq l) m W hW HG.out HG0.out (by omega) h0 h1)
  generalize hMN : meanq (valq l) = MN at *
  have HMN := Lib.hid hMN
  clear hMN
  go_wp2
  go_loopw [4, 5] (fun lo hi wr => ∃ a b : Int, lo = .int .i64 a ∧ hi = .int .i64 b ∧ 0 ≤ a ∧ a ≤ MN ∧ MN ≤ b ∧ b ≤ 9223372036854775807 ∧ Below w1.heap.size w1 wr) (fun lo hi _ => (intOf hi - intOf lo).toNat)
  case atStart => exact ⟨0, 9223372036854775807, rfl, rfl, by omega, m0, m1, by omega, Below.refl _ _⟩
  case round =>
    obtain ⟨a, b, rfl, rfl, ha, h1, h2, h3, hbel⟩ := hrel
    by_cases hlt : a < b
    · have q1 : a ≤ a + (b - a) / 2 ∧ a + (b - a) / 2 < b := by omega
      obtain ⟨q2, q3⟩ := q1
      have HBl := Lib.hid hbel
      go_wp2_with fail
      refine (HAt.out _ _ (slice_keep SL.out HBl.out) (by omega) (by omega)).mono ?_
      rintro e w2 ⟨rfl, hb2⟩
      have E2 := Lib.hid (HBl.out.trans (hb2.mono HBl.out.size))
      clear hb2 hbel
      by_cases c : MN ≤ a + (b - a) / 2
      · go_wp2
        go_roundw
        case rel => exact ⟨_, _, rfl, rfl, ha, h1, c, by omega, E2.out⟩
        case measure => simp [intOf]; omega
      · go_wp2
        go_roundw
        case rel => exact ⟨_, _, rfl, rfl, by omega, by omega, h2, by omega, E2.out⟩
        case measure => simp [intOf]; omega
    · go_wp2
      go_ret
      exact ⟨ret_int (by rw [HMN.out]; omega), HB.out.trans (hbel.mono HB.out.size)⟩
end Go.Proofs.Ytjodpffdlggjgaa
/- The reference of package control: Near. -/
namespace Go.Proofs.Ytjodpffdlggjgaa
open Go.RowKit
set_option linter.unusedSimpArgs false
set_option linter.unusedVariables false
set_option maxHeartbeats 4000000
set_option maxRecDepth 100000
theorem ref_Near_no (p : Pol) (load now : Int) (w : World) (h : ¬ (p.okP ∧ 1 ≤ now ∧ now ≤ 1073741824)) :
    Calls Try.prog 80 #[(.agg #[.int .i64 p.min, .int .i64 p.max, .int .i64 p.target, .int .i64 p.tol, .int .i64 p.window, .int .i64 p.hold]), .int .i64 load, .int .i64 now] w fun e w' => e = .returned (.bool (nearq p load now)) ∧ Below w.heap.size w w' := by
  have HQ := Lib.hid (show nearq p load now = false from if_neg h)
  by_cases hk : p.okP
  · have e1 := polOk_true hk
    by_cases h1 : now < 1
    · clear h hk
      go_enter Try.func80, Try.ntmps80
      go_wp2_with (first | (go_at_call 49; refine (ref_Right p _).mono ?_; rw [e1]; rintro e v1 ⟨rfl, hb1⟩))
      go_ret
      exact ⟨ret_bool HQ.out.symm, Below.trans (by go_grown) (hb1.mono (by simp))⟩
    · have h2 : 1073741824 < now := by
        rcases Int.lt_or_le 1073741824 now with h3 | h3
        · exact h3
        · exact absurd ⟨hk, by omega, h3⟩ h
      clear h hk h1
      go_enter Try.func80, Try.ntmps80
      go_wp2_with (first | (go_at_call 49; refine (ref_Right p _).mono ?_; rw [e1]; rintro e v1 ⟨rfl, hb1⟩))
      go_ret
      exact ⟨ret_bool HQ.out.symm, Below.trans (by go_grown) (hb1.mono (by simp))⟩
  · have e1 := polOk_false hk
    clear h hk
    go_enter Try.func80, Try.ntmps80
    go_wp2_with (first | (go_at_call 49; refine (ref_Right p _).mono ?_; rw [e1]; rintro e v1 ⟨rfl, hb1⟩))
    go_ret
    exact ⟨ret_bool HQ.out.symm, Below.trans (by go_grown) (hb1.mono (by simp))⟩
theorem Blk.loadG2 {P : Program} {op : Oper} {a : Act} {w : World} {K : Act → World → Prop} {Q : Exit → Act → World → Prop} (ty : TypeId) (x : Operand) (ho : op.op = .load ty x)
    (g : Nat) (t : TypeId) (cs : Array Value) (d : TypeDesc) (hx : a.eval x = .pointer (some ⟨g, 0, none⟩)) (hb : Blk w g t cs) (hu : P.underlying ty = some d) (hd : (match d with | .struct _ | .array _ _ => true | _ => false) = true) (hi : (P.info? ty).map (·.size) = some cs.size)
    (h : K (a.put op.dst (.agg cs)) w) : op.wp P a w K Q := by
  unfold Oper.wp
  rw [exec_load ho hx (run_loadAt_blk w g t ty cs d hb hu hd hi)]
  exact h
theorem num_AddM (a b M : Nat) (w : World) (hM : M = a + b) (hl : M < 2 ^ 127) :
    Calls Try.prog 110 #[.agg (bitsA a), .agg (bitsA b)] w fun e w' => e = .returned (.tuple #[.agg (bitsA M), .bool true]) ∧ Below w.heap.size w w' := by
  have := num_Add a b w (by omega) (by omega)
  rw [show addRow a b = M by unfold addRow; rw [if_pos (by omega), hM], show addFits a b = true from decide_eq_true (by omega)] at this
  exact this
set_option maxHeartbeats 8000000 in
theorem ref_Near_ok (p : Pol) (load now : Int) (w : World) (hp : p.fit) (hn : I64 load) (hk : p.okP) (h1 : 1 ≤ now) (h2 : now ≤ 1073741824) :
    Calls Try.prog 80 #[(.agg #[.int .i64 p.min, .int .i64 p.max, .int .i64 p.target, .int .i64 p.tol, .int .i64 p.window, .int .i64 p.hold]), .int .i64 load, .int .i64 now] w fun e w' => e = .returned (.bool (nearq p load now)) ∧ Below w.heap.size w w' := by
  have hq : nearq p load now = (decide (hasq load ≤ shouldq p now + slackq p now) && decide (shouldq p now ≤ hasq load + slackq p now)) := if_pos ⟨hk, h1, h2⟩
  have e1 := polOk_true hk
  obtain ⟨k1, k2, k3, k4, k5, k6, k7, k8, k9⟩ := hk
  have hT := hp.2.2.1
  unfold I64 at hT
  have hLb := loadq_bd hn
  obtain ⟨L, hL⟩ := Int.eq_ofNat_of_zero_le hLb.1
  obtain ⟨n, rfl⟩ := Int.eq_ofNat_of_zero_le (show 0 ≤ now by omega)
  obtain ⟨G, hG⟩ := Int.eq_ofNat_of_zero_le (show 0 ≤ p.target by omega)
  obtain ⟨T, hTol⟩ := Int.eq_ofNat_of_zero_le k6
  obtain ⟨H, hH⟩ : ∃ H, H = L * 1000 := ⟨_, rfl⟩
  obtain ⟨O, hO⟩ : ∃ O, O = n * G := ⟨_, rfl⟩
  have hOb : O ≤ 1073741824 * 9223372036854775807 := by rw [hO]; exact Nat.mul_le_mul (by omega) (by omega)
  have q1 : hasq load = H := by unfold hasq; rw [hL, hH]; rfl
  have q2 : shouldq p n = 1000 * O := by
    unfold shouldq; rw [hG, hO]
    rw [show ((n : Int) * 1000).toNat = n * 1000 by omega, Int.toNat_natCast, Nat.mul_right_comm, Nat.mul_comm]
  have q3 : slackq p n = T * O := by
    unfold slackq; rw [hTol, hG, hO, ← Int.natCast_mul, Int.toNat_natCast, Int.toNat_natCast, Nat.mul_comm n T, Nat.mul_assoc]
  rw [q1, q2, q3] at hq
  have hTO : T * O ≤ 999 * (1073741824 * 9223372036854775807) := Nat.mul_le_mul (by omega) hOb
  have hHb : H < 2 ^ 74 := by omega
  have HQ := Lib.hid hq
  have HLd := Lib.hid (fun W => ref_Load load W)
  rw [hL] at HLd
  have HM1 := Lib.hid (fun W => num_MulM L 1000 H W hH (by omega) (by omega))
  rw [show ((1000 : Nat) : Int) = 1000 from rfl] at HM1
  have HM2 := Lib.hid (fun W => num_MulM n G O W hO (by omega) (by omega))
  have hrow : p.row = #[.int .i64 p.min, .int .i64 p.max, .int .i64 (G : Int), .int .i64 (T : Int), .int .i64 p.window, .int .i64 p.hold] := by rw [← hG, ← hTol]
  rw [hG, hTol]
  have HR := Lib.hid (fun W => ref_Right p W)
  rw [hG, hTol] at HR
  have e2 : polOk p = true := polOk_true ⟨k1, k2, k3, k4, by omega, by omega, by omega, k8, k9⟩
  rw [e2] at HR
  have bT : T ≤ 999 := by omega
  have bn1 : 1 ≤ (n : Int) := h1
  have bG : G ≤ 9223372036854775807 := by omega
  have bL : L ≤ 9223372036854775807 := by omega
  have d1 : decide ((n : Int) < 1) = false := by simp; omega
  have d2 : decide (1073741824 < (n : Int)) = false := by simp; omega
  have bn2 : (n : Int) ≤ 1073741824 := h2
  clear hT hLb hL hG hTol q1 q2 q3 hq hp hn k1 k2 k3 k4 k5 k6 k7 k8 k9 h1 h2 hH hO e1 e2
  go_enter Try.func80, Try.ntmps80
  go_wp2_with (first | (go_at_call 49; refine (HR.out _).mono ?_; rintro e v1 ⟨rfl, hb1⟩) | (go_at_call 109; refine (HLd.out _).mono ?_; rintro e w1 ⟨rfl, rfl⟩) | (go_at_call 108; (with_reducible refine (HM1.out _).mono ?_); rintro e v2 ⟨rfl, hb2⟩; have pb2 := Lib.hid (((Blk.new w 23 #[.int .i64 p.min, .int .i64 p.max, .int .i64 (G : Int), .int .i64 (T : Int), .int .i64 p.window, .int .i64 p.hold]).call hb1).call hb2); have ct2 := (pb2.out.alloc (.cells (bitsA H) 146)).cellv (i := 2) (v := .int .i64 (G : Int)) rfl; have cs2 := pb2.out.cellv (i := 2) (v := .int .i64 (G : Int)) rfl; have lt2 := pb2.out.lt) | (go_at_call 108; (with_reducible refine (HM2.out _).mono ?_); rintro e v3 ⟨rfl, hb3⟩) | (refine wpList_store_fresh rfl 146 _ _ rfl _ _ _ (bitsA _) rfl rfl rfl (by rw [bitsA_size]; kernel_rfl) (info_num _) (bitsA_one _) ?_) | (refine wpList_store_fresh2 rfl 146 _ _ rfl _ _ _ (bitsA 0) rfl _ rfl (by simp) (by rw [← zeros_num]; rfl) (by rw [bitsA_size]; kernel_rfl) (info_num _) (bitsA_one _) ?_))
  have e0 : Below w.heap.size w (w.alloc (.cells #[.int .i64 p.min, .int .i64 p.max, .int .i64 (G : Int), .int .i64 (T : Int), .int .i64 p.window, .int .i64 p.hold] 23)) := by go_grown
  have e1 := e0.trans (hb1.mono e0.size)
  have e2 := e1.trans (hb2.mono e1.size)
  have e3 := e2.alloc e2.size (.cells (bitsA H) 146)
  have e4 := e3.trans (hb3.mono e3.size)
  have e5 := ((e4.alloc e4.size (.cells (bitsA O) 146)).alloc (by have := e4.size; simp; omega) (.cells (bitsA 0) 146)).alloc (by have := e4.size; simp; omega) (.cells (bitsA 0) 146)
  have s3 := hb3.size
  simp only [World.size_alloc] at s3
  have kp := ((((pb2.out.alloc (.cells (bitsA H) 146)).call hb3).alloc (.cells (bitsA O) 146)).alloc (.cells (bitsA 0) 146)).alloc (.cells (bitsA 0) 146)
  have kh := ((((Blk.new v2 146 (bitsA H)).call hb3).alloc (.cells (bitsA O) 146)).alloc (.cells (bitsA 0) 146)).alloc (.cells (bitsA 0) 146)
  have ko := ((Blk.new v3 146 (bitsA O)).alloc (.cells (bitsA 0) 146)).alloc (.cells (bitsA 0) 146)
  have ks := (Blk.new_ v3 (.cells (bitsA O) 146) 146 (bitsA 0)).alloc (.cells (bitsA 0) 146)
  have kl := Blk.new__ v3 (.cells (bitsA O) 146) (.cells (bitsA 0) 146) 146 (bitsA 0)
  have x1 : w.heap.size < v2.heap.size := lt2
  have x2 : v2.heap.size < v3.heap.size := by omega
  clear ct2 cs2 lt2 pb2 e0 e1 e2 e3 e4 s3 hb1 hb2 hb3
  generalize hgh : v2.heap.size = gh at *
  generalize hgo : v3.heap.size = go at *
  clear hgh hgo
  generalize ((v3.alloc (.cells (bitsA O) 146)).alloc (.cells (bitsA 0) 146)).alloc (.cells (bitsA 0) 146) = W at *
  go_loopw [11] (fun i wr => ∃ k S Sl : Nat, k ≤ 1000 ∧ i = .int .i64 k ∧ S = k * O ∧ Sl = (min k T) * O ∧ Blk wr w.heap.size 23 #[.int .i64 p.min, .int .i64 p.max, .int .i64 (G : Int), .int .i64 (T : Int), .int .i64 p.window, .int .i64 p.hold] ∧ Blk wr gh 146 (bitsA H) ∧ Blk wr go 146 (bitsA O) ∧ Blk wr (go + 1) 146 (bitsA S) ∧ Blk wr (go + 1 + 1) 146 (bitsA Sl) ∧ Below w.heap.size w wr) (fun i _ => 1000 - (intOf i).toNat)
  case atStart => exact ⟨0, 0, 0, by omega, rfl, by simp, by simp, kp, kh, ko, ks, kl, e5⟩
  case round =>
    obtain ⟨k, S, Sl, hk, rfl, hS, hSl, h0, hh, ho, hs, hl, hbel⟩ := hrel
    clear kp kh ko ks kl e5
    have P0 := Lib.hid h0
    have PH := Lib.hid hh
    have PO := Lib.hid ho
    have PS := Lib.hid hs
    have PL := Lib.hid hl
    have PB := Lib.hid hbel
    clear h0 hh ho hs hl hbel
    by_cases hlt : k < 1000
    · obtain ⟨S2, hS2⟩ : ∃ S2, S2 = S + O := ⟨_, rfl⟩
      have hS3 : S2 = (k + 1) * O := by rw [hS2, hS, Nat.add_mul, Nat.one_mul]
      have hSb : S2 ≤ 1000 * (1073741824 * 9223372036854775807) := by rw [hS3]; exact Nat.mul_le_mul (by omega) hOb
      have A1 := Lib.hid (fun W => num_AddM S O S2 W hS2 (by omega))
      have HS3 := Lib.hid hS3
      by_cases hkT : k < T
      · obtain ⟨L2, hL2⟩ : ∃ L2, L2 = Sl + O := ⟨_, rfl⟩
        have hL3 : L2 = (min (k + 1) T) * O := by rw [hL2, hSl, show min k T = k by omega, show min (k + 1) T = k + 1 by omega, Nat.add_mul, Nat.one_mul]
        have hLb : L2 ≤ 1000 * (1073741824 * 9223372036854775807) := by rw [hL3]; exact Nat.mul_le_mul (by omega) hOb
        have A2 := Lib.hid (fun W => num_AddM Sl O L2 W hL2 (by omega))
        have HL3 := Lib.hid hL3
        have dkT : (k : Int) < (T : Int) := by omega
        clear hS hSl hS2 hS3 hL2 hL3 hSb hLb
        go_wp2_with (first | (refine Blk.load rfl 146 (.tmp 9) rfl (go + 1) _ _ _ rfl (PS.out) Try.underlying146 rfl (info_num _) ?_) | (refine Blk.load rfl 146 (.tmp 8) rfl go _ _ _ rfl (PO.out) Try.underlying146 rfl (info_num _) ?_) | (go_at_call 110; (with_reducible refine (A1.out _).mono ?_); rintro e v4 ⟨rfl, hb4⟩) | (refine wpList_store_row rfl 146 (.tmp 9) _ rfl (go + 1) _ _ (bitsA _) rfl rfl (PS.out.call hb4) (by rw [bitsA_size, bitsA_size]) (info_num _) (bitsA_one _) ?_; intro u5 hu5 hw5; have Q0 := Lib.hid ((P0.out.call hb4).grown hw5 (by simp; omega)); have QH := Lib.hid ((PH.out.call hb4).grown hw5 (by simp; omega)); have QO := Lib.hid ((PO.out.call hb4).grown hw5 (by simp <;> omega)); have QL := Lib.hid ((PL.out.call hb4).grown hw5 (by simp <;> omega)); have QS := Lib.hid hu5; have e6 := PB.out.trans (hb4.mono PB.out.size); have QB := Lib.hid (e6.trans (Only.below hw5 (by omega) e6.size)); have ct5 := Q0.out.cellv (i := 3) (v := .int .i64 (T : Int)) rfl; clear e6 hu5 hw5) | (refine Blk.load rfl 146 (.tmp 10) rfl (go + 1 + 1) _ _ _ rfl (QL.out) Try.underlying146 rfl (info_num _) ?_) | (refine Blk.load rfl 146 (.tmp 8) rfl go _ _ _ rfl (QO.out) Try.underlying146 rfl (info_num _) ?_) | (go_at_call 110; (with_reducible refine (A2.out _).mono ?_); rintro e v6 ⟨rfl, hb6⟩) | (refine wpList_store_row rfl 146 (.tmp 10) _ rfl (go + 1 + 1) _ _ (bitsA _) rfl rfl (QL.out.call hb6) (by rw [bitsA_size, bitsA_size]) (info_num _) (bitsA_one _) ?_; intro u7 hu7 hw7))
        go_roundw
        case rel =>
          have e8 := QB.out.trans (hb6.mono QB.out.size)
          exact ⟨k + 1, S2, L2, by omega, by go_num, HS3.out, HL3.out, (Q0.out.call hb6).grown hw7 (by simp; omega), (QH.out.call hb6).grown hw7 (by simp; omega), (QO.out.call hb6).grown hw7 (by simp <;> omega), (QS.out.call hb6).grown hw7 (by simp <;> omega), hu7, e8.trans (Only.below hw7 (by omega) e8.size)⟩
        case measure => simp [intOf]; omega
      · have hL3 : Sl = (min (k + 1) T) * O := by rw [hSl, show min k T = T by omega, show min (k + 1) T = T by omega]
        have HL3 := Lib.hid hL3
        have dkT : decide ((k : Int) < (T : Int)) = false := by simp; omega
        have dkT2 : decide (k < T) = false := by simp; omega
        clear hS hSl hS2 hS3 hL3 hSb hkT
        go_wp2_with (first | (refine Blk.load rfl 146 (.tmp 9) rfl (go + 1) _ _ _ rfl (PS.out) Try.underlying146 rfl (info_num _) ?_) | (refine Blk.load rfl 146 (.tmp 8) rfl go _ _ _ rfl (PO.out) Try.underlying146 rfl (info_num _) ?_) | (go_at_call 110; (with_reducible refine (A1.out _).mono ?_); rintro e v4 ⟨rfl, hb4⟩) | (refine wpList_store_row rfl 146 (.tmp 9) _ rfl (go + 1) _ _ (bitsA _) rfl rfl (PS.out.call hb4) (by rw [bitsA_size, bitsA_size]) (info_num _) (bitsA_one _) ?_; intro u5 hu5 hw5; have Q0 := Lib.hid ((P0.out.call hb4).grown hw5 (by simp; omega)); have ct5 := Q0.out.cellv (i := 3) (v := .int .i64 (T : Int)) rfl))
        go_roundw
        case rel =>
          have e6 := PB.out.trans (hb4.mono PB.out.size)
          exact ⟨k + 1, S2, Sl, by omega, by go_num, HS3.out, HL3.out, Q0.out, (PH.out.call hb4).grown hw5 (by simp; omega), (PO.out.call hb4).grown hw5 (by simp <;> omega), hu5, (PL.out.call hb4).grown hw5 (by simp <;> omega), e6.trans (Only.below hw5 (by omega) e6.size)⟩
        case measure => simp [intOf]; omega
    · obtain rfl : k = 1000 := by omega
      rw [show min 1000 T = T by omega] at hSl
      subst hS hSl
      have hSb : 1000 * O ≤ 1000 * (1073741824 * 9223372036854775807) := Nat.mul_le_mul (by omega) hOb
      obtain ⟨S, hS⟩ : ∃ S, S = 1000 * O := ⟨_, rfl⟩
      obtain ⟨Sl, hSl⟩ : ∃ Sl, Sl = T * O := ⟨_, rfl⟩
      rw [← hS] at PS HQ hSb
      rw [← hSl] at PL HQ hTO
      obtain ⟨U, hU⟩ : ∃ U, U = S + Sl := ⟨_, rfl⟩
      obtain ⟨D, hD⟩ : ∃ D, D = H + Sl := ⟨_, rfl⟩
      have A1 := Lib.hid (fun W => num_AddM S Sl U W hU (by omega))
      have A2 := Lib.hid (fun W => num_AddM H Sl D W hD (by omega))
      have C1 := Lib.hid (fun W => num_Cmp H U W (by omega) (by omega))
      have C2 := Lib.hid (fun W => num_Cmp S D W (by omega) (by omega))
      rw [← hU, ← hD] at HQ
      have c1 := cmpN_le H U
      have c2 := Lib.hid (cmpN_le S D)
      clear hS hSl hU hD hSb hTO hHb
      by_cases hle : H ≤ U
      · have dc : decide (cmpN H U ≤ 0) = true := by rw [c1]; exact decide_eq_true hle
        have HLE := Lib.hid (decide_eq_true hle)
        clear c1 hle
        go_wp2_with (first | (refine Blk.load rfl 146 (.tmp 9) rfl (go + 1) _ _ _ rfl (PS.out) Try.underlying146 rfl (info_num _) ?_) | (refine Blk.load rfl 146 (.tmp 10) rfl (go + 1 + 1) _ _ _ rfl (PL.out) Try.underlying146 rfl (info_num _) ?_) | (go_at_call 110; (with_reducible refine (A1.out _).mono ?_); rintro e v4 ⟨rfl, hb4⟩) | (refine wpList_store_fresh rfl 146 _ _ rfl _ _ _ (bitsA _) rfl rfl rfl (by rw [bitsA_size]; kernel_rfl) (info_num _) (bitsA_one _) ?_) | (refine Blk.load rfl 146 (.tmp 7) rfl gh _ _ _ rfl ((PH.out.call hb4).alloc _) Try.underlying146 rfl (info_num _) ?_) | (refine Blk.load rfl 146 (.tmp 10) rfl (go + 1 + 1) _ _ _ rfl ((PL.out.call hb4).alloc _) Try.underlying146 rfl (info_num _) ?_) | (go_at_call 110; (with_reducible refine (A2.out _).mono ?_); rintro e v6 ⟨rfl, hb6⟩) | (refine Blk.load rfl 146 (.tmp 7) rfl gh _ _ _ rfl ((((PH.out.call hb4).alloc _).call hb6).alloc _) Try.underlying146 rfl (info_num _) ?_) | (refine Blk.load rfl 146 (.tmp 12) rfl v4.heap.size _ _ _ rfl (((Blk.new v4 _ _).call hb6).alloc _) Try.underlying146 rfl (info_num _) ?_) | (go_at_call 111; (with_reducible refine (C1.out _).mono ?_); rintro e v8 ⟨rfl, hb8⟩))
        refine Blk.loadG2 146 (.tmp 9) rfl (go + 1) _ _ _ rfl (((((PS.out.call hb4).alloc _).call hb6).alloc _).call hb8) Try.underlying146 rfl (info_num _) ?_
        go_wp2_with fail
        refine Blk.loadG2 146 (.tmp 14) rfl v6.heap.size _ _ _ rfl ((Blk.new v6 _ _).call hb8) Try.underlying146 rfl (info_num _) ?_
        go_wp2_with (go_at_call 111; (with_reducible refine (C2.out _).mono ?_); rintro e v9 ⟨rfl, hb9⟩)
        go_ret
        have e4 := PB.out.trans (hb4.mono PB.out.size)
        have e5 := e4.alloc e4.size (.cells (bitsA U) 146)
        have e6 := e5.trans (hb6.mono e5.size)
        have e7 := e6.alloc e6.size (.cells (bitsA D) 146)
        have e8 := e7.trans (hb8.mono e7.size)
        exact ⟨ret_bool (by rw [HQ.out, ← c2.out, HLE.out]; simp), e8.trans (hb9.mono e8.size)⟩
      · have dc : decide (cmpN H U ≤ 0) = false := by rw [c1]; exact decide_eq_false hle
        have HLE := Lib.hid (decide_eq_false hle)
        clear c1 hle
        go_wp2_with (first | (refine Blk.load rfl 146 (.tmp 9) rfl (go + 1) _ _ _ rfl (PS.out) Try.underlying146 rfl (info_num _) ?_) | (refine Blk.load rfl 146 (.tmp 10) rfl (go + 1 + 1) _ _ _ rfl (PL.out) Try.underlying146 rfl (info_num _) ?_) | (go_at_call 110; (with_reducible refine (A1.out _).mono ?_); rintro e v4 ⟨rfl, hb4⟩) | (refine wpList_store_fresh rfl 146 _ _ rfl _ _ _ (bitsA _) rfl rfl rfl (by rw [bitsA_size]; kernel_rfl) (info_num _) (bitsA_one _) ?_) | (refine Blk.load rfl 146 (.tmp 7) rfl gh _ _ _ rfl ((PH.out.call hb4).alloc _) Try.underlying146 rfl (info_num _) ?_) | (refine Blk.load rfl 146 (.tmp 10) rfl (go + 1 + 1) _ _ _ rfl ((PL.out.call hb4).alloc _) Try.underlying146 rfl (info_num _) ?_) | (go_at_call 110; (with_reducible refine (A2.out _).mono ?_); rintro e v6 ⟨rfl, hb6⟩) | (refine Blk.load rfl 146 (.tmp 7) rfl gh _ _ _ rfl ((((PH.out.call hb4).alloc _).call hb6).alloc _) Try.underlying146 rfl (info_num _) ?_) | (refine Blk.load rfl 146 (.tmp 12) rfl v4.heap.size _ _ _ rfl (((Blk.new v4 _ _).call hb6).alloc _) Try.underlying146 rfl (info_num _) ?_) | (go_at_call 111; (with_reducible refine (C1.out _).mono ?_); rintro e v8 ⟨rfl, hb8⟩))
        go_ret
        have e4 := PB.out.trans (hb4.mono PB.out.size)
        have e5 := e4.alloc e4.size (.cells (bitsA U) 146)
        have e6 := e5.trans (hb6.mono e5.size)
        have e7 := e6.alloc e6.size (.cells (bitsA D) 146)
        have e8 := e7.trans (hb8.mono e7.size)
        exact ⟨ret_bool (by rw [HQ.out, HLE.out]; rfl), e8⟩
theorem ref_Near (p : Pol) (load now : Int) (w : World) (hp : p.fit) (hn : I64 load) :
    Calls Try.prog 80 #[(.agg #[.int .i64 p.min, .int .i64 p.max, .int .i64 p.target, .int .i64 p.tol, .int .i64 p.window, .int .i64 p.hold]), .int .i64 load, .int .i64 now] w fun e w' => e = .returned (.bool (nearq p load now)) ∧ Below w.heap.size w w' := by
  by_cases h : p.okP ∧ 1 ≤ now ∧ now ≤ 1073741824
  · exact ref_Near_ok p load now w hp hn h.1 h.2.1 h.2.2
  · exact ref_Near_no p load now w h
def openq (p : Pol) (load now : Int) : Int := if nearq p load now then now else wantq p load
theorem ref_Open (p : Pol) (load now : Int) (w : World) (hp : p.fit) (hn : I64 load) :
    Calls Try.prog 52 #[(.agg #[.int .i64 p.min, .int .i64 p.max, .int .i64 p.target, .int .i64 p.tol, .int .i64 p.window, .int .i64 p.hold]), .int .i64 load, .int .i64 now] w fun e w' => e = .returned (.int .i64 (openq p load now)) ∧ Below w.heap.size w w' := by
  cases h : nearq p load now
  · have HQ := Lib.hid (show openq p load now = wantq p load by unfold openq; rw [h]; rfl)
    go_enter Try.func52, Try.ntmps52
    go_wp2_with (first | (go_at_call 80; refine (ref_Near p load now _ hp hn).mono ?_; rw [h]; rintro e v1 ⟨rfl, hb1⟩; obtain ⟨hc1, hf1⟩ := bcell hb1; have hs1 := hb1.size; simp only [World.size_alloc] at hs1) | (go_at_call 81; refine (ref_Want p load _ hp hn).mono ?_; rintro e v2 ⟨rfl, hb2⟩))
    go_ret
    have e1 : Below w.heap.size w v1 := Below.trans (by go_grown) (hb1.mono (by simp))
    exact ⟨ret_int HQ.out.symm, e1.trans (hb2.mono e1.size)⟩
  · have HQ := Lib.hid (show openq p load now = now by unfold openq; rw [h]; rfl)
    go_enter Try.func52, Try.ntmps52
    go_wp2_with (first | (go_at_call 80; refine (ref_Near p load now _ hp hn).mono ?_; rw [h]; rintro e v1 ⟨rfl, hb1⟩))
    go_ret
    exact ⟨ret_int HQ.out.symm, Below.trans (by go_grown) (hb1.mono (by simp))⟩
end Go.Proofs.Ytjodpffdlggjgaa
