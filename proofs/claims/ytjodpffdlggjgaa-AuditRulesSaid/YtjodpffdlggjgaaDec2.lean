/- history.Highest, steady.Of, and the reference's. -/
import Derived.Test.YtjodpffdlggjgaaDec1
namespace Go.Proofs.Ytjodpffdlggjgaa
open Go.RowKit
set_option linter.unusedSimpArgs false
set_option linter.unusedVariables false
set_option maxHeartbeats 4000000
set_option maxRecDepth 100000
def hstep (f t : Int) (s : Int × Bool) (a : Adv) : Int × Bool := if f < a.tick ∧ a.tick ≤ t ∧ (s.2 = false ∨ s.1 < a.want) then (a.want, true) else s
def highq0 (l : List Adv) (f t : Int) : Int × Bool := l.foldl (hstep f t) (0, false)
def highest (l : List Adv) (tick hold : Int) : Int × Bool := highq0 l (satq (tick - hold)) tick
theorem high_next {l : List Adv} {k : Nat} {x : Adv} {f t : Int} (h : l[k]? = some x) : highq0 (l.take (k + 1)) f t = hstep f t (highq0 (l.take k) f t) x := by
  unfold highq0; rw [take_next h, List.foldl_append]; rfl
theorem hstep_yes {f t bst : Int} {is : Bool} {x : Adv} (h1 : f < x.tick) (h2 : x.tick ≤ t) (h3 : is = false ∨ bst < x.want) : hstep f t (bst, is) x = (x.want, true) := if_pos ⟨h1, h2, h3⟩
theorem hstep_no {f t bst : Int} {is : Bool} {x : Adv} (h : ¬ (f < x.tick ∧ x.tick ≤ t ∧ (is = false ∨ bst < x.want))) : hstep f t (bst, is) x = (bst, is) := if_neg h
theorem highq_I64 {l : List Adv} (hg : ∀ x ∈ l, x.good) (f t : Int) : I64 (highq0 l f t).1 := by
  have key : ∀ (l : List Adv), (∀ x ∈ l, x.good) → ∀ s : Int × Bool, I64 s.1 → I64 (l.foldl (hstep f t) s).1 := by
    intro l
    induction l with
    | nil => intro _ s hs; exact hs
    | cons x l ih =>
      intro hx s hs
      rw [List.foldl_cons]
      refine ih (fun y hy => hx y (by simp [hy])) _ ?_
      unfold hstep
      split
      · exact (hx x (by simp)).2.2.1
      · exact hs
  exact key l hg _ (by unfold I64; simp)
theorem history_Highest (A : Option Addr) (len cap : Nat) (l : List Adv) (tick hold : Int) (w : World) (hs : AdvsAre w A len cap l) (hn : len ≤ 1000) (h1 : I64 tick) (h2 : I64 hold) :
    Calls Try.prog 74 #[.slice A len cap, .int .i64 tick, .int .i64 hold] w fun e w' => e = .returned (.tuple #[.int .i64 (highest l tick hold).1, .bool (highest l tick hold).2]) ∧ Below w.heap.size w w' := by
  have HS := Lib.hid hs
  have HL := Lib.hid hs.1
  clear hs
  have HSub := Lib.hid (fun W => sat_Sub tick hold W h1 h2)
  have HH := Lib.hid (show highest l tick hold = highq0 l (satq (tick - hold)) tick from rfl)
  generalize satq (tick - hold) = F at *
  go_enter Try.func74, Try.ntmps74
  go_wp2_with (go_at_call 104; refine (HSub.out _).mono ?_; rintro e w4 ⟨rfl, rfl⟩)
  go_loopw [9, 10, 18] (fun bv iv i wr => ∃ k : Nat, ∃ bst : Int, ∃ is : Bool, k ≤ len ∧ i = .int .i64 k ∧ bv = .int .i64 bst ∧ iv = .bool is ∧ highq0 (l.take k) F tick = (bst, is) ∧ Below w.heap.size w wr) (fun _ _ i _ => len - (intOf i).toNat)
  case atStart => exact ⟨0, 0, false, by omega, rfl, rfl, rfl, rfl, Below.refl _ _⟩
  case round =>
    obtain ⟨k, bst, is, hk, rfl, rfl, rfl, hst, hbel⟩ := hrel
    have HST := Lib.hid hst
    clear hst
    by_cases hlt : k < len
    · obtain ⟨b, off, x, rfl, hx, hb, t0, t1, t2, t3, t4⟩ := HS.out.at_ hlt
      have kt0 := (hbel.cell (p := ⟨b, off + k * 5, none⟩) hb).trans t0
      have kt1 := (hbel.cell (p := ⟨b, off + k * 5 + 1, none⟩) hb).trans t1
      have kt2 := (hbel.cell (p := ⟨b, off + k * 5 + 2, none⟩) hb).trans t2
      have kt3 := (hbel.cell (p := ⟨b, off + k * 5 + 3, none⟩) hb).trans t3
      have kt4 := (hbel.cell (p := ⟨b, off + k * 5 + 4, none⟩) hb).trans t4
      have HN := Lib.hid (high_next (f := F) (t := tick) hx)
      have hki : (k : Int) < (len : Int) := by omega
      have HB := Lib.hid hbel
      clear hx t0 t1 t2 t3 t4 hb hbel
      by_cases c1 : F < x.tick
      · by_cases c2 : x.tick ≤ tick
        · cases is
          · have E := Lib.hid (hstep_yes (bst := bst) (is := false) c1 c2 (.inl rfl))
            go_wp2
            go_roundw
            case rel => exact ⟨k + 1, _, _, by omega, by go_num, rfl, rfl, by rw [HN.out, HST.out, E.out], HB.out.alloc HB.out.size _⟩
            case measure => simp [intOf]; omega
          · by_cases c3 : bst < x.want
            · have E := Lib.hid (hstep_yes (bst := bst) (is := true) c1 c2 (.inr c3))
              go_wp2
              go_roundw
              case rel => exact ⟨k + 1, _, _, by omega, by go_num, rfl, rfl, by rw [HN.out, HST.out, E.out], HB.out.alloc HB.out.size _⟩
              case measure => simp [intOf]; omega
            · have E := Lib.hid (hstep_no (f := F) (t := tick) (bst := bst) (is := true) (x := x) (fun h => by rcases h.2.2 with h | h <;> first | cases h | exact c3 h))
              go_wp2
              go_roundw
              case rel => exact ⟨k + 1, _, _, by omega, by go_num, rfl, rfl, by rw [HN.out, HST.out, E.out], HB.out.alloc HB.out.size _⟩
              case measure => simp [intOf]; omega
        · have E := Lib.hid (hstep_no (f := F) (t := tick) (bst := bst) (is := is) (x := x) (fun h => c2 h.2.1))
          go_wp2
          go_roundw
          case rel => exact ⟨k + 1, _, _, by omega, by go_num, rfl, rfl, by rw [HN.out, HST.out, E.out], HB.out.alloc HB.out.size _⟩
          case measure => simp [intOf]; omega
      · have E := Lib.hid (hstep_no (f := F) (t := tick) (bst := bst) (is := is) (x := x) (fun h => c1 h.1))
        go_wp2
        go_roundw
        case rel => exact ⟨k + 1, _, _, by omega, by go_num, rfl, rfl, by rw [HN.out, HST.out, E.out], HB.out.alloc HB.out.size _⟩
        case measure => simp [intOf]; omega
    · have hE : l.take k = l := List.take_of_length_le (by have := HL.out; omega)
      have HF := Lib.hid (show highest l tick hold = (bst, is) by rw [HH.out, ← hE]; exact HST.out)
      clear hE
      go_wp2
      go_ret2
      exact ⟨by rw [HF.out]; rfl, hbel⟩
theorem ref14_Highest (A : Option Addr) (len cap : Nat) (l : List Adv) (tick hold : Int) (w : World) (hs : AdvsAre w A len cap l) (hn : len ≤ 1000) (h1 : I64 tick) (h2 : I64 hold) :
    Calls Try.prog 82 #[.slice A len cap, .int .i64 tick, .int .i64 hold] w fun e w' => e = .returned (.tuple #[.int .i64 (highest l tick hold).1, .bool (highest l tick hold).2]) ∧ w = w' := by
  have HS := Lib.hid hs
  have HL := Lib.hid hs.1
  clear hs
  have HSub := Lib.hid (fun W => ref_Sub tick hold W h1 h2)
  have HH := Lib.hid (show highest l tick hold = highq0 l (satq (tick - hold)) tick from rfl)
  generalize satq (tick - hold) = F at *
  go_enter Try.func82, Try.ntmps82
  go_wp2_with (go_at_call 113; refine (HSub.out _).mono ?_; rintro e w4 ⟨rfl, rfl⟩)
  go_loop [8, 9, 11] (fun bv iv i => ∃ k : Nat, ∃ bst : Int, ∃ is : Bool, k ≤ len ∧ i = .int .i64 k ∧ bv = .int .i64 bst ∧ iv = .bool is ∧ highq0 (l.take k) F tick = (bst, is)) (fun _ _ i => len - (intOf i).toNat)
  case atStart => exact ⟨0, 0, false, by omega, rfl, rfl, rfl, rfl⟩
  case round =>
    obtain ⟨k, bst, is, hk, rfl, rfl, rfl, hst⟩ := hrel
    have HST := Lib.hid hst
    clear hst
    by_cases hlt : k < len
    · obtain ⟨b, off, x, rfl, hx, hb, t0, t1, t2, t3, t4⟩ := HS.out.at_ hlt
      have HN := Lib.hid (high_next (f := F) (t := tick) hx)
      have hki : (k : Int) < (len : Int) := by omega
      clear hx t1 t3 t4 hb
      by_cases c1 : F < x.tick
      · by_cases c2 : x.tick ≤ tick
        · cases is
          · have E := Lib.hid (hstep_yes (bst := bst) (is := false) c1 c2 (.inl rfl))
            go_wp2
            go_round
            case rel => exact ⟨k + 1, _, _, by omega, by go_num, rfl, rfl, by rw [HN.out, HST.out, E.out]⟩
            case measure => simp [intOf]; omega
          · by_cases c3 : bst < x.want
            · have E := Lib.hid (hstep_yes (bst := bst) (is := true) c1 c2 (.inr c3))
              go_wp2
              go_round
              case rel => exact ⟨k + 1, _, _, by omega, by go_num, rfl, rfl, by rw [HN.out, HST.out, E.out]⟩
              case measure => simp [intOf]; omega
            · have E := Lib.hid (hstep_no (f := F) (t := tick) (bst := bst) (is := true) (x := x) (fun h => by rcases h.2.2 with h | h <;> first | cases h | exact c3 h))
              go_wp2
              go_round
              case rel => exact ⟨k + 1, _, _, by omega, by go_num, rfl, rfl, by rw [HN.out, HST.out, E.out]⟩
              case measure => simp [intOf]; omega
        · have E := Lib.hid (hstep_no (f := F) (t := tick) (bst := bst) (is := is) (x := x) (fun h => c2 h.2.1))
          go_wp2
          go_round
          case rel => exact ⟨k + 1, _, _, by omega, by go_num, rfl, rfl, by rw [HN.out, HST.out, E.out]⟩
          case measure => simp [intOf]; omega
      · have E := Lib.hid (hstep_no (f := F) (t := tick) (bst := bst) (is := is) (x := x) (fun h => c1 h.1))
        go_wp2
        go_round
        case rel => exact ⟨k + 1, _, _, by omega, by go_num, rfl, rfl, by rw [HN.out, HST.out, E.out]⟩
        case measure => simp [intOf]; omega
    · have hE : l.take k = l := List.take_of_length_le (by have := HL.out; omega)
      have HF := Lib.hid (show highest l tick hold = (bst, is) by rw [HH.out, ← hE]; exact HST.out)
      clear hE
      go_wp2
      go_ret2
      exact ⟨by rw [HF.out]; rfl, rfl⟩
def steadyq (p : Pol) (tick want : Int) (past : List Adv) : Int × Bool := if (highest past tick p.hold).2 = true ∧ want < (highest past tick p.hold).1 then ((highest past tick p.hold).1, true) else (want, false)
theorem steady_Of (p : Pol) (tick want : Int) (A : Option Addr) (len cap : Nat) (l : List Adv) (w : World) (hp : p.fit) (hs : AdvsAre w A len cap l) (hn : len ≤ 1000) (h1 : I64 tick) :
    Calls Try.prog 44 #[(.agg #[.int .i64 p.min, .int .i64 p.max, .int .i64 p.target, .int .i64 p.tol, .int .i64 p.window, .int .i64 p.hold]), .int .i64 tick, .int .i64 want, .slice A len cap] w fun e w' => e = .returned (.tuple #[.int .i64 (steadyq p tick want l).1, .bool (steadyq p tick want l).2]) ∧ Below w.heap.size w w' := by
  have HS := Lib.hid hs
  have E0 := Lib.hid (show Below w.heap.size w (w.alloc (.cells p.row 23)) by go_grown)
  have HQ := Lib.hid (show steadyq p tick want l = if (highest l tick p.hold).2 = true ∧ want < (highest l tick p.hold).1 then ((highest l tick p.hold).1, true) else (want, false) from rfl)
  have HHi := Lib.hid (fun W hW => history_Highest A len cap l tick p.hold W hW hn h1 hp.2.2.2.2.2)
  generalize steadyq p tick want l = R at *
  clear hs
  generalize highest l tick p.hold = hh at *
  obtain ⟨bst, is⟩ := hh
  dsimp only at HQ HHi
  go_enter Try.func44, Try.ntmps44
  go_wp2_with fail
  refine (HHi.out _ (slice_keep HS.out E0.out)).mono ?_
  rintro e w1 ⟨rfl, hb1⟩
  have E1 := Lib.hid (E0.out.trans (hb1.mono E0.out.size))
  clear hb1
  cases is
  · have HR := Lib.hid (show R = (want, false) by rw [HQ.out]; simp)
    go_wp2
    go_ret2
    exact ⟨by rw [HR.out]; rfl, E1.out⟩
  · by_cases c : want < bst
    · have HR := Lib.hid (show R = (bst, true) by rw [HQ.out]; simp [c])
      go_wp2
      go_ret2
      exact ⟨by rw [HR.out]; rfl, E1.out⟩
    · have HR := Lib.hid (show R = (want, false) by rw [HQ.out]; simp [c])
      go_wp2
      go_ret2
      exact ⟨by rw [HR.out]; rfl, E1.out⟩
theorem ref15_Of (p : Pol) (tick want : Int) (A : Option Addr) (len cap : Nat) (l : List Adv) (w : World) (hp : p.fit) (hs : AdvsAre w A len cap l) (hn : len ≤ 1000) (h1 : I64 tick) :
    Calls Try.prog 53 #[(.agg #[.int .i64 p.min, .int .i64 p.max, .int .i64 p.target, .int .i64 p.tol, .int .i64 p.window, .int .i64 p.hold]), .int .i64 tick, .int .i64 want, .slice A len cap] w fun e w' => e = .returned (.tuple #[.int .i64 (steadyq p tick want l).1, .bool (steadyq p tick want l).2]) ∧ Below w.heap.size w w' := by
  have HS := Lib.hid hs
  have E0 := Lib.hid (show Below w.heap.size w (w.alloc (.cells p.row 23)) by go_grown)
  have HQ := Lib.hid (show steadyq p tick want l = if (highest l tick p.hold).2 = true ∧ want < (highest l tick p.hold).1 then ((highest l tick p.hold).1, true) else (want, false) from rfl)
  have HHi := Lib.hid (fun W hW => ref14_Highest A len cap l tick p.hold W hW hn h1 hp.2.2.2.2.2)
  generalize steadyq p tick want l = R at *
  clear hs
  generalize highest l tick p.hold = hh at *
  obtain ⟨bst, is⟩ := hh
  dsimp only at HQ HHi
  go_enter Try.func53, Try.ntmps53
  go_wp2_with fail
  refine (HHi.out _ (slice_keep HS.out E0.out)).mono ?_
  rintro e w1 ⟨rfl, rfl⟩
  cases is
  · have HR := Lib.hid (show R = (want, false) by rw [HQ.out]; simp)
    go_wp2
    go_ret2
    exact ⟨by rw [HR.out]; rfl, E0.out⟩
  · by_cases c : want < bst
    · have HR := Lib.hid (show R = (bst, true) by rw [HQ.out]; simp [c])
      go_wp2
      go_ret2
      exact ⟨by rw [HR.out]; rfl, E0.out⟩
    · have HR := Lib.hid (show R = (want, false) by rw [HQ.out]; simp [c])
      go_wp2
      go_ret2
      exact ⟨by rw [HR.out]; rfl, E0.out⟩
end Go.Proofs.Ytjodpffdlggjgaa
