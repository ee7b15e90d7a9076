/- Several texts in one. -/
import Derived.Test.YtjodpffdlggjgaaKLoopKeeps2
import Derived.Test.YtjodpffdlggjgaaSmp
import Derived.StillTailTactics
import Derived.Test.YtjodpffdlggjgaaMean
import Derived.Test.YtjodpffdlggjgaaControl
import Derived.Test.YtjodpffdlggjgaaTotal
/- Package history: New, kept, List, Add. -/
namespace Go.Proofs.Ytjodpffdlggjgaa
open Go.RowKit
set_option linter.unusedSimpArgs false
set_option linter.unusedVariables false
set_option maxHeartbeats 4000000
set_option maxRecDepth 100000
/-- What the last decisions are behind one more; none where there is no room that may be. -/
def hush (l : List Adv) (room : Int) (x : Adv) : List Adv := if 1 ≤ room ∧ room ≤ 64 then pushq l room.toNat x else []
/-- The ring of a history. -/
def RingOf (w : World) (q p : Option Addr) (F : Nat → Prop) (xs : List Adv) (room : Int) : Prop :=
  (p = none ∧ q = none ∧ xs = [] ∧ (room < 1 ∨ 64 < room)) ∨ ∃ (h g : Nat) (v : Value) (ph : List Adv) (fr rm : Nat), q = some ⟨g, 0, none⟩ ∧ p = some ⟨h, 0, none⟩ ∧ room = rm ∧ 1 ≤ rm ∧ rm ≤ 64 ∧ Blk w h 127 #[.pointer (some ⟨g, 0, none⟩)] ∧ RingAt w g v ph fr rm ∧ F h ∧ h ≠ g ∧ v.ownBlock ≠ some h ∧ (∀ k, foot g v k → F k) ∧ xs = ringq ph fr
/-- p is a history (or none), in the blocks F. -/
def HistAt (w : World) (p : Option Addr) (F : Nat → Prop) (xs : List Adv) (room : Int) : Prop :=
  ((p = none ∧ xs = [] ∧ (room < 1 ∨ 64 < room)) ∨ ∃ (h g : Nat) (v : Value) (ph : List Adv) (fr rm : Nat), p = some ⟨h, 0, none⟩ ∧ room = rm ∧ 1 ≤ rm ∧ rm ≤ 64 ∧ Blk w h 127 #[.pointer (some ⟨g, 0, none⟩)] ∧ RingAt w g v ph fr rm ∧ F h ∧ h ≠ g ∧ v.ownBlock ≠ some h ∧ (∀ k, foot g v k → F k) ∧ xs = ringq ph fr) ∧ ∀ k, F k → k < w.heap.size
theorem HistAt.upd {S F : Nat → Prop} {w w' : World} {p : Option Addr} {xs : List Adv} {room : Int} (h : HistAt w p F xs room) (hu : Upd S w w') (hn : ∀ k, F k → ¬ S k) : HistAt w' p F xs room := by
  refine ⟨?_, fun k hk => Nat.lt_of_lt_of_le (h.2 k hk) hu.size⟩
  rcases h.1 with h | ⟨h, g, v, ph, fr, rm, e1, e2, e3, e4, e5, e6, e7, e8, e9, e10, e11⟩
  · exact .inl h
  · exact .inr ⟨h, g, v, ph, fr, rm, e1, e2, e3, e4, e5.upd hu (hn _ e7), e6.upd hu (fun k hk => hn k (e10 k hk)), e7, e8, e9, e10, e11⟩
theorem HistAt.call {F : Nat → Prop} {w w' : World} {p : Option Addr} {xs : List Adv} {room : Int} (h : HistAt w p F xs room) (hb : Below w.heap.size w w') : HistAt w' p F xs room :=
  h.upd (S := fun _ => False) (Upd.of_below hb) (fun _ _ hk => hk)
theorem HistAt.len {F : Nat → Prop} {w : World} {p : Option Addr} {xs : List Adv} {room : Int} (h : HistAt w p F xs room) : xs.length ≤ 64 := by
  rcases h.1 with ⟨-, rfl, -⟩ | ⟨h, g, v, ph, fr, rm, e1, e2, e3, e4, e5, e6, e7, e8, e9, e10, rfl⟩
  · simp
  · rw [ringq_len ph fr rm e6.2.2.2]; exact Nat.le_trans e6.2.2.2.1 e4
def NewH (w : World) (room : Int) (e : Ending) (w' : World) : Prop := ∃ p F, e = .returned (.pointer p) ∧ HistAt w' p F [] room ∧ (∀ k, F k → w.heap.size ≤ k) ∧ Below w.heap.size w w'
theorem history_New (room : Int) (w : World) (h0 : I64 room) :
    Calls Try.prog 59 #[.int .i64 room] w (NewH w room) := by
  by_cases hr : room < 1 ∨ 64 < room
  · have hd : (decide (room < 1) = true) ∨ (decide (room < 1) = false ∧ decide (64 < room) = true) := by
      rcases hr with h | h
      · exact .inl (by simp; omega)
      · by_cases h2 : room < 1
        · exact .inl (by simp; omega)
        · exact .inr ⟨by simp; omega, by simp; omega⟩
    have HR := Lib.hid hr
    clear hr
    rcases hd with d1 | ⟨d1, d2⟩
    · go_enter Try.func59, Try.ntmps59
      go_wp2
      go_ret
      exact ⟨none, fun _ => False, rfl, ⟨.inl ⟨rfl, rfl, HR.out⟩, fun _ hk => hk.elim⟩, fun _ hk => hk.elim, by go_grown⟩
    · go_enter Try.func59, Try.ntmps59
      go_wp2
      go_ret
      exact ⟨none, fun _ => False, rfl, ⟨.inl ⟨rfl, rfl, HR.out⟩, fun _ hk => hk.elim⟩, fun _ hk => hk.elim, by go_grown⟩
  · obtain ⟨rm, rfl⟩ : ∃ rm : Nat, room = rm := ⟨room.toNat, by omega⟩
    have d1 : decide ((rm : Int) < 1) = false := by simp; omega
    have d2 : decide ((64 : Int) < (rm : Int)) = false := by simp; omega
    have d1' : ¬ rm < 1 := by omega
    have d2' : ¬ 64 < rm := by omega
    have HC := Lib.hid (fun w => ring_New rm w (by omega) (by omega))
    have HN := Lib.hid (fun w => RingAt.new w rm (by omega))
    clear hr
    go_enter Try.func59, Try.ntmps59
    go_wp2_with (go_at_call 88; refine (HC.out _).mono ?_; rintro e w1 ⟨rfl, rfl⟩)
    go_ret
    have hB := Blk.new (w.alloc (.cells #[.slice none 0 0, .int .i64 0, .int .i64 rm] 154)) 127 #[.pointer (some ⟨w.heap.size, 0, none⟩)]
    rw [World.size_alloc] at hB
    refine ⟨_, fun k => k = w.heap.size ∨ k = w.heap.size + 1, rfl, ⟨.inr ⟨w.heap.size + 1, w.heap.size, .slice none 0 0, [], 0, rm, rfl, rfl, by omega, by omega, hB, (HN.out w).call (by go_grown), .inr rfl, by omega, by simp [Value.ownBlock], ?_, rfl⟩, ?_⟩, ?_, by go_grown⟩
    · rintro k (rfl | hk)
      · exact .inl rfl
      · simp [Value.ownBlock] at hk
    · rintro k (rfl | rfl) <;> (simp; try omega)
    · rintro k (rfl | rfl) <;> omega
theorem history_kept (p : Option Addr) (F : Nat → Prop) (xs : List Adv) (room : Int) (w : World) (h : HistAt w p F xs room) :
    Calls Try.prog 89 #[.pointer p] w fun e w' => ∃ q, e = .returned (.pointer q) ∧ w = w' ∧ RingOf w q p F xs room := by
  rcases h.1 with ⟨rfl, e2⟩ | ⟨hh, g, v, ph, fr, rm, rfl, e2, e3, e4, e5, rest⟩
  · have HE := Lib.hid e2
    clear e2 h
    go_enter Try.func89, Try.ntmps89
    go_wp2
    go_ret
    exact ⟨none, rfl, rfl, .inl ⟨rfl, rfl, HE.out⟩⟩
  · have c0 := e5.cellv (i := 0) rfl
    have HE := Lib.hid (show RingOf w (some ⟨g, 0, none⟩) (some ⟨hh, 0, none⟩) F xs room from .inr ⟨hh, g, v, ph, fr, rm, rfl, rfl, e2, e3, e4, e5, rest⟩)
    clear e2 e3 e4 e5 rest
    go_enter Try.func89, Try.ntmps89
    go_wp2
    go_ret
    exact ⟨_, rfl, rfl, HE.out⟩
theorem RingOf.ringV {w : World} {q p : Option Addr} {F : Nat → Prop} {xs : List Adv} {room : Int} (h : RingOf w q p F xs room) : RingV w q w.heap.size xs := by
  rcases h with ⟨-, rfl, rfl, -⟩ | ⟨h, g, v, ph, fr, rm, rfl, -, -, e3, e4, e5, e6, e7, e8, e9, e10, rfl⟩
  · exact .inl ⟨rfl, rfl⟩
  · exact .inr ⟨g, v, ph, fr, rm, rfl, e6, by omega, e6.lt, rfl⟩
theorem history_List (p : Option Addr) (F : Nat → Prop) (xs : List Adv) (room : Int) (w : World) (h : HistAt w p F xs room) :
    Calls Try.prog 60 #[.pointer p] w fun e w' => ∃ v, e = .returned v ∧ OwnA w' w.heap.size v xs ∧ Below w.heap.size w w' := by
  have HH := Lib.hid h
  clear h
  go_enter Try.func60, Try.ntmps60
  go_wp2_with (first | (go_at_call 89; refine (history_kept p F xs room _ HH.out).mono ?_; rintro e w1 ⟨q, rfl, rfl, hq⟩; have HQ := Lib.hid hq.ringV; clear hq) | (go_at_call 90; refine (ring_List q xs _ HQ.out).mono ?_; rintro e w2 ⟨v, rfl, hv⟩; have HV := Lib.hid hv; clear hv))
  go_ret
  exact ⟨v, rfl, HV.out⟩
/-- Behind a push. -/
def PushPost (q p : Option Addr) (F : Nat → Prop) (xs : List Adv) (room : Int) (x : Adv) (w : World) (e : Ending) (w' : World) : Prop := ∃ y b F' q2, e = .returned (.tuple #[.agg y, .bool b]) ∧ RingOf w' q2 p F' (hush xs room x) room ∧ q2 = q ∧ (∀ k, F' k → k < w'.heap.size) ∧ Upd F w w' ∧ ∀ k, F' k → F k ∨ w.heap.size ≤ k
theorem ring_Push (q p : Option Addr) (F : Nat → Prop) (xs : List Adv) (room : Int) (x : Adv) (w : World) (hq : RingOf w q p F xs room) (hF : ∀ k, F k → k < w.heap.size) :
    Calls Try.prog 91 #[.pointer q, .agg (rowA x)] w (PushPost q p F xs room x w) := by
  rcases hq with ⟨rfl, rfl, rfl, hr⟩ | ⟨h, g, v, ph, fr, rm, rfl, rfl, rfl, e3, e4, e5, e6, e7, e8, e9, e10, rfl⟩
  · refine (ring_Push_nil x w).mono ?_
    rintro e w' ⟨rfl, hb⟩
    refine ⟨_, _, F, none, rfl, .inl ⟨rfl, rfl, ?_, hr⟩, rfl, fun k hk => Nat.lt_of_lt_of_le (hF k hk) hb.size, Upd.of_below hb, fun k hk => .inl hk⟩
    unfold hush; rw [if_neg (by omega)]
  · have key : ∀ ph' fr' e w', RingPost g v ph' fr' rm w e w' → ringq ph' fr' = pushq (ringq ph fr) rm x → PushPost (some ⟨g, 0, none⟩) (some ⟨h, 0, none⟩) F (ringq ph fr) rm x w e w' := by
      rintro ph' fr' e w' ⟨v', y, b, rfl, p1, p2, p3⟩ hpq
      have hnf : ¬ foot g v h := by
        rintro (rfl | hk)
        · exact e8 rfl
        · exact e9 hk
      have hn2 : ¬ foot g v' h := fun hf => by
        rcases p3 h hf with h1 | h1
        · exact hnf h1
        · have := e5.lt; omega
      refine ⟨y, b, fun k => F k ∨ foot g v' k, _, rfl, .inr ⟨h, g, v', ph', fr', rm, rfl, rfl, rfl, e3, e4, e5.upd p2 hnf, p1, .inl e7, e8, fun hk => hn2 (.inr hk), fun k hk => .inr hk, ?_⟩, rfl, ?_, p2.mono e10, ?_⟩
      · unfold hush; rw [if_pos (by omega), hpq]; simp
      · rintro k (hk | hk)
        · exact Nat.lt_of_lt_of_le (hF k hk) p2.size
        · exact p1.lt k hk
      · rintro k (hk | hk)
        · exact .inl hk
        · exact (p3 k hk).imp (e10 k) id
    by_cases hl : ph.length < rm
    · exact (ring_Push_room g v ph fr rm x w e6 (by omega) hl).mono fun e w' hp => key _ _ e w' hp (ring_room e6.2.2.2 hl x).2
    · have hl2 : ph.length = rm := by have := e6.2.2.2.1; omega
      exact (ring_Push_full g v ph fr rm x w e6 (by omega) hl2).mono fun e w' hp => key _ _ e w' hp (ring_full e6.2.2.2 hl2 x).2
def AddPost (p : Option Addr) (F : Nat → Prop) (xs : List Adv) (room : Int) (x : Adv) (w : World) (e : Ending) (w' : World) : Prop := ∃ F', e = .returned (.bool (decide (1 ≤ room ∧ room ≤ 64))) ∧ HistAt w' p F' (hush xs room x) room ∧ Upd F w w' ∧ ∀ k, F' k → F k ∨ w.heap.size ≤ k
theorem RingOf.hist {w : World} {q p : Option Addr} {F : Nat → Prop} {xs : List Adv} {room : Int} (h : RingOf w q p F xs room) (hF : ∀ k, F k → k < w.heap.size) : HistAt w p F xs room := by
  refine ⟨?_, hF⟩
  rcases h with ⟨h1, -, h2⟩ | ⟨h, g, v, ph, fr, rm, -, rest⟩
  · exact .inl ⟨h1, h2⟩
  · exact .inr ⟨h, g, v, ph, fr, rm, rest⟩
theorem RingOf.upd {S F : Nat → Prop} {w w' : World} {q p : Option Addr} {xs : List Adv} {room : Int} (h : RingOf w q p F xs room) (hu : Upd S w w') (hn : ∀ k, F k → ¬ S k) : RingOf w' q p F xs room := by
  rcases h with h | ⟨h, g, v, ph, fr, rm, e0, e1, e2, e3, e4, e5, e6, e7, e8, e9, e10, e11⟩
  · exact .inl h
  · exact .inr ⟨h, g, v, ph, fr, rm, e0, e1, e2, e3, e4, e5.upd hu (hn _ e7), e6.upd hu (fun k hk => hn k (e10 k hk)), e7, e8, e9, e10, e11⟩
/-- How many a ring has: some, behind a push, just where there is room. -/
theorem ring_Len_of (q p : Option Addr) (F : Nat → Prop) (xs : List Adv) (room : Int) (w : World) (hq : RingOf w q p F xs room) :
    Calls Try.prog 92 #[.pointer q] w fun e w' => e = .returned (.int .i64 xs.length) ∧ w = w' := by
  rcases hq with ⟨rfl, rfl, rfl, hr⟩ | ⟨h, g, v, ph, fr, rm, rfl, rfl, rfl, e3, e4, e5, e6, e7, e8, e9, e10, rfl⟩
  · exact ring_Len_nil w
  · rw [ringq_len ph fr rm e6.2.2.2]; exact ring_Len g v ph fr rm w e6
theorem hush_some {w : World} {q p : Option Addr} {F : Nat → Prop} {xs : List Adv} {room : Int} (h : RingOf w q p F xs room) (x : Adv) : decide (0 < (hush xs room x).length) = decide (1 ≤ room ∧ room ≤ 64) := by
  unfold hush
  split
  · rename_i hr
    obtain ⟨rm, rfl⟩ : ∃ rm : Nat, room = rm := ⟨room.toNat, by omega⟩
    have hl : xs.length ≤ rm := by
      rcases h with ⟨-, -, rfl, h⟩ | ⟨h, g, v, ph, fr, rm', -, -, e2, e3, e4, e5, e6, e7, e8, e9, e10, rfl⟩
      · simp
      · rw [ringq_len ph fr rm' e6.2.2.2]; have := e6.2.2.2.1; omega
    have h1 := (push_len (x := x) hl (by omega)).2
    rw [Int.toNat_natCast, decide_eq_true (show 0 < (pushq xs rm x).length by omega), decide_eq_true hr]
  · rename_i hr
    rw [decide_eq_false hr]
    rfl
theorem history_Add (p : Option Addr) (F : Nat → Prop) (xs : List Adv) (room : Int) (x : Adv) (w : World) (h : HistAt w p F xs room) :
    Calls Try.prog 61 #[.pointer p, .agg (rowA x)] w (AddPost p F xs room x w) := by
  have HH := Lib.hid (h.call (show Below w.heap.size w (w.alloc (.cells (rowA x) 26)) by go_grown))
  have HF := Lib.hid h.2
  clear h
  go_enter Try.func61, Try.ntmps61
  go_wp2_with (first | (go_at_call 89; refine (history_kept p F xs room _ HH.out).mono ?_; rintro e w1 ⟨q, rfl, rfl, hq⟩; have HQ := Lib.hid hq; clear hq) | (go_at_call 91; refine (ring_Push q p F xs room x _ HQ.out HH.out.2).mono ?_; rintro e w2 ⟨y, b, F', q2, rfl, hp1, rfl, hp2⟩; have P1 := Lib.hid hp1; have P2 := Lib.hid hp2; clear hp1 hp2) | (go_at_call 92; refine (ring_Len_of _ p F' _ room _ P1.out).mono ?_; rintro e w3 ⟨rfl, rfl⟩))
  go_ret
  refine ⟨F', ?_, P1.out.hist P2.out.1, ?_, ?_⟩
  · rw [hush_some HQ.out x]
    rfl
  · exact (Upd.of_below (by go_grown)).trans P2.out.2.1 (fun k hk => .inl hk)
  · exact fun k hk => (P2.out.2.2 k hk).imp id (fun h => by simp at h; omega)
end Go.Proofs.Ytjodpffdlggjgaa
/- window.Cut, window.Values, and the reference's. -/
namespace Go.Proofs.Ytjodpffdlggjgaa
open Go.RowKit
set_option linter.unusedSimpArgs false
set_option linter.unusedVariables false
set_option maxHeartbeats 2000000
set_option maxRecDepth 100000

def inq (f t : Int) (x : Smp) : Bool := decide (f ≤ x.tick) && decide (x.tick ≤ t)
def cutq (l : List Smp) (f t : Int) : List Smp := l.filter (inq f t)
theorem cutq_len (l : List Smp) (f t : Int) : (cutq l f t).length ≤ l.length := List.length_filter_le _ _
theorem cutq_yes {l : List Smp} {f t : Int} {k : Nat} {x : Smp} (h : l[k]? = some x) (h1 : f ≤ x.tick) (h2 : x.tick ≤ t) : cutq (l.take (k + 1)) f t = cutq (l.take k) f t ++ [x] := by
  rw [take_next h]; unfold cutq; rw [List.filter_append]; congr 1
  simp [inq, h1, h2]
theorem cutq_no {l : List Smp} {f t : Int} {k : Nat} {x : Smp} (h : l[k]? = some x) (h1 : ¬ (f ≤ x.tick ∧ x.tick ≤ t)) : cutq (l.take (k + 1)) f t = cutq (l.take k) f t := by
  rw [take_next h]; unfold cutq; rw [List.filter_append]
  have : inq f t x = false := by
    unfold inq
    rcases Int.lt_or_le x.tick f with h2 | h2
    · simp; omega
    · simp; omega
  simp [this]
theorem window_Cut (A : Option Addr) (len cap : Nat) (l : List Smp) (f t : Int) (w : World) (hs : SmpsAre w A len cap l) (hn : len ≤ 1000) :
    Calls Try.prog 117 #[.slice A len cap, .int .i64 f, .int .i64 t] w fun e w' => ∃ v, e = .returned v ∧ OwnS w' w.heap.size v (cutq l f t) ∧ Below w.heap.size w w' := by
  have HS := Lib.hid hs
  have HL := Lib.hid hs.1
  clear hs
  go_enter Try.func117, Try.ntmps117
  go_wp2
  go_loopw [7, 12] (fun v i wr => ∃ k : Nat, k ≤ len ∧ i = .int .i64 k ∧ OwnS wr w.heap.size v (cutq (l.take k) f t) ∧ Below w.heap.size w wr) (fun _ i _ => len - (intOf i).toNat)
  case atStart => exact ⟨0, Nat.zero_le _, rfl, Own.nil _ _ _ _ _, Below.refl _ _⟩
  case round =>
    obtain ⟨k, hk, rfl, hown, hbel⟩ := hrel
    by_cases hlt : k < len
    · obtain ⟨b, off, x, rfl, hx, hb, t0, t1⟩ := HS.out.at_ hlt
      have kt0 := (hbel.cell (p := ⟨b, off + k * 2, none⟩) hb).trans t0
      have kt1 := (hbel.cell (p := ⟨b, off + k * 2 + 1, none⟩) hb).trans t1
      have hle : (cutq (l.take k) f t).length < 1000000 := by
        have h1 := cutq_len (l.take k) f t
        have h2 : (l.take k).length ≤ l.length := by rw [List.length_take]; omega
        have h3 := HL.out
        omega
      have hki : (k : Int) < (len : Int) := by omega
      have HX := Lib.hid hx
      have HB := Lib.hid hbel
      clear hx hb t0 t1
      by_cases h1 : f ≤ x.tick
      · by_cases h2 : x.tick ≤ t
        · have HN := Lib.hid (cutq_yes HX.out h1 h2)
          have hsz := hbel.size
          clear hbel
          go_wp2_with (at_builtin; refine push_smp _ rfl _ _ rfl w.heap.size _ _ rfl ((hown.alloc _).alloc _) (wr.heap.size + 1) _ 1 x rfl (Blk.new2 wr _ _ _) hle (by simp; omega) ?_; intro v2 w2 ho2 hb2 hg2)
          go_roundw
          case rel => exact ⟨k + 1, by omega, by go_num, by rw [HN.out]; exact ho2, ((HB.out.alloc HB.out.size _).alloc (by simp; omega) _).trans hb2⟩
          case measure => simp [intOf]; omega
        · have HN := Lib.hid (cutq_no (f := f) (t := t) HX.out (fun h => h2 h.2))
          clear hbel
          go_wp2
          go_roundw
          case rel => exact ⟨k + 1, by omega, by go_num, by rw [HN.out]; exact hown.alloc _, HB.out.alloc HB.out.size _⟩
          case measure => simp [intOf]; omega
      · have HN := Lib.hid (cutq_no (f := f) (t := t) HX.out (fun h => h1 h.1))
        clear hbel
        go_wp2
        go_roundw
        case rel => exact ⟨k + 1, by omega, by go_num, by rw [HN.out]; exact hown.alloc _, HB.out.alloc HB.out.size _⟩
        case measure => simp [intOf]; omega
    · have hE : l.take k = l := List.take_of_length_le (by have := HL.out; omega)
      rw [hE] at hown
      clear hE
      go_wp2
      go_ret
      exact ⟨_, rfl, hown, hbel⟩
theorem ref09_Cut (A : Option Addr) (len cap : Nat) (l : List Smp) (f t : Int) (w : World) (hs : SmpsAre w A len cap l) (hn : len ≤ 1000) :
    Calls Try.prog 98 #[.slice A len cap, .int .i64 f, .int .i64 t] w fun e w' => ∃ v, e = .returned v ∧ OwnS w' w.heap.size v (cutq l f t) ∧ Below w.heap.size w w' := by
  have HS := Lib.hid hs
  have HL := Lib.hid hs.1
  clear hs
  go_enter Try.func98, Try.ntmps98
  go_wp2
  go_loopw [7, 8] (fun v i wr => ∃ k : Nat, k ≤ len ∧ i = .int .i64 k ∧ OwnS wr w.heap.size v (cutq (l.take k) f t) ∧ Below w.heap.size w wr) (fun _ i _ => len - (intOf i).toNat)
  case atStart => exact ⟨0, Nat.zero_le _, rfl, Own.nil _ _ _ _ _, Below.refl _ _⟩
  case round =>
    obtain ⟨k, hk, rfl, hown, hbel⟩ := hrel
    by_cases hlt : k < len
    · obtain ⟨b, off, x, rfl, hx, hb, t0, t1⟩ := HS.out.at_ hlt
      have kt0 := (hbel.cell (p := ⟨b, off + k * 2, none⟩) hb).trans t0
      have kt1 := (hbel.cell (p := ⟨b, off + k * 2 + 1, none⟩) hb).trans t1
      have hle : (cutq (l.take k) f t).length < 1000000 := by
        have h1 := cutq_len (l.take k) f t
        have h2 : (l.take k).length ≤ l.length := by rw [List.length_take]; omega
        have h3 := HL.out
        omega
      have hki : (k : Int) < (len : Int) := by omega
      have HX := Lib.hid hx
      have HB := Lib.hid hbel
      clear hx hb t0 t1
      by_cases h1 : f ≤ x.tick
      · by_cases h2 : x.tick ≤ t
        · have HN := Lib.hid (cutq_yes HX.out h1 h2)
          have hsz := hbel.size
          clear hbel
          go_wp2_with (at_builtin; refine push_smp _ rfl _ _ rfl w.heap.size _ _ rfl (hown.alloc _) wr.heap.size _ 1 x rfl (Blk.new wr _ _) hle (by simp; omega) ?_; intro v2 w2 ho2 hb2 hg2)
          go_roundw
          case rel => exact ⟨k + 1, by omega, by go_num, by rw [HN.out]; exact ho2, (HB.out.alloc HB.out.size _).trans hb2⟩
          case measure => simp [intOf]; omega
        · have HN := Lib.hid (cutq_no (f := f) (t := t) HX.out (fun h => h2 h.2))
          clear hbel
          go_wp2
          go_roundw
          case rel => exact ⟨k + 1, by omega, by go_num, by rw [HN.out]; exact hown, HB.out⟩
          case measure => simp [intOf]; omega
      · have HN := Lib.hid (cutq_no (f := f) (t := t) HX.out (fun h => h1 h.1))
        clear hbel
        go_wp2
        go_roundw
        case rel => exact ⟨k + 1, by omega, by go_num, by rw [HN.out]; exact hown, HB.out⟩
        case measure => simp [intOf]; omega
    · have hE : l.take k = l := List.take_of_length_le (by have := HL.out; omega)
      rw [hE] at hown
      clear hE
      go_wp2
      go_ret
      exact ⟨_, rfl, hown, hbel⟩
def valq (l : List Smp) : List Int := l.map fun x => max x.value 0
theorem valq_len (l : List Smp) : (valq l).length = l.length := List.length_map _
theorem valq_next {l : List Smp} {k : Nat} {x : Smp} (h : l[k]? = some x) : valq (l.take (k + 1)) = valq (l.take k) ++ [max x.value 0] := by
  rw [take_next h]; unfold valq; simp
theorem valq_bd {l : List Smp} (hg : ∀ x ∈ l, x.good) : ∀ y ∈ valq l, 0 ≤ y ∧ y ≤ 9223372036854775807 := by
  intro y hy
  obtain ⟨x, hx, rfl⟩ := List.mem_map.1 hy
  have := (hg x hx).2
  unfold I64 at this
  omega
theorem window_Values (A : Option Addr) (len cap : Nat) (l : List Smp) (w : World) (hs : SmpsAre w A len cap l) (hn : len ≤ 1000) :
    Calls Try.prog 132 #[.slice A len cap] w fun e w' => ∃ v, e = .returned v ∧ OwnI w' w.heap.size v (valq l) ∧ Below w.heap.size w w' := by
  have HS := Lib.hid hs
  have HL := Lib.hid hs.1
  clear hs
  go_enter Try.func132, Try.ntmps132
  go_wp2
  go_loopw [3, 8] (fun v i wr => ∃ k : Nat, k ≤ len ∧ i = .int .i64 k ∧ OwnI wr w.heap.size v (valq (l.take k)) ∧ Below w.heap.size w wr) (fun _ i _ => len - (intOf i).toNat)
  case atStart => exact ⟨0, Nat.zero_le _, rfl, Own.nil _ _ _ _ _, Below.refl _ _⟩
  case round =>
    obtain ⟨k, hk, rfl, hown, hbel⟩ := hrel
    by_cases hlt : k < len
    · obtain ⟨b, off, x, rfl, hx, hb, t0, t1⟩ := HS.out.at_ hlt
      have kt0 := (hbel.cell (p := ⟨b, off + k * 2, none⟩) hb).trans t0
      have kt1 := (hbel.cell (p := ⟨b, off + k * 2 + 1, none⟩) hb).trans t1
      have hle : (valq (l.take k)).length < 1000000 := by
        rw [valq_len]
        have h2 : (l.take k).length ≤ l.length := by rw [List.length_take]; omega
        have h3 := HL.out
        omega
      have hki : (k : Int) < (len : Int) := by omega
      have HN := Lib.hid (valq_next hx)
      have HB := Lib.hid hbel
      have hsz := hbel.size
      clear hx hb t0 t1 hbel
      by_cases h1 : x.value < 0
      · have HM := Lib.hid (show max x.value 0 = 0 by omega)
        have d1 : decide (0 < x.value) = false := by simp; omega
        go_wp2_with (at_builtin; refine push_int _ rfl _ _ rfl w.heap.size _ _ rfl ((hown.alloc _).alloc _) ⟨wr.heap.size + 1, 0, none⟩ 1 0 rfl (by simp) hle (by simp; omega) ?_; intro v2 w2 ho2 hb2)
        go_roundw
        case rel => exact ⟨k + 1, by omega, by go_num, by rw [HN.out, HM.out]; exact ho2, ((HB.out.alloc HB.out.size _).alloc (by simp; omega) _).trans hb2⟩
        case measure => simp [intOf]; omega
      · by_cases h2 : x.value = 0
        · have HM := Lib.hid (show max x.value 0 = 0 by omega)
          have d1 : decide (x.value < 0) = false := by simp; omega
          have d2 : decide (0 < x.value) = false := by simp; omega
          clear h2
          go_wp2_with (at_builtin; refine push_int _ rfl _ _ rfl w.heap.size _ _ rfl ((hown.alloc _).alloc _) ⟨wr.heap.size + 1, 0, none⟩ 1 _ rfl (by simp; rfl) hle (by simp; omega) ?_; intro v2 w2 ho2 hb2)
          go_roundw
          case rel =>
            refine ⟨k + 1, by omega, by go_num, ?_, ((HB.out.alloc HB.out.size _).alloc (by simp; omega) _).trans hb2⟩
            rw [HN.out, HM.out]
            have hz : x.value = 0 := by simp at d1 d2; omega
            first | exact ho2 | (rw [hz] at ho2; exact ho2)
          case measure => simp [intOf]; omega
        · have HM := Lib.hid (show max x.value 0 = x.value by omega)
          have d1 : decide (x.value < 0) = false := by simp; omega
          have d2 : decide (0 < x.value) = true := by simp; omega
          clear h2
          go_wp2_with (at_builtin; refine push_int _ rfl _ _ rfl w.heap.size _ _ rfl ((hown.alloc _).alloc _) ⟨wr.heap.size + 1, 0, none⟩ 1 x.value rfl (by simp) hle (by simp; omega) ?_; intro v2 w2 ho2 hb2)
          go_roundw
          case rel => exact ⟨k + 1, by omega, by go_num, by rw [HN.out, HM.out]; exact ho2, ((HB.out.alloc HB.out.size _).alloc (by simp; omega) _).trans hb2⟩
          case measure => simp [intOf]; omega
    · have hE : l.take k = l := List.take_of_length_le (by have := HL.out; omega)
      rw [hE] at hown
      clear hE
      go_wp2
      go_ret
      exact ⟨_, rfl, hown, hbel⟩
theorem ref09_Values (A : Option Addr) (len cap : Nat) (l : List Smp) (w : World) (hs : SmpsAre w A len cap l) (hn : len ≤ 1000) :
    Calls Try.prog 119 #[.slice A len cap] w fun e w' => ∃ v, e = .returned v ∧ OwnI w' w.heap.size v (valq l) ∧ Below w.heap.size w w' := by
  have HS := Lib.hid hs
  have HL := Lib.hid hs.1
  clear hs
  go_enter Try.func119, Try.ntmps119
  go_wp2
  go_loopw [3, 4] (fun v i wr => ∃ k : Nat, k ≤ len ∧ i = .int .i64 k ∧ OwnI wr w.heap.size v (valq (l.take k)) ∧ Below w.heap.size w wr) (fun _ i _ => len - (intOf i).toNat)
  case atStart => exact ⟨0, Nat.zero_le _, rfl, Own.nil _ _ _ _ _, Below.refl _ _⟩
  case round =>
    obtain ⟨k, hk, rfl, hown, hbel⟩ := hrel
    by_cases hlt : k < len
    · obtain ⟨b, off, x, rfl, hx, hb, t0, t1⟩ := HS.out.at_ hlt
      have kt0 := (hbel.cell (p := ⟨b, off + k * 2, none⟩) hb).trans t0
      have kt1 := (hbel.cell (p := ⟨b, off + k * 2 + 1, none⟩) hb).trans t1
      have hle : (valq (l.take k)).length < 1000000 := by
        rw [valq_len]
        have h2 : (l.take k).length ≤ l.length := by rw [List.length_take]; omega
        have h3 := HL.out
        omega
      have hki : (k : Int) < (len : Int) := by omega
      have HN := Lib.hid (valq_next hx)
      have HB := Lib.hid hbel
      have hsz := hbel.size
      clear hx hb t0 t1 hbel
      by_cases h1 : x.value < 0
      · have HM := Lib.hid (show max x.value 0 = 0 by omega)
        go_wp2_with (at_builtin; refine push_int _ rfl _ _ rfl w.heap.size _ _ rfl (hown.alloc _) ⟨wr.heap.size, 0, none⟩ 1 0 rfl (by simp) hle (by simp; omega) ?_; intro v2 w2 ho2 hb2)
        go_roundw
        case rel => exact ⟨k + 1, by omega, by go_num, by rw [HN.out, HM.out]; exact ho2, (HB.out.alloc HB.out.size _).trans hb2⟩
        case measure => simp [intOf]; omega
      · have HM := Lib.hid (show max x.value 0 = x.value by omega)
        go_wp2_with (at_builtin; refine push_int _ rfl _ _ rfl w.heap.size _ _ rfl (hown.alloc _) ⟨wr.heap.size, 0, none⟩ 1 x.value rfl (by simp) hle (by simp; omega) ?_; intro v2 w2 ho2 hb2)
        go_roundw
        case rel => exact ⟨k + 1, by omega, by go_num, by rw [HN.out, HM.out]; exact ho2, (HB.out.alloc HB.out.size _).trans hb2⟩
        case measure => simp [intOf]; omega
    · have hE : l.take k = l := List.take_of_length_le (by have := HL.out; omega)
      rw [hE] at hown
      clear hE
      go_wp2
      go_ret
      exact ⟨_, rfl, hown, hbel⟩
end Go.Proofs.Ytjodpffdlggjgaa
/- slices.Min, slices.Max, window.Of, window.From, window.At. -/
namespace Go.Proofs.Ytjodpffdlggjgaa
open Go.RowKit
set_option linter.unusedSimpArgs false
set_option linter.unusedVariables false
set_option maxHeartbeats 2000000
set_option maxRecDepth 100000

def minq : List Int → Int
  | [] => 0
  | a :: l => l.foldl min a
def maxq : List Int → Int
  | [] => 0
  | a :: l => l.foldl max a
theorem minq_snoc (a : Int) (l : List Int) (x : Int) : minq (a :: l ++ [x]) = min (minq (a :: l)) x := by simp [minq]
theorem maxq_snoc (a : Int) (l : List Int) (x : Int) : maxq (a :: l ++ [x]) = max (maxq (a :: l)) x := by simp [maxq]
theorem minq_next {l : List Int} {k : Nat} {x : Int} (h : l[k]? = some x) (hk : 1 ≤ k) : minq (l.take (k + 1)) = min (minq (l.take k)) x := by
  rw [take_next h]
  obtain ⟨j, rfl⟩ : ∃ j, k = j + 1 := ⟨k - 1, by omega⟩
  cases l with
  | nil => simp at h
  | cons a l => exact minq_snoc a (l.take j) x
theorem maxq_next {l : List Int} {k : Nat} {x : Int} (h : l[k]? = some x) (hk : 1 ≤ k) : maxq (l.take (k + 1)) = max (maxq (l.take k)) x := by
  rw [take_next h]
  obtain ⟨j, rfl⟩ : ∃ j, k = j + 1 := ⟨k - 1, by omega⟩
  cases l with
  | nil => simp at h
  | cons a l => exact maxq_snoc a (l.take j) x
theorem minq_one {l : List Int} {x : Int} (h : l[0]? = some x) : minq (l.take 1) = x := by
  cases l with
  | nil => simp at h
  | cons a l => simp at h; subst h; rfl
theorem maxq_one {l : List Int} {x : Int} (h : l[0]? = some x) : maxq (l.take 1) = x := by
  cases l with
  | nil => simp at h
  | cons a l => simp at h; subst h; rfl
theorem slices_Min (A : Option Addr) (len cap : Nat) (l : List Int) (w : World) (hs : IntsAre w A len cap l) (h1 : 1 ≤ len) (hn : len ≤ 1000) :
    Calls Try.prog 134 #[.slice A len cap] w fun e w' => e = .returned (.int .i64 (minq l)) ∧ w = w' := by
  have HS := Lib.hid hs
  have HL := Lib.hid hs.1
  have m1 : len ≤ 9223372036854775806 := by omega
  obtain ⟨b, off, x0, rfl, hx0, hb0, hc0⟩ := IntsAre.at_ hs (show 0 < len by omega)
  have HX0 := Lib.hid (minq_one hx0)
  rw [Nat.add_zero] at hc0
  clear hs hx0
  go_enter Try.func134, Try.ntmps134
  go_wp2
  clear hc0
  go_loop [3, 4] (fun m i => ∃ k : Nat, 1 ≤ k ∧ k ≤ len ∧ i = .int .i64 k ∧ m = .int .i64 (minq (l.take k))) (fun _ i => len - (intOf i).toNat)
  case atStart => exact ⟨1, by omega, by omega, rfl, by rw [HX0.out]⟩
  case round =>
    obtain ⟨k, hk1, hk, rfl, rfl⟩ := hrel
    by_cases hlt : k < len
    · obtain ⟨b', off', x, hab, hx, hb, hc⟩ := IntsAre.at_ HS.out hlt
      cases hab
      have HN := Lib.hid (minq_next hx hk1)
      have hki : (k : Int) < (len : Int) := by omega
      clear hx
      generalize minq (l.take k) = m at *
      by_cases hlo : x < m
      · have E := Lib.hid (show min m x = x by omega)
        go_wp2
        go_round
        case rel => exact ⟨k + 1, by omega, by omega, by go_num, by rw [HN.out, E.out]⟩
        case measure => simp [intOf]; omega
      · have E := Lib.hid (show min m x = m by omega)
        go_wp2
        go_round
        case rel => exact ⟨k + 1, by omega, by omega, by go_num, by rw [HN.out, E.out]⟩
        case measure => simp [intOf]; omega
    · have hE : l.take k = l := List.take_of_length_le (by have := HL.out; omega)
      rw [hE]
      clear hE
      go_wp2
      go_ret
      exact ⟨rfl, rfl⟩
theorem slices_Max (A : Option Addr) (len cap : Nat) (l : List Int) (w : World) (hs : IntsAre w A len cap l) (h1 : 1 ≤ len) (hn : len ≤ 1000) :
    Calls Try.prog 135 #[.slice A len cap] w fun e w' => e = .returned (.int .i64 (maxq l)) ∧ w = w' := by
  have HS := Lib.hid hs
  have HL := Lib.hid hs.1
  have m1 : len ≤ 9223372036854775806 := by omega
  obtain ⟨b, off, x0, rfl, hx0, hb0, hc0⟩ := IntsAre.at_ hs (show 0 < len by omega)
  have HX0 := Lib.hid (maxq_one hx0)
  rw [Nat.add_zero] at hc0
  clear hs hx0
  go_enter Try.func135, Try.ntmps135
  go_wp2
  clear hc0
  go_loop [3, 4] (fun m i => ∃ k : Nat, 1 ≤ k ∧ k ≤ len ∧ i = .int .i64 k ∧ m = .int .i64 (maxq (l.take k))) (fun _ i => len - (intOf i).toNat)
  case atStart => exact ⟨1, by omega, by omega, rfl, by rw [HX0.out]⟩
  case round =>
    obtain ⟨k, hk1, hk, rfl, rfl⟩ := hrel
    by_cases hlt : k < len
    · obtain ⟨b', off', x, hab, hx, hb, hc⟩ := IntsAre.at_ HS.out hlt
      cases hab
      have HN := Lib.hid (maxq_next hx hk1)
      have hki : (k : Int) < (len : Int) := by omega
      clear hx
      generalize maxq (l.take k) = m at *
      by_cases hlo : m < x
      · have E := Lib.hid (show max m x = x by omega)
        go_wp2
        go_round
        case rel => exact ⟨k + 1, by omega, by omega, by go_num, by rw [HN.out, E.out]⟩
        case measure => simp [intOf]; omega
      · have E := Lib.hid (show max m x = m by omega)
        go_wp2
        go_round
        case rel => exact ⟨k + 1, by omega, by omega, by go_num, by rw [HN.out, E.out]⟩
        case measure => simp [intOf]; omega
    · have hE : l.take k = l := List.take_of_length_le (by have := HL.out; omega)
      rw [hE]
      clear hE
      go_wp2
      go_ret
      exact ⟨rfl, rfl⟩
structure Stat where
  count : Int
  sum : Int
  least : Int
  most : Int
  mean : Int
deriving DecidableEq
abbrev Stat.row (s : Stat) : Array Value := #[.int .i64 s.count, .int .i64 s.sum, .int .i64 s.least, .int .i64 s.most, .int .i64 s.mean]
def statq (l : List Smp) : Stat := if l.length = 0 then ⟨0, 0, 0, 0, 0⟩ else ⟨l.length, sumq (valq l), minq (valq l), maxq (valq l), meanq (valq l)⟩
theorem window_Of (A : Option Addr) (len cap : Nat) (l : List Smp) (w : World) (hs : SmpsAre w A len cap l) (hg : ∀ x ∈ l, x.good) (hn : len ≤ 200) :
    Calls Try.prog 116 #[.slice A len cap] w fun e w' => e = .returned (.agg (statq l).row) ∧ Below w.heap.size w w' := by
  have HS := Lib.hid hs
  have HL := Lib.hid hs.1
  have HV := Lib.hid (valq_bd hg)
  clear hs hg
  have E0 := Lib.hid (show Below w.heap.size w (w.alloc (.cells #[.int .i64 0, .int .i64 0, .int .i64 0, .int .i64 0, .int .i64 0] 133)) by go_grown)
  go_enter Try.func116, Try.ntmps116
  go_wp2_with fail
  refine (window_Values A len cap l _ (slice_keep HS.out E0.out) (by omega)).mono ?_
  rintro e w1 ⟨v, rfl, ho, hb1⟩
  obtain ⟨A', n', c', rfl, hn', hsl⟩ := ho.shape (fun _ => rfl)
  obtain rfl : n' = len := by rw [hn', valq_len]; exact HL.out
  have BR := Lib.hid ((Blk.new w 133 #[.int .i64 0, .int .i64 0, .int .i64 0, .int .i64 0, .int .i64 0]).call hb1)
  have E1 := Lib.hid (E0.out.trans (hb1.mono E0.out.size))
  have SL := Lib.hid hsl
  clear hn' ho hsl hb1 E0
  by_cases h0 : n' = 0
  · have HQ := Lib.hid (show statq l = ⟨0, 0, 0, 0, 0⟩ by unfold statq; rw [if_pos (by rw [HL.out]; exact h0)])
    have d0 : ((n' : Int) == 0) = true := by simp; omega
    clear h0
    go_wp2_with (refine wpList_store_row rfl 133 (.tmp 2) (.tmp 9) rfl w.heap.size _ _ _ rfl rfl BR.out (by rfl) (by kernel_rfl) (by simp [Value.oneCell']) ?_; intro w9 hb9 hg9)
    refine bodyPost_ret (results_row rfl _ _ w.heap.size _ _ _ rfl hb9 Try.underlying133 rfl (by kernel_rfl)) rfl ⟨by rw [HQ.out], E1.out.trans (Only.below hg9 (Nat.le_refl _) E1.out.size)⟩
  · have HQ := Lib.hid (show statq l = ⟨n', sumq (valq l), minq (valq l), maxq (valq l), meanq (valq l)⟩ by unfold statq; rw [if_neg (by rw [HL.out]; exact h0), HL.out])
    have d0 : ((n' : Int) == 0) = false := by simp; omega
    have h1 : 1 ≤ n' := by omega
    have HG := Lib.hid (fun x hx => (show I64 x by have := HV.out x hx; unfold I64; omega) : ∀ x ∈ valq l, I64 x)
    clear h0
    go_wp2_with fail
    refine (sat_Sum _ _ _ _ _ SL.out HG.out (by omega)).mono ?_
    rintro e w2 ⟨rfl, rfl⟩
    go_wp2_with fail
    refine (slices_Min _ _ _ _ _ SL.out h1 (by omega)).mono ?_
    rintro e w2 ⟨rfl, rfl⟩
    go_wp2_with fail
    refine (slices_Max _ _ _ _ _ SL.out h1 (by omega)).mono ?_
    rintro e w2 ⟨rfl, rfl⟩
    go_wp2_with fail
    refine (wide_Mean _ _ _ _ _ SL.out HG.out (by omega)).mono ?_
    rintro e w2 ⟨rfl, hb2⟩
    go_wp2_with (refine wpList_store_row rfl 133 (.tmp 2) (.tmp 20) rfl w.heap.size _ _ _ rfl rfl (BR.out.call hb2) (by rfl) (by kernel_rfl) (by simp [Value.oneCell']) ?_; intro w9 hb9 hg9)
    have E2 := E1.out.trans (hb2.mono E1.out.size)
    refine bodyPost_ret (results_row rfl _ _ w.heap.size _ _ _ rfl hb9 Try.underlying133 rfl (by kernel_rfl)) rfl ⟨by rw [HQ.out], E2.trans (Only.below hg9 (Nat.le_refl _) E2.size)⟩
def fromq (to width : Int) : Int := satq (satq (to - width) + 1)
theorem fromq_I64 (to width : Int) : I64 (fromq to width) := satq_I64 _
theorem window_From (to width : Int) (w : World) (h1 : I64 to) (h2 : I64 width) :
    Calls Try.prog 118 #[.int .i64 to, .int .i64 width] w fun e w' => e = .returned (.int .i64 (fromq to width)) ∧ w = w' := by
  go_enter Try.func118, Try.ntmps118
  go_wp2_with (first | (go_at_call 104; refine (sat_Sub _ _ _ h1 h2).mono ?_; rintro e w1 ⟨rfl, rfl⟩) | (go_at_call 72; refine (sat_Add _ _ _ (satq_I64 _) (by unfold I64; omega)).mono ?_; rintro e w1 ⟨rfl, rfl⟩))
  go_ret
  exact ⟨rfl, rfl⟩
theorem ref09_From (to width : Int) (w : World) (h1 : I64 to) (h2 : I64 width) :
    Calls Try.prog 99 #[.int .i64 to, .int .i64 width] w fun e w' => e = .returned (.int .i64 (fromq to width)) ∧ w = w' := by
  go_enter Try.func99, Try.ntmps99
  go_wp2_with (first | (go_at_call 113; refine (ref_Sub _ _ _ h1 h2).mono ?_; rintro e w1 ⟨rfl, rfl⟩) | (go_at_call 39; refine (ref_Add _ _ _ (satq_I64 _) (by unfold I64; omega)).mono ?_; rintro e w1 ⟨rfl, rfl⟩))
  go_ret
  exact ⟨rfl, rfl⟩
theorem cutq_good {l : List Smp} (hg : ∀ x ∈ l, x.good) (f t : Int) : ∀ x ∈ cutq l f t, x.good := fun x hx => hg x ((List.mem_filter.1 hx).1)
theorem window_At (A : Option Addr) (len cap : Nat) (l : List Smp) (to width : Int) (w : World) (hs : SmpsAre w A len cap l) (hg : ∀ x ∈ l, x.good) (hn : len ≤ 200) (h1 : I64 to) (h2 : I64 width) :
    Calls Try.prog 94 #[.slice A len cap, .int .i64 to, .int .i64 width] w fun e w' => e = .returned (.agg (statq (cutq l (fromq to width) to)).row) ∧ Below w.heap.size w w' := by
  have HS := Lib.hid hs
  have HL := Lib.hid hs.1
  have HG := Lib.hid hg
  clear hs hg
  have E0 := Lib.hid (show Below w.heap.size w (w.alloc (.cells #[.int .i64 0, .int .i64 0, .int .i64 0, .int .i64 0, .int .i64 0] 133)) by go_grown)
  go_enter Try.func94, Try.ntmps94
  go_wp2_with fail
  refine (window_From to width _ h1 h2).mono ?_
  rintro e w1 ⟨rfl, rfl⟩
  go_wp2_with fail
  refine (window_Cut A len cap l _ to _ (slice_keep HS.out E0.out) (by omega)).mono ?_
  rintro e w1 ⟨v, rfl, ho, hb1⟩
  obtain ⟨A', n', c', rfl, hn', hsl⟩ := ho.shape (fun _ => rfl)
  have hn2 : n' ≤ 200 := by have := cutq_len l (fromq to width) to; have := HL.out; omega
  have BR := Lib.hid ((Blk.new w 133 #[.int .i64 0, .int .i64 0, .int .i64 0, .int .i64 0, .int .i64 0]).call hb1)
  have E1 := Lib.hid (E0.out.trans (hb1.mono E0.out.size))
  have SL := Lib.hid hsl
  clear hn' ho hsl hb1 E0
  go_wp2_with fail
  refine (window_Of A' n' c' _ _ SL.out (cutq_good HG.out _ _) hn2).mono ?_
  rintro e w2 ⟨rfl, hb2⟩
  have E2 := E1.out.trans (hb2.mono E1.out.size)
  go_wp2_with (refine wpList_store_row rfl 133 (.tmp 6) (.tmp 13) rfl w.heap.size _ _ _ rfl rfl (BR.out.call hb2) (by rfl) (by kernel_rfl) (by simp [Value.oneCell']) ?_; intro w9 hb9 hg9)
  refine bodyPost_ret (results_row rfl _ _ w.heap.size _ _ _ rfl hb9 Try.underlying133 rfl (by kernel_rfl)) rfl ⟨rfl, E2.trans (Only.below hg9 (Nat.le_refl _) E2.size)⟩
end Go.Proofs.Ytjodpffdlggjgaa
/- Package control, the rest: near or not, what is decided, the ends. -/
namespace Go.Proofs.Ytjodpffdlggjgaa
open Go.RowKit
set_option linter.unusedSimpArgs false
set_option linter.unusedVariables false
set_option maxHeartbeats 400000

theorem control_Near (p : Pol) (load now : Int) (w : World) (hp : p.fit) (hn : I64 load) :
    Calls Try.prog 76 #[(.agg #[.int .i64 p.min, .int .i64 p.max, .int .i64 p.target, .int .i64 p.tol, .int .i64 p.window, .int .i64 p.hold]), .int .i64 load, .int .i64 now] w fun e w' => e = .returned (.bool (nearq p load now)) ∧ Below w.heap.size w w' := by
  by_cases hk : p.okP
  · by_cases h1 : now < 1
    · have e0 := polErr_ok hk
      have hfin : nearq p load now = false := if_neg (by omega)
      have HF := Lib.hid hfin
      clear hk hfin
      go_enter Try.func76, Try.ntmps76
      go_wp2_with (first | (go_at_call 75; refine (policy_Check p _).mono ?_; rintro e v1 ⟨rfl, hb1⟩; obtain ⟨hc1, hf1⟩ := bcell hb1; have hB1 : Below w.heap.size w v1 := Below.trans (by go_grown) (hb1.mono (by first | omega | (simp; done) | (simp; omega))); have hz1 : w.heap.size < v1.heap.size := (by have := hb1.size; first | omega | (simp at this; omega)); have hs1 := hb1.size; (try simp only [World.size_alloc, World.size_setCell, World.size_drew] at hs1); clear hb1))
      go_ret
      exact ⟨ret_bool HF.out.symm, by go_grown⟩
    · by_cases h2 : 1073741824 < now
      · have e0 := polErr_ok hk
        have hfin : nearq p load now = false := if_neg (by omega)
        have HF := Lib.hid hfin
        clear hk hfin
        go_enter Try.func76, Try.ntmps76
        go_wp2_with (first | (go_at_call 75; refine (policy_Check p _).mono ?_; rintro e v2 ⟨rfl, hb2⟩; obtain ⟨hc2, hf2⟩ := bcell hb2; have hB2 : Below w.heap.size w v2 := Below.trans (by go_grown) (hb2.mono (by first | omega | (simp; done) | (simp; omega))); have hz2 : w.heap.size < v2.heap.size := (by have := hb2.size; first | omega | (simp at this; omega)); have hs2 := hb2.size; (try simp only [World.size_alloc, World.size_setCell, World.size_drew] at hs2); clear hb2))
        go_ret
        exact ⟨ret_bool HF.out.symm, by go_grown⟩
      · exact control_Near_ok p load now (loadq load) w hp hn hk (by omega) (by omega) (by unfold loadq; omega)
  · have e0 := polErr_no hk
    have hfin : nearq p load now = false := if_neg (fun h => hk h.1)
    have HF := Lib.hid hfin
    clear hk hfin
    go_enter Try.func76, Try.ntmps76
    go_wp2_with (first | (go_at_call 75; refine (policy_Check p _).mono ?_; rintro e v3 ⟨rfl, hb3⟩; obtain ⟨hc3, hf3⟩ := bcell hb3; have hB3 : Below w.heap.size w v3 := Below.trans (by go_grown) (hb3.mono (by first | omega | (simp; done) | (simp; omega))); have hz3 : w.heap.size < v3.heap.size := (by have := hb3.size; first | omega | (simp at this; omega)); have hs3 := hb3.size; (try simp only [World.size_alloc, World.size_setCell, World.size_drew] at hs3); clear hb3))
    go_ret
    exact ⟨ret_bool HF.out.symm, by go_grown⟩
def rawq (p : Pol) (load now : Int) : Int := if nearq p load now then boundq p now else boundq p (wantq p load)
theorem wantq_I64 (p : Pol) (n : Int) (hp : p.fit) (hn : I64 n) : I64 (wantq p n) := by
  unfold wantq
  split
  · have hl := loadq_bd hn
    unfold ceilq
    split
    · unfold I64; omega
    · rename_i h1 h2
      have := fl_neg (loadq n) p.target (by omega)
      have b := fl_bd (loadq n) p.target (by omega)
      have c := b.2.1 (by omega)
      rw [this]
      unfold I64
      by_cases h0 : p.target = 1
      · rw [h0, Int.emod_one, if_pos rfl, Int.ediv_one]; omega
      · have : loadq n / p.target ≤ 4611686018427387903 := by
          have e := (Int.ediv_lt_iff_lt_mul (a := loadq n) (b := 4611686018427387904) (c := p.target) (by omega)).2 (by omega)
          omega
        split <;> omega
  · unfold I64; omega
theorem control_Raw (p : Pol) (load now : Int) (w : World) (hp : p.fit) (hn : I64 load) :
    Calls Try.prog 46 #[(.agg #[.int .i64 p.min, .int .i64 p.max, .int .i64 p.target, .int .i64 p.tol, .int .i64 p.window, .int .i64 p.hold]), .int .i64 load, .int .i64 now] w fun e w' => e = .returned (.int .i64 (rawq p load now)) ∧ Below w.heap.size w w' := by
  cases h : nearq p load now
  · have HF := Lib.hid (show rawq p load now = boundq p (wantq p load) by unfold rawq; rw [h]; rfl)
    go_enter Try.func46, Try.ntmps46
    go_wp2_with (first | (go_at_call 76; refine (control_Near p load now _ hp hn).mono ?_; rintro e va ⟨rfl, hba⟩; obtain ⟨hca, hfa⟩ := bcell hba; have hBa : Below w.heap.size w va := Below.trans (by go_grown) (hba.mono (by first | omega | (simp; done) | (simp; omega))); have hza : w.heap.size < va.heap.size := (by have := hba.size; first | omega | (simp at this; omega)); have hsa := hba.size; (try simp only [World.size_alloc, World.size_setCell, World.size_drew] at hsa); clear hba))
    have HS : va.cell? ⟨w.heap.size, 0, none⟩ = some (.int .i64 p.min) ∧ va.cell? ⟨w.heap.size, 1, none⟩ = some (.int .i64 p.max) ∧ va.cell? ⟨w.heap.size, 2, none⟩ = some (.int .i64 p.target) ∧ va.cell? ⟨w.heap.size, 3, none⟩ = some (.int .i64 p.tol) ∧ va.cell? ⟨w.heap.size, 4, none⟩ = some (.int .i64 p.window) ∧ va.cell? ⟨w.heap.size, 5, none⟩ = some (.int .i64 p.hold) ∧ w.heap.size < va.heap.size ∧ Below w.heap.size w va := (by refine ⟨?_, ?_, ?_, ?_, ?_, ?_, ?_, ?_⟩ <;> first | assumption | go_simp)
    clear hca hfa hBa hza hsa
    go_region_held3 (fun w' => w'.cell? ⟨w.heap.size, 0, none⟩ = some (.int .i64 p.min) ∧ w'.cell? ⟨w.heap.size, 1, none⟩ = some (.int .i64 p.max) ∧ w'.cell? ⟨w.heap.size, 2, none⟩ = some (.int .i64 p.target) ∧ w'.cell? ⟨w.heap.size, 3, none⟩ = some (.int .i64 p.tol) ∧ w'.cell? ⟨w.heap.size, 4, none⟩ = some (.int .i64 p.window) ∧ w'.cell? ⟨w.heap.size, 5, none⟩ = some (.int .i64 p.hold) ∧ w.heap.size < w'.heap.size ∧ Below w.heap.size w w') (first | (go_split_ands; refine held6 (by assumption) ?_ ?_ ?_ ?_ ?_ ?_ ?_ ?_ <;> assumption) | exact held6_drew HS | (go_split_ands; refine ⟨?_, ?_, ?_, ?_, ?_, ?_, ?_, ?_⟩ <;> assumption))
      (first
        | (go_at_call 77; refine (control_Want p load _ hp hn).mono ?_; rintro e w1 ⟨rfl, hb⟩)
        | (go_at_call 47; refine (control_Bound p _ _).mono ?_; rintro e w1 ⟨rfl, hb⟩))
    have hz := held6_out (by assumption)
    go_wp2
    go_ret
    exact ⟨ret_int HF.out.symm, hz⟩
  · have HF := Lib.hid (show rawq p load now = boundq p now by unfold rawq; rw [h]; rfl)
    go_enter Try.func46, Try.ntmps46
    go_wp2_with (first | (go_at_call 76; refine (control_Near p load now _ hp hn).mono ?_; rintro e v4 ⟨rfl, hb4⟩; obtain ⟨hc4, hf4⟩ := bcell hb4; have hB4 : Below w.heap.size w v4 := Below.trans (by go_grown) (hb4.mono (by first | omega | (simp; done) | (simp; omega))); have hz4 : w.heap.size < v4.heap.size := (by have := hb4.size; first | omega | (simp at this; omega)); have hs4 := hb4.size; (try simp only [World.size_alloc, World.size_setCell, World.size_drew] at hs4); clear hb4) | (go_at_call 47; refine (control_Bound p _ _).mono ?_; rintro e v5 ⟨rfl, hb5⟩; obtain ⟨hc5, hf5⟩ := bcell hb5; have hB5 : Below w.heap.size w v5 := Below.trans (by go_grown) (hb5.mono (by first | omega | (simp; done) | (simp; omega))); have hz5 : w.heap.size < v5.heap.size := (by have := hb5.size; first | omega | (simp at this; omega)); have hs5 := hb5.size; (try simp only [World.size_alloc, World.size_setCell, World.size_drew] at hs5); clear hb5))
    go_ret
    exact ⟨ret_int HF.out.symm, by go_grown⟩
def lowq (p : Pol) (n : Int) : Int := if p.okP ∧ 1 ≤ n ∧ n ≤ 1073741824 then satq (satq ((n - 1) * p.target) + 1) else 0
def lowIs (p : Pol) (n : Int) : Bool := decide (p.okP ∧ 1 ≤ n ∧ n ≤ 1073741824)
def highq (p : Pol) (n : Int) : Int := if p.okP ∧ 0 ≤ n ∧ n ≤ 1073741824 then satq (n * p.target) else 0
def highIs (p : Pol) (n : Int) : Bool := decide (p.okP ∧ 0 ≤ n ∧ n ≤ 1073741824)
end Go.Proofs.Ytjodpffdlggjgaa
/- The reference's rounded quotients of 128 bits. -/
namespace Go.Proofs.Ytjodpffdlggjgaa
open Go.RowKit
set_option linter.unusedSimpArgs false
set_option linter.unusedVariables false
set_option maxHeartbeats 400000
theorem cmpN_lt (X Y : Nat) : decide (cmpN X Y < 0) = decide (X < Y) := by
  unfold cmpN
  rw [Bool.eq_iff_iff]
  simp only [decide_eq_true_eq]
  split <;> (try split) <;> omega
theorem mul_lt128q {a b : Nat} (ha : a < 2 ^ 64) (hb : b < 2 ^ 64) : a * b < 2 ^ 128 := by
  have := Nat.mul_le_mul (show a ≤ 2 ^ 64 - 1 by omega) (show b ≤ 2 ^ 64 - 1 by omega)
  omega
theorem rangeAt_blk {w : World} {g : Nat} {t : TypeId} {cs : Array Value} (h : Blk w g t cs) : w.rangeAt g 0 cs.toList := fun j v hv => by
  rw [Nat.zero_add]; exact h.cellv (by simpa using hv)
theorem heldR {w0 W w1 : World} {g : Nat} {cs : List Value} (hb : Below W.heap.size W w1) (hr : W.rangeAt g 0 cs) (hs : g < W.heap.size) (hB : Below g w0 W) : w1.rangeAt g 0 cs ∧ g < w1.heap.size ∧ Below g w0 w1 :=
  ⟨fun j v hv => (hb.cell (p := ⟨g, 0 + j, none⟩) hs).trans (hr j v hv), Nat.lt_of_lt_of_le hs hb.size, hB.trans (hb.mono (Nat.le_of_lt hs))⟩
theorem info_list (N : Nat) : (Try.prog.info? 146).map (·.size) = some (bitsA N).toList.length := by rw [info_num N]; simp
theorem num_MulM (a b M : Nat) (w : World) (hM : M = a * b) (ha : a < 2 ^ 64) (hb : b < 2 ^ 64) :
    Calls Try.prog 108 #[.int .u64 a, .int .u64 b] w fun e w' => e = .returned (.agg (bitsA M)) ∧ Below w.heap.size w w' := by
  subst hM; exact num_Mul a b w ha hb
def upIs (n d q : Nat) : Bool := decide (n ≤ q * d ∧ (q = 0 ∨ (q - 1) * d < n))
end Go.Proofs.Ytjodpffdlggjgaa
/- The reference of package control: Load, Want, Bound, Near, Open. -/
namespace Go.Proofs.Ytjodpffdlggjgaa
open Go.RowKit
set_option linter.unusedSimpArgs false
set_option linter.unusedVariables false
set_option maxHeartbeats 4000000
set_option maxRecDepth 100000
theorem ref_Load (n : Int) (w : World) :
    Calls Try.prog 109 #[.int .i64 n] w fun e w' => e = .returned (.int .i64 (loadq n)) ∧ w = w' := by
  by_cases h : n < 0
  · have HQ := Lib.hid (show loadq n = 0 from if_pos h)
    go_enter Try.func109, Try.ntmps109
    go_wp2
    go_ret
    exact ⟨ret_int HQ.out.symm, rfl⟩
  · have HQ := Lib.hid (show loadq n = n from if_neg h)
    have d : decide (n < 0) = false := by simpa using h
    clear h
    go_enter Try.func109, Try.ntmps109
    go_wp2
    go_ret
    exact ⟨ret_int HQ.out.symm, rfl⟩
abbrev Pol.row (p : Pol) : Array Value := #[.int .i64 p.min, .int .i64 p.max, .int .i64 p.target, .int .i64 p.tol, .int .i64 p.window, .int .i64 p.hold]
theorem ref_Want (p : Pol) (n : Int) (w : World) (hp : p.fit) (hn : I64 n) :
    Calls Try.prog 81 #[(.agg #[.int .i64 p.min, .int .i64 p.max, .int .i64 p.target, .int .i64 p.tol, .int .i64 p.window, .int .i64 p.hold]), .int .i64 n] w fun e w' => e = .returned (.int .i64 (wantq p n)) ∧ Below w.heap.size w w' := by
  have hL := loadq_I64 hn
  have hT := hp.2.2.1
  by_cases hk : p.okP
  · have e1 := polOk_true hk
    have HQ := Lib.hid (show wantq p n = ceilq (loadq n) p.target from if_pos hk)
    clear hk
    go_enter Try.func81, Try.ntmps81
    go_wp2_with (first | (go_at_call 49; refine (ref_Right p _).mono ?_; rw [e1]; rintro e v1 ⟨rfl, hb1⟩))
    have B0 := Lib.hid ((Blk.new w 23 p.row).call hb1)
    have hB1 : Below w.heap.size w v1 := Below.trans (by go_grown) (hb1.mono (by simp))
    clear hb1
    refine wp_region_any (by kernel_rfl) ?_; change wpAny _ _ _ _ _ _ _ (World.drew v1); refine any_of_anyG (late := fun _ => false) (S := fun wS => Below v1.heap.size v1 wS) _ _ _ _ ?_
    have S0 := (Below.refl v1.heap.size v1).drew
    refine anyG_take (i := 0) (v := _) rfl (by kernel_rfl) (by kernel_rfl) (by kernel_rfl) (by kernel_rfl) rfl (by kernel_rfl) (fun j hj => by first | (simp at hj; done) | (simp at hj; simp; omega)) (fun _ _ _ h => h) (Or.inl ⟨by rfl, fun W1 hW1 => by first | rfl | (go_simp; done) | (go_simp; with_reducible rfl)⟩) (S0) ?_
    refine anyG_take (i := 2) (v := _) rfl (by kernel_rfl) (by kernel_rfl) (by kernel_rfl) (by kernel_rfl) rfl (by kernel_rfl) (fun j hj => by first | (simp at hj; done) | (simp at hj; simp; omega)) (fun _ _ _ h => h) (Or.inl ⟨by rfl, fun W1 hW1 => by first | rfl | (go_simp; done) | (go_simp; with_reducible rfl)⟩) (S0) ?_
    refine anyG_take (i := 3) (v := .int .i64 p.target) rfl (by kernel_rfl) (by kernel_rfl) (by kernel_rfl) (by kernel_rfl) rfl (by kernel_rfl) (fun j hj => by first | (simp at hj; done) | (simp at hj; simp; omega)) (fun _ _ _ h => h) (Or.inl ⟨by rfl, fun W1 hW1 => by have c := (B0.out.call hW1).cellv (i := 2) (v := .int .i64 p.target) rfl; go_simp⟩) (S0) ?_
    refine anyG_one (k := 1) (by kernel_rfl) rfl (by rfl) (fun Q2 hQ2 => ?_); go_wp2_with (go_at_call 109; refine (ref_Load n _).mono ?_; rintro e w1 ⟨rfl, rfl⟩); refine hQ2 _ _ (fun _ => S0) ?_; clear hQ2 Q2
    refine anyG_one (k := 4) (by kernel_rfl) rfl (by rfl) (fun Q2 hQ2 => ?_); go_wp2_with (go_at_call 112; refine (ref_Ceil _ _ _ hL hT).mono ?_; rintro e w1 ⟨rfl, rfl⟩); refine hQ2 _ _ (fun _ => S0) ?_; clear hQ2 Q2
    refine anyG_one (k := 5) (by kernel_rfl) rfl (by rfl) (fun Q2 hQ2 => ?_); go_wp2_with fail; refine hQ2 _ _ (fun _ => S0) ?_; clear hQ2 Q2
    refine anyG_done (by kernel_rfl) ?_ _
    go_wp2
    go_ret
    exact ⟨ret_int HQ.out.symm, hB1.trans (S0.mono hB1.size)⟩
  · have e1 := polOk_false hk
    have HQ := Lib.hid (show wantq p n = 0 from if_neg hk)
    clear hk
    go_enter Try.func81, Try.ntmps81
    go_wp2_with (first | (go_at_call 49; refine (ref_Right p _).mono ?_; rw [e1]; rintro e v1 ⟨rfl, hb1⟩))
    go_ret
    exact ⟨ret_int HQ.out.symm, Below.trans (by go_grown) (hb1.mono (by simp))⟩
theorem ref_Bound (p : Pol) (n : Int) (w : World) :
    Calls Try.prog 51 #[(.agg #[.int .i64 p.min, .int .i64 p.max, .int .i64 p.target, .int .i64 p.tol, .int .i64 p.window, .int .i64 p.hold]), .int .i64 n] w fun e w' => e = .returned (.int .i64 (boundq p n)) ∧ Below w.heap.size w w' := by
  by_cases hk : p.okP
  · have e1 := polOk_true hk
    have HQ := Lib.hid (show boundq p n = clampq n p.min p.max from if_pos hk)
    clear hk
    go_enter Try.func51, Try.ntmps51
    go_wp2_with (first | (go_at_call 49; refine (ref_Right p _).mono ?_; rw [e1]; rintro e v1 ⟨rfl, hb1⟩; obtain ⟨hc1, hf1⟩ := bcell hb1) | (go_at_call 79; refine (ref_Clamp _ _ _ _).mono ?_; rintro e w1 ⟨rfl, rfl⟩))
    go_ret
    exact ⟨ret_int HQ.out.symm, Below.trans (by go_grown) (hb1.mono (by simp))⟩
  · have e1 := polOk_false hk
    have HQ := Lib.hid (show boundq p n = 0 from if_neg hk)
    clear hk
    go_enter Try.func51, Try.ntmps51
    go_wp2_with (first | (go_at_call 49; refine (ref_Right p _).mono ?_; rw [e1]; rintro e v1 ⟨rfl, hb1⟩))
    go_ret
    exact ⟨ret_int HQ.out.symm, Below.trans (by go_grown) (hb1.mono (by simp))⟩
end Go.Proofs.Ytjodpffdlggjgaa
