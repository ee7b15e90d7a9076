/- Package history: New, kept, List, Add. -/
import Derived.Test.YtfeccjjheiillaaRing3
import Derived.Test.YtfeccjjheiillaaRing4
namespace Go.Proofs.Ytfeccjjheiillaa
open Go.RowKit
set_option linter.unusedSimpArgs false
set_option linter.unusedVariables false
set_option maxHeartbeats 4000000
set_option maxRecDepth 100000
/-- What the last decisions are behind one more; none where there is no room that may be. -/
def hush (l : List Adv) (room : Int) (x : Adv) : List Adv := if 1 ≤ room ∧ room ≤ 64 then pushq l room.toNat x else []
/-- The ring of a history. -/
def RingOf (w : World) (q p : Option Addr) (F : Nat → Prop) (xs : List Adv) (room : Int) : Prop :=
  (p = none ∧ q = none ∧ xs = [] ∧ (room < 1 ∨ 64 < room)) ∨ ∃ (h g : Nat) (v : Value) (ph : List Adv) (fr rm : Nat), q = some ⟨g, 0, none⟩ ∧ p = some ⟨h, 0, none⟩ ∧ room = rm ∧ 1 ≤ rm ∧ rm ≤ 64 ∧ Blk w h 137 #[.pointer (some ⟨g, 0, none⟩)] ∧ RingAt w g v ph fr rm ∧ F h ∧ h ≠ g ∧ v.ownBlock ≠ some h ∧ (∀ k, foot g v k → F k) ∧ xs = ringq ph fr
/-- p is a history (or none), in the blocks F. -/
def HistAt (w : World) (p : Option Addr) (F : Nat → Prop) (xs : List Adv) (room : Int) : Prop :=
  ((p = none ∧ xs = [] ∧ (room < 1 ∨ 64 < room)) ∨ ∃ (h g : Nat) (v : Value) (ph : List Adv) (fr rm : Nat), p = some ⟨h, 0, none⟩ ∧ room = rm ∧ 1 ≤ rm ∧ rm ≤ 64 ∧ Blk w h 137 #[.pointer (some ⟨g, 0, none⟩)] ∧ RingAt w g v ph fr rm ∧ F h ∧ h ≠ g ∧ v.ownBlock ≠ some h ∧ (∀ k, foot g v k → F k) ∧ xs = ringq ph fr) ∧ ∀ k, F k → k < w.heap.size
theorem HistAt.upd {S F : Nat → Prop} {w w' : World} {p : Option Addr} {xs : List Adv} {room : Int} (h : HistAt w p F xs room) (hu : Upd S w w') (hn : ∀ k, F k → ¬ S k) : HistAt w' p F xs room := by
  refine ⟨?_, fun k hk => Nat.lt_of_lt_of_le (h.2 k hk) hu.size⟩
  rcases h.1 with h | ⟨h, g, v, ph, fr, rm, e1, e2, e3, e4, e5, e6, e7, e8, e9, e10, e11⟩
  · exact .inl h
  · exact .inr ⟨h, g, v, ph, fr, rm, e1, e2, e3, e4, e5.upd hu (hn _ e7), e6.upd hu (fun k hk => hn k (e10 k hk)), e7, e8, e9, e10, e11⟩
theorem HistAt.call {F : Nat → Prop} {w w' : World} {p : Option Addr} {xs : List Adv} {room : Int} (h : HistAt w p F xs room) (hb : Below w.heap.size w w') : HistAt w' p F xs room :=
  h.upd (S := fun _ => False) (Upd.of_below hb) (fun _ _ hk => hk)
theorem HistAt.len {F : Nat → Prop} {w : World} {p : Option Addr} {xs : List Adv} {room : Int} (h : HistAt w p F xs room) : xs.length ≤ 64 := by
  rcases h.1 with ⟨-, rfl, -⟩ | ⟨h, g, v, ph, fr, rm, e1, e2, e3, e4, e5, e6, e7, e8, e9, e10, rfl⟩
  · simp
  · rw [ringq_len ph fr rm e6.2.2.2]; exact Nat.le_trans e6.2.2.2.1 e4
def NewH (w : World) (room : Int) (e : Ending) (w' : World) : Prop := ∃ p F, e = .returned (.pointer p) ∧ HistAt w' p F [] room ∧ (∀ k, F k → w.heap.size ≤ k) ∧ Below w.heap.size w w'
theorem history_New (room : Int) (w : World) (h0 : I64 room) :
    Calls Try.prog 66 #[.int .i64 room] w (NewH w room) := by
  by_cases hr : room < 1 ∨ 64 < room
  · have hd : (decide (room < 1) = true) ∨ (decide (room < 1) = false ∧ decide (64 < room) = true) := by
      rcases hr with h | h
      · exact .inl (by simp; omega)
      · by_cases h2 : room < 1
        · exact .inl (by simp; omega)
        · exact .inr ⟨by simp; omega, by simp; omega⟩
    have HR := Lib.hid hr
    clear hr
    rcases hd with d1 | ⟨d1, d2⟩
    · go_enter Try.func66, Try.ntmps66
      go_wp2
      go_ret
      exact ⟨none, fun _ => False, rfl, ⟨.inl ⟨rfl, rfl, HR.out⟩, fun _ hk => hk.elim⟩, fun _ hk => hk.elim, by go_grown⟩
    · go_enter Try.func66, Try.ntmps66
      go_wp2
      go_ret
      exact ⟨none, fun _ => False, rfl, ⟨.inl ⟨rfl, rfl, HR.out⟩, fun _ hk => hk.elim⟩, fun _ hk => hk.elim, by go_grown⟩
  · obtain ⟨rm, rfl⟩ : ∃ rm : Nat, room = rm := ⟨room.toNat, by omega⟩
    have d1 : decide ((rm : Int) < 1) = false := by simp; omega
    have d2 : decide ((64 : Int) < (rm : Int)) = false := by simp; omega
    have d1' : ¬ rm < 1 := by omega
    have d2' : ¬ 64 < rm := by omega
    have HC := Lib.hid (fun w => ring_New rm w (by omega) (by omega))
    have HN := Lib.hid (fun w => RingAt.new w rm (by omega))
    clear hr
    go_enter Try.func66, Try.ntmps66
    go_wp2_with (go_at_call 97; refine (HC.out _).mono ?_; rintro e w1 ⟨rfl, rfl⟩)
    go_ret
    have hB := Blk.new (w.alloc (.cells #[.slice none 0 0, .int .i64 0, .int .i64 rm] 163)) 137 #[.pointer (some ⟨w.heap.size, 0, none⟩)]
    rw [World.size_alloc] at hB
    refine ⟨_, fun k => k = w.heap.size ∨ k = w.heap.size + 1, rfl, ⟨.inr ⟨w.heap.size + 1, w.heap.size, .slice none 0 0, [], 0, rm, rfl, rfl, by omega, by omega, hB, (HN.out w).call (by go_grown), .inr rfl, by omega, by simp [Value.ownBlock], ?_, rfl⟩, ?_⟩, ?_, by go_grown⟩
    · rintro k (rfl | hk)
      · exact .inl rfl
      · simp [Value.ownBlock] at hk
    · rintro k (rfl | rfl) <;> (simp; try omega)
    · rintro k (rfl | rfl) <;> omega
theorem history_kept (p : Option Addr) (F : Nat → Prop) (xs : List Adv) (room : Int) (w : World) (h : HistAt w p F xs room) :
    Calls Try.prog 119 #[.pointer p] w fun e w' => ∃ q, e = .returned (.pointer q) ∧ w = w' ∧ RingOf w q p F xs room := by
  rcases h.1 with ⟨rfl, e2⟩ | ⟨hh, g, v, ph, fr, rm, rfl, e2, e3, e4, e5, rest⟩
  · have HE := Lib.hid e2
    clear e2 h
    go_enter Try.func119, Try.ntmps119
    go_wp2
    go_ret
    exact ⟨none, rfl, rfl, .inl ⟨rfl, rfl, HE.out⟩⟩
  · have c0 := e5.cellv (i := 0) rfl
    have HE := Lib.hid (show RingOf w (some ⟨g, 0, none⟩) (some ⟨hh, 0, none⟩) F xs room from .inr ⟨hh, g, v, ph, fr, rm, rfl, rfl, e2, e3, e4, e5, rest⟩)
    clear e2 e3 e4 e5 rest
    go_enter Try.func119, Try.ntmps119
    go_wp2
    go_ret
    exact ⟨_, rfl, rfl, HE.out⟩
theorem RingOf.ringV {w : World} {q p : Option Addr} {F : Nat → Prop} {xs : List Adv} {room : Int} (h : RingOf w q p F xs room) : RingV w q w.heap.size xs := by
  rcases h with ⟨-, rfl, rfl, -⟩ | ⟨h, g, v, ph, fr, rm, rfl, -, -, e3, e4, e5, e6, e7, e8, e9, e10, rfl⟩
  · exact .inl ⟨rfl, rfl⟩
  · exact .inr ⟨g, v, ph, fr, rm, rfl, e6, by omega, e6.lt, rfl⟩
theorem history_List (p : Option Addr) (F : Nat → Prop) (xs : List Adv) (room : Int) (w : World) (h : HistAt w p F xs room) :
    Calls Try.prog 101 #[.pointer p] w fun e w' => ∃ v, e = .returned v ∧ OwnA w' w.heap.size v xs ∧ Below w.heap.size w w' := by
  have HH := Lib.hid h
  clear h
  go_enter Try.func101, Try.ntmps101
  go_wp2_with (first | (go_at_call 119; refine (history_kept p F xs room _ HH.out).mono ?_; rintro e w1 ⟨q, rfl, rfl, hq⟩; have HQ := Lib.hid hq.ringV; clear hq) | (go_at_call 122; refine (ring_List q xs _ HQ.out).mono ?_; rintro e w2 ⟨v, rfl, hv⟩; have HV := Lib.hid hv; clear hv))
  go_ret
  exact ⟨v, rfl, HV.out⟩
/-- Behind a push. -/
def PushPost (q p : Option Addr) (F : Nat → Prop) (xs : List Adv) (room : Int) (x : Adv) (w : World) (e : Ending) (w' : World) : Prop := ∃ y b F' q2, e = .returned (.tuple #[.agg y, .bool b]) ∧ RingOf w' q2 p F' (hush xs room x) room ∧ q2 = q ∧ (∀ k, F' k → k < w'.heap.size) ∧ Upd F w w' ∧ ∀ k, F' k → F k ∨ w.heap.size ≤ k
theorem ring_Push (q p : Option Addr) (F : Nat → Prop) (xs : List Adv) (room : Int) (x : Adv) (w : World) (hq : RingOf w q p F xs room) (hF : ∀ k, F k → k < w.heap.size) :
    Calls Try.prog 120 #[.pointer q, .agg (rowA x)] w (PushPost q p F xs room x w) := by
  rcases hq with ⟨rfl, rfl, rfl, hr⟩ | ⟨h, g, v, ph, fr, rm, rfl, rfl, rfl, e3, e4, e5, e6, e7, e8, e9, e10, rfl⟩
  · refine (ring_Push_nil x w).mono ?_
    rintro e w' ⟨rfl, hb⟩
    refine ⟨_, _, F, none, rfl, .inl ⟨rfl, rfl, ?_, hr⟩, rfl, fun k hk => Nat.lt_of_lt_of_le (hF k hk) hb.size, Upd.of_below hb, fun k hk => .inl hk⟩
    unfold hush; rw [if_neg (by omega)]
  · have key : ∀ ph' fr' e w', RingPost g v ph' fr' rm w e w' → ringq ph' fr' = pushq (ringq ph fr) rm x → PushPost (some ⟨g, 0, none⟩) (some ⟨h, 0, none⟩) F (ringq ph fr) rm x w e w' := by
      rintro ph' fr' e w' ⟨v', y, b, rfl, p1, p2, p3⟩ hpq
      have hnf : ¬ foot g v h := by
        rintro (rfl | hk)
        · exact e8 rfl
        · exact e9 hk
      have hn2 : ¬ foot g v' h := fun hf => by
        rcases p3 h hf with h1 | h1
        · exact hnf h1
        · have := e5.lt; omega
      refine ⟨y, b, fun k => F k ∨ foot g v' k, _, rfl, .inr ⟨h, g, v', ph', fr', rm, rfl, rfl, rfl, e3, e4, e5.upd p2 hnf, p1, .inl e7, e8, fun hk => hn2 (.inr hk), fun k hk => .inr hk, ?_⟩, rfl, ?_, p2.mono e10, ?_⟩
      · unfold hush; rw [if_pos (by omega), hpq]; simp
      · rintro k (hk | hk)
        · exact Nat.lt_of_lt_of_le (hF k hk) p2.size
        · exact p1.lt k hk
      · rintro k (hk | hk)
        · exact .inl hk
        · exact (p3 k hk).imp (e10 k) id
    by_cases hl : ph.length < rm
    · exact (ring_Push_room g v ph fr rm x w e6 (by omega) hl).mono fun e w' hp => key _ _ e w' hp (ring_room e6.2.2.2 hl x).2
    · have hl2 : ph.length = rm := by have := e6.2.2.2.1; omega
      exact (ring_Push_full g v ph fr rm x w e6 (by omega) hl2).mono fun e w' hp => key _ _ e w' hp (ring_full e6.2.2.2 hl2 x).2
def AddPost (p : Option Addr) (F : Nat → Prop) (xs : List Adv) (room : Int) (x : Adv) (w : World) (e : Ending) (w' : World) : Prop := ∃ F', e = .returned (.bool (decide (1 ≤ room ∧ room ≤ 64))) ∧ HistAt w' p F' (hush xs room x) room ∧ Upd F w w' ∧ ∀ k, F' k → F k ∨ w.heap.size ≤ k
theorem RingOf.hist {w : World} {q p : Option Addr} {F : Nat → Prop} {xs : List Adv} {room : Int} (h : RingOf w q p F xs room) (hF : ∀ k, F k → k < w.heap.size) : HistAt w p F xs room := by
  refine ⟨?_, hF⟩
  rcases h with ⟨h1, -, h2⟩ | ⟨h, g, v, ph, fr, rm, -, rest⟩
  · exact .inl ⟨h1, h2⟩
  · exact .inr ⟨h, g, v, ph, fr, rm, rest⟩
theorem RingOf.upd {S F : Nat → Prop} {w w' : World} {q p : Option Addr} {xs : List Adv} {room : Int} (h : RingOf w q p F xs room) (hu : Upd S w w') (hn : ∀ k, F k → ¬ S k) : RingOf w' q p F xs room := by
  rcases h with h | ⟨h, g, v, ph, fr, rm, e0, e1, e2, e3, e4, e5, e6, e7, e8, e9, e10, e11⟩
  · exact .inl h
  · exact .inr ⟨h, g, v, ph, fr, rm, e0, e1, e2, e3, e4, e5.upd hu (hn _ e7), e6.upd hu (fun k hk => hn k (e10 k hk)), e7, e8, e9, e10, e11⟩
/-- How many a ring has: some, behind a push, just where there is room. -/
theorem ring_Len_of (q p : Option Addr) (F : Nat → Prop) (xs : List Adv) (room : Int) (w : World) (hq : RingOf w q p F xs room) :
    Calls Try.prog 121 #[.pointer q] w fun e w' => e = .returned (.int .i64 xs.length) ∧ w = w' := by
  rcases hq with ⟨rfl, rfl, rfl, hr⟩ | ⟨h, g, v, ph, fr, rm, rfl, rfl, rfl, e3, e4, e5, e6, e7, e8, e9, e10, rfl⟩
  · exact ring_Len_nil w
  · rw [ringq_len ph fr rm e6.2.2.2]; exact ring_Len g v ph fr rm w e6
theorem hush_some {w : World} {q p : Option Addr} {F : Nat → Prop} {xs : List Adv} {room : Int} (h : RingOf w q p F xs room) (x : Adv) : decide (0 < (hush xs room x).length) = decide (1 ≤ room ∧ room ≤ 64) := by
  unfold hush
  split
  · rename_i hr
    obtain ⟨rm, rfl⟩ : ∃ rm : Nat, room = rm := ⟨room.toNat, by omega⟩
    have hl : xs.length ≤ rm := by
      rcases h with ⟨-, -, rfl, h⟩ | ⟨h, g, v, ph, fr, rm', -, -, e2, e3, e4, e5, e6, e7, e8, e9, e10, rfl⟩
      · simp
      · rw [ringq_len ph fr rm' e6.2.2.2]; have := e6.2.2.2.1; omega
    have h1 := (push_len (x := x) hl (by omega)).2
    rw [Int.toNat_natCast, decide_eq_true (show 0 < (pushq xs rm x).length by omega), decide_eq_true hr]
  · rename_i hr
    rw [decide_eq_false hr]
    rfl
theorem history_Add (p : Option Addr) (F : Nat → Prop) (xs : List Adv) (room : Int) (x : Adv) (w : World) (h : HistAt w p F xs room) :
    Calls Try.prog 100 #[.pointer p, .agg (rowA x)] w (AddPost p F xs room x w) := by
  have HH := Lib.hid (h.call (show Below w.heap.size w (w.alloc (.cells (rowA x) 66)) by go_grown))
  have HF := Lib.hid h.2
  clear h
  go_enter Try.func100, Try.ntmps100
  go_wp2_with (first | (go_at_call 119; refine (history_kept p F xs room _ HH.out).mono ?_; rintro e w1 ⟨q, rfl, rfl, hq⟩; have HQ := Lib.hid hq; clear hq) | (go_at_call 120; refine (ring_Push q p F xs room x _ HQ.out HH.out.2).mono ?_; rintro e w2 ⟨y, b, F', q2, rfl, hp1, rfl, hp2⟩; have P1 := Lib.hid hp1; have P2 := Lib.hid hp2; clear hp1 hp2) | (go_at_call 121; refine (ring_Len_of _ p F' _ room _ P1.out).mono ?_; rintro e w3 ⟨rfl, rfl⟩))
  go_ret
  refine ⟨F', ?_, P1.out.hist P2.out.1, ?_, ?_⟩
  · rw [hush_some HQ.out x]
    rfl
  · exact (Upd.of_below (by go_grown)).trans P2.out.2.1 (fun k hk => .inl hk)
  · exact fun k hk => (P2.out.2.2 k hk).imp id (fun h => by simp at h; omega)
end Go.Proofs.Ytfeccjjheiillaa
