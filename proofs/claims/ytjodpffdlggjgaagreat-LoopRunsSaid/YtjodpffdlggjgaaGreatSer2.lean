/- Package series: New, Right, Len, Last, List, Clone, Trim. -/
import Derived.Test.YtjodpffdlggjgaaGreatSer
import Derived.Test.YtjodpffdlggjgaaGreatRegT
import Derived.Test.YtjodpffdlggjgaaGreatRegL
namespace Go.Proofs.YtjodpffdlggjgaaGreat
open Go.RowKit
set_option linter.unusedSimpArgs false
set_option linter.unusedVariables false
set_option maxHeartbeats 4000000
set_option maxRecDepth 100000
theorem series_New_no (room : Int) (w : World) (h : room < 1 ∨ 256 < room) :
    Calls Tryz.prog 41 #[.int .i64 room] w fun e w' => e = .returned (.pointer none) ∧ w = w' := by
  rcases h with h | h
  · go_enter Tryz.func41, Tryz.ntmps41
    go_wp2
    go_ret
    exact ⟨rfl, rfl⟩
  · have d1 : decide (room < 1) = false := by simp; omega
    go_enter Tryz.func41, Tryz.ntmps41
    go_wp2
    go_ret
    exact ⟨rfl, rfl⟩
theorem series_New (room : Int) (w : World) (h1 : 1 ≤ room) (h2 : room ≤ 256) :
    Calls Tryz.prog 41 #[.int .i64 room] w fun e w' => e = .returned (.pointer (some ⟨w.heap.size, 0, none⟩)) ∧ w' = w.alloc (.cells #[.slice none 0 0, .int .i64 room] 116) := by
  have d1 : decide (room < 1) = false := by simp; omega
  have d2 : decide (256 < room) = false := by simp; omega
  go_enter Tryz.func41, Tryz.ntmps41
  go_wp2
  go_ret
  exact ⟨rfl, rfl⟩
theorem SerAt.new (w : World) (room : Int) : SerAt (w.alloc (.cells #[.slice none 0 0, .int .i64 room] 116)) w.heap.size (.slice none 0 0) [] room :=
  ⟨Blk.new _ _ _, Own.nil _ _ _ _ _, by simp [Value.ownBlock]⟩
theorem series_Right (tick value : Int) (w : World) :
    Calls Tryz.prog 80 #[.int .i64 tick, .int .i64 value] w fun e w' => e = .returned (.int .i64 (serErr tick value)) ∧ w = w' := by
  by_cases h1 : tick < 0
  · rw [serErr_tick h1]
    go_enter Tryz.func80, Tryz.ntmps80
    go_wp2
    go_ret
    exact ⟨rfl, rfl⟩
  · by_cases h2 : value < 0
    · rw [serErr_value (by omega) h2]
      go_enter Tryz.func80, Tryz.ntmps80
      go_wp2
      go_ret
      exact ⟨rfl, rfl⟩
    · rw [serErr_ok (by omega) (by omega)]
      go_enter Tryz.func80, Tryz.ntmps80
      go_wp2
      go_ret
      exact ⟨rfl, rfl⟩
theorem series_List_nil (w : World) : Calls Tryz.prog 60 #[.pointer none] w fun e w' => e = .returned (.slice none 0 0) ∧ w = w' := by
  go_enter Tryz.func60, Tryz.ntmps60
  go_wp2
  go_ret
  exact ⟨rfl, rfl⟩
theorem series_List (g : Nat) (v : Value) (l : List Smp) (room : Int) (w : World) (h : SerAt w g v l room) (hn : l.length ≤ 100000) :
    Calls Tryz.prog 60 #[.pointer (some ⟨g, 0, none⟩)] w (CloneS w l) := by
  obtain ⟨A, n, c, rfl, hnl, hsl⟩ := h.2.1.shape smp_len
  have c3 := h.1.cellv (i := 0) (v := .slice A n c) rfl
  have HC := Lib.hid (slices_Clone A n c l w hsl (by omega))
  clear h hsl hnl hn
  go_enter Tryz.func60, Tryz.ntmps60
  go_wp2_with fail
  refine HC.out.mono ?_
  rintro e w1 ⟨A1, n1, c1, rfl, ho, hb⟩
  have HO := Lib.hid ho
  have HB := Lib.hid hb
  clear ho hb
  go_wp2
  go_ret
  exact ⟨_, _, _, rfl, HO.out, HB.out⟩
def NewSer (w : World) (l : List Smp) (room : Int) (e : Ending) (w' : World) : Prop := ∃ g v, e = .returned (.pointer (some ⟨g, 0, none⟩)) ∧ SerAt w' g v l room ∧ (∀ k, foot g v k → w.heap.size ≤ k) ∧ Below w.heap.size w w'
def SerPost (g : Nat) (v : Value) (l : List Smp) (room : Int) (w : World) (ret : Value) (e : Ending) (w' : World) : Prop := ∃ v', e = .returned ret ∧ SerAt w' g v' l room ∧ Upd (foot g v) w w' ∧ ∀ k, foot g v' k → foot g v k ∨ w.heap.size ≤ k
theorem SerAt.put {w w' : World} {g : Nat} {v v' : Value} {l l' : List Smp} {room : Int} (h : SerAt w g v l room) (hu : Upd (fun k => v.ownBlock = some k) w w') (ho : OwnS w' 0 v' l') (hw : v'.ownBlock = v.ownBlock ∨ ∃ k, v'.ownBlock = some k ∧ w.heap.size ≤ k) :
    SerAt (w'.setCell ⟨g, 0, none⟩ v') g v' l' room ∧ Upd (foot g v) w (w'.setCell ⟨g, 0, none⟩ v') ∧ (∀ k, foot g v' k → foot g v k ∨ w.heap.size ≤ k) ∧ w'.cell? ⟨g, 0, none⟩ = some v ∧ w'.frozen? ⟨g, 0, none⟩ = false := by
  have hne : v'.ownBlock ≠ some g := by
    rcases hw with e | ⟨k, e, hk⟩
    · rw [e]; exact h.2.2
    · rw [e]; intro e2; have := h.1.lt; cases e2; omega
  have hb : Blk w' g 116 #[v, .int .i64 room] := h.1.upd hu (fun e => h.2.2 e)
  refine ⟨⟨hb.set_ 0 v', ho.far (fun k hk e => hne (by rw [hk, e])) _, hne⟩, (hu.mono (fun k hk => .inr hk)).setCell (.inl (.inl rfl)) _, ?_, hb.cellv rfl, hb.frozen _⟩
  rintro k (rfl | hk)
  · exact .inl (.inl rfl)
  · rcases hw with e | ⟨j, e, hj⟩
    · exact .inl (.inr (by rw [← e]; exact hk))
    · rw [e] at hk; cases hk; exact .inr hj
def lastq (l : List Smp) : Smp := l.getLast?.getD ⟨0, 0⟩
end Go.Proofs.YtjodpffdlggjgaaGreat
