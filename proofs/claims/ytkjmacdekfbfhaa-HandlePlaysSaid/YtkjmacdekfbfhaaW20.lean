/- Chapter 20's laws: the example; HandleNone. -/
import Derived.Test.YtkjmacdekfbfhaaHand
namespace Go.Proofs.Ytkjmacdekfbfhaa
open Go.RowKit
set_option linter.unusedSimpArgs false
set_option linter.unusedVariables false
set_option maxHeartbeats 4000000
set_option maxRecDepth 100000
def fp0 : Int → Option Nat := fun _ => none
theorem awake20 (w : World) : Calls Try.prog 42 #[] w fun e w' => e = .returned (.bool true) ∧ Below w.heap.size w w' := by
  go_enter Try.func42, Try.ntmps42
  go_wp2_with (first
    | (go_at_call 48; refine (handle_New _).mono ?_; rintro e v1 ⟨rfl, ht1, hb1⟩; have T1 := Lib.hid ht1; have D1 := Lib.hid hb1; clear ht1 hb1)
    | (go_at_call 44; (with_reducible refine (cut_New 1 _).mono ?_); rintro e v2 ⟨g1, rfl, hg1, -, hb2⟩; have T2 := Lib.hid (T1.out.call hb2); have D2 := Lib.hid (D1.out.trans (hb2.mono D1.out.size)); clear hb2 hg1)
    | (go_at_call 43; (with_reducible refine (handle_Open _ _ g1 _ _ 1 _ T2.out (by decide) (by decide) (by decide)).mono ?_); rintro e v3 ⟨rfl, ht3, hu3⟩; have T3 := Lib.hid (show TabAt v3 (w.heap.size + 1) w.heap.size (fpPut (fun _ => none) 1 g1) [1] 2 from ht3); have D3 := Lib.hid (D2.out.trans (hu3.below (B := w.heap.size) (fun k hk => by rcases hk with rfl | rfl <;> omega) D2.out.size)); clear ht3 hu3)
    | (go_at_call 46; refine (handle_Free _ _ _ _ 2 1 _ T3.out (by unfold I64; omega) (by unfold ferr fpPut; simp)).mono ?_; rintro e v4 ⟨rfl, ht4, hg4⟩; have T4 := Lib.hid (show TabAt v4 (w.heap.size + 1) w.heap.size (fpDel (fpPut (fun _ => none) 1 g1) 1) [] 2 from ht4); have D4 := Lib.hid (D3.out.grown hg4 D3.out.size (fun k hk => by cases hk; exact Nat.le_refl _)); clear ht4 hg4)
    | (go_at_call 45; (with_reducible refine (handle_Get_no _ _ _ _ 2 1 _ T4.out (by unfold I64; omega) (by unfold ferr fpDel; simp)).mono ?_); rintro e v5 ⟨rfl, rfl⟩; rw [show ferr (fpDel (fpPut (fun _ => none) 1 g1) 1) 2 1 = 8 from by unfold ferr fpDel; simp])
    | (go_at_call 45; (with_reducible refine (handle_Get_no _ _ _ _ 2 2 _ T4.out (by unfold I64; omega) (by unfold ferr fpDel; simp)).mono ?_); rintro e v6 ⟨rfl, rfl⟩; rw [show ferr (fpDel (fpPut (fun _ => none) 1 g1) 1) 2 2 = 5 from by unfold ferr fpDel; simp])
    | (go_at_call 44; (with_reducible refine (cut_New 2 _).mono ?_); rintro e v7 ⟨g2, rfl, hg2, -, hb7⟩; have T7 := Lib.hid (T4.out.call hb7); have D7 := Lib.hid (D4.out.trans (hb7.mono D4.out.size)); clear hb7 hg2)
    | (go_at_call 43; (with_reducible refine (handle_Open _ _ g2 _ _ 2 _ T7.out (by decide) (by decide) (by decide)).mono ?_); rintro e v8 ⟨rfl, ht8, hu8⟩; have D8 := Lib.hid (D7.out.trans (hu8.below (B := w.heap.size) (fun k hk => by rcases hk with rfl | rfl <;> omega) D7.out.size)); clear ht8 hu8))
  go_ret
  exact ⟨rfl, D8.out⟩
theorem walk_HandleNone (n : Int) (w : World) (hn : I64 n) : Calls Try.prog 11 #[.int .i64 n] w fun e w' => e = .returned (.bool true) ∧ Below w.heap.size w w' := by
  clear hn
  go_enter Try.func11, Try.ntmps11
  go_wp2_with (first
    | (go_at_call 42; refine (awake20 _).mono ?_; rintro e v1 ⟨rfl, hb1⟩; have D1 := Lib.hid hb1; clear hb1)
    | (go_at_call 44; refine (cut_New 1 _).mono ?_; rintro e v2 ⟨g1, rfl, hg1, -, hb2⟩; have D2 := Lib.hid (D1.out.trans (hb2.mono D1.out.size)); clear hb2 hg1)
    | (go_at_call 43; refine (handle_Open_nil _ _).mono ?_; rintro e v3 ⟨rfl, rfl⟩)
    | (go_at_call 45; refine (handle_Get_nil _ _).mono ?_; rintro e v4 ⟨rfl, rfl⟩)
    | (go_at_call 46; refine (handle_Free_nil _ _).mono ?_; rintro e v5 ⟨rfl, rfl⟩)
    | (go_at_call 47; refine (handle_Live_nil _).mono ?_; rintro e v6 ⟨rfl, rfl⟩))
  go_ret
  exact ⟨rfl, D2.out⟩
end Go.Proofs.Ytkjmacdekfbfhaa
