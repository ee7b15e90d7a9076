/- flywheelref21.Check: the walk. -/
import Derived.Test.YtkjmacdekfbfhaaStoreC
import Derived.Test.YtkjmacdekfbfhaaIdent2
namespace Go.Proofs.Ytkjmacdekfbfhaa
open Go.RowKit
set_option linter.unusedSimpArgs false
set_option linter.unusedVariables false
set_option maxHeartbeats 4000000
set_option maxRecDepth 100000
theorem ref21_Check (k : Int) (s : ByteArray) (t v h : Int) (p : Pol) (w : World) (hs : s.size ≤ maxLen) :
    Calls Try.prog 63 #[.agg (callRow k s t v h p)] w fun e w' => e = .returned (.int .i64 (callErr k s t v p)) ∧ Below w.heap.size w w' := by
  have HI := Lib.hid (fun W => ref03_Id s W hs)
  have HP := Lib.hid (fun W => ref_Right p W)
  have HR := Lib.hid (fun W => r08_Right t v W)
  have hc : (k < 1) ∨ (8 < k) ∨ k = 1 ∨ k = 6 ∨ (k = 5 ∨ k = 7) ∨ k = 2 ∨ (k = 3 ∨ k = 4 ∨ k = 8) := by omega
  have X := Lib.hid (show Below w.heap.size w (w.alloc (.cells (callRow k s t v h p) 27)) by go_grown)
  rcases hc with hc | hc | rfl | rfl | hc | rfl | hc
  · have HE := Lib.hid (show callErr k s t v p = 14 from if_pos (.inl hc))
    have e1 : decide (k < 1) = true := by simpa using hc
    clear hc
    go_enter Try.func63, Try.ntmps63
    go_wp2
    go_ret
    exact ⟨ret_int HE.out.symm, X.out⟩
  · have HE := Lib.hid (show callErr k s t v p = 14 from if_pos (.inr hc))
    have e1 : decide (k < 1) = false := by simp; omega
    have e2 : decide (8 < k) = true := by simpa using hc
    clear hc
    go_enter Try.func63, Try.ntmps63
    go_wp2
    go_ret
    exact ⟨ret_int HE.out.symm, X.out⟩
  · cases hi : idOk s
    all_goals
      have HE := Lib.hid (show callErr 1 s t v p = if idOk s then sErr t v else 2 from by
        unfold callErr
        rw [if_neg (by omega), hi]
        simp)
      rw [hi] at HI HE
      clear hi
      go_enter Try.func63, Try.ntmps63
      go_wp2_with (first
        | (go_at_call 67; refine (HI.out _).mono ?_; rintro e v1 ⟨rfl, rfl⟩)
        | (go_at_call 104; refine (HR.out _).mono ?_; rintro e v2 ⟨rfl, rfl⟩))
      go_ret
      exact ⟨ret_int (by rw [HE.out]; rfl), X.out⟩
  · cases hi : idOk s
    · have HE := Lib.hid (show callErr 6 s t v p = 2 from by
        unfold callErr
        rw [if_neg (by omega), hi]
        simp)
      rw [hi] at HI
      clear hi
      go_enter Try.func63, Try.ntmps63
      go_wp2_with (go_at_call 67; refine (HI.out _).mono ?_; rintro e v1 ⟨rfl, rfl⟩)
      go_ret
      exact ⟨ret_int HE.out.symm, X.out⟩
    · have HE := Lib.hid (show callErr 6 s t v p = if polOk p then 0 else 7 from by
        unfold callErr polErr polOk
        rw [if_neg (by omega), hi]
        simp)
      rw [hi] at HI
      clear hi
      cases hp : polOk p
      all_goals
        rw [hp] at HP HE
        clear hp
        go_enter Try.func63, Try.ntmps63
        go_wp2_with (first
          | (go_at_call 67; refine (HI.out _).mono ?_; rintro e v1 ⟨rfl, rfl⟩)
          | (go_at_call 105; refine (HP.out _).mono ?_; rintro e v2 ⟨rfl, hb2⟩; have E := Lib.hid (X.out.trans (hb2.mono X.out.size)); clear hb2))
        go_ret
        exact ⟨ret_int (by rw [HE.out]; rfl), E.out⟩
  · cases hi : idOk s
    all_goals
      have HE := Lib.hid (show callErr k s t v p = if idOk s then 0 else 2 from by
        unfold callErr
        rw [if_neg (by omega), hi]
        rcases hc with rfl | rfl <;> simp)
      rw [hi] at HI HE
      clear hi
      have hk : k = 5 ∨ k = 7 := hc
      clear hc
      rcases hk with rfl | rfl
      all_goals
        go_enter Try.func63, Try.ntmps63
        go_wp2_with (go_at_call 67; refine (HI.out _).mono ?_; rintro e v1 ⟨rfl, rfl⟩)
        go_ret
        exact ⟨ret_int (by rw [HE.out]; rfl), X.out⟩
  · by_cases ht : t < 0
    · have HE := Lib.hid (show callErr 2 s t v p = 3 from by
        unfold callErr
        rw [if_neg (by omega)]
        simp [ht])
      have d : decide (t < 0) = true := by simpa using ht
      clear ht
      go_enter Try.func63, Try.ntmps63
      go_wp2
      go_ret
      exact ⟨ret_int HE.out.symm, X.out⟩
    · have HE := Lib.hid (show callErr 2 s t v p = 0 from by
        unfold callErr
        rw [if_neg (by omega)]
        simp [ht])
      have d : decide (t < 0) = false := by simpa using ht
      clear ht
      go_enter Try.func63, Try.ntmps63
      go_wp2
      go_ret
      exact ⟨ret_int HE.out.symm, X.out⟩
  · have HE := Lib.hid (show callErr k s t v p = 0 from by
      unfold callErr
      rw [if_neg (by omega), if_neg (by omega), if_neg (by omega), if_neg (by omega), if_neg (by omega)])
    rcases hc with rfl | rfl | rfl
    all_goals
      go_enter Try.func63, Try.ntmps63
      go_wp2
      go_ret
      exact ⟨ret_int HE.out.symm, X.out⟩
end Go.Proofs.Ytkjmacdekfbfhaa
