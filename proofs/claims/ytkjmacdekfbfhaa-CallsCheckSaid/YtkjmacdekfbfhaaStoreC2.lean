/- store.Check: the walk. (fast region) -/
import Derived.Test.YtkjmacdekfbfhaaStoreC
namespace Go.Proofs.Ytkjmacdekfbfhaa
open Go.RowKit
set_option linter.unusedSimpArgs false
set_option linter.unusedVariables false
set_option maxHeartbeats 4000000
set_option maxRecDepth 100000
theorem store_Check (k : Int) (s : ByteArray) (t v h : Int) (p : Pol) (w : World) (hs : s.size ≤ maxLen) :
    Calls Try.prog 60 #[.agg (callRow k s t v h p)] w fun e w' => e = .returned (.int .i64 (callErr k s t v p)) ∧ Below w.heap.size w w' := by
  have HI := Lib.hid (fun W => ident_Check s W hs)
  have HP := Lib.hid (fun W => policy_Check p W)
  have HR := Lib.hid (fun W => ser_Right t v W)
  have HR0 := Lib.hid (fun W => ser_Right t 0 W)
  have hc : (k < 1 ∨ 8 < k) ∨ k = 1 ∨ k = 6 ∨ (k = 5 ∨ k = 7) ∨ k = 2 ∨ (k = 3 ∨ k = 4 ∨ k = 8) := by omega
  have X := Lib.hid (And.intro (Blk.new w 27 (callRow k s t v h p)) (show Below w.heap.size w (w.alloc (.cells (callRow k s t v h p) 27)) by go_grown))
  rcases hc with hc | rfl | rfl | hc | rfl | hc
  · have HE := Lib.hid (show callErr k s t v p = 14 from if_pos hc)
    have e1 : (k == 1) = false := by simp; omega
    have e2 : (k == 2) = false := by simp; omega
    have e3 : (k == 3) = false := by simp; omega
    have e4 : (k == 4) = false := by simp; omega
    have e5 : (k == 5) = false := by simp; omega
    have e6 : (k == 6) = false := by simp; omega
    have e7 : (k == 7) = false := by simp; omega
    have e8 : (k == 8) = false := by simp; omega
    clear hc
    go_enter Try.func60, Try.ntmps60
    go_wp2
    go_ret
    exact ⟨ret_int HE.out.symm, X.out.2⟩
  · cases hi : idOk s
    all_goals
      have HE := Lib.hid (show callErr 1 s t v p = if idErr s = 0 then sErr t v else idErr s from by
        unfold callErr idErr
        rw [if_neg (by omega), hi]
        simp)
      have hie : (idErr s != 0) = !idOk s := by unfold idErr; cases idOk s <;> rfl
      rw [hi] at hie
      simp only [Bool.not_true, Bool.not_false] at hie
      generalize idErr s = IE at *
      clear hi
      generalize callErr 1 s t v p = R at *
      generalize sErr t v = SR at *
      go_enter Try.func60, Try.ntmps60
      focus (go_upto_region 5 with (fail))
      obtain ⟨w0, hw0⟩ : ∃ w0, w0 = w.alloc (.cells (callRow 1 s t v h p) 27) := ⟨_, rfl⟩
      rw [← hw0] at X ⊢
      clear hw0
      refine wp_region_any (by kernel_rfl) ?_; change wpAny _ _ _ _ _ _ _ (World.drew w0); refine any_of_anyG (late := fun _ => false) (S := fun wS => Below w0.heap.size w0 wS) _ _ _ _ ?_
      have S0 := (Below.refl w0.heap.size w0).drew
      refine anyG_takes (is := [0, 1, 3, 4, 5]) (vs := [_, .string s, _, .int .i64 t, _]) (m := 5) (listed2 := #[true, true, false, true, true, true, false, false, false, false]) (a2 := ⟨#[_, _, _, _, _, _, _, _, _, _, _, _, _, _, _, _, _, _, _, _, _, _, _, _, _, _, _, _, _, _, _, _, _, _, _, _, _, _, _, _, _, _, _, _], _⟩) (by kernel_rfl) (fun j hj => by simp at hj) (by kernel_rfl) (fun _ _ _ _ _ h => h) (Ys.cons rfl (Or.inl ⟨by rfl, fun W1 hW1 => by first | rfl | (go_simp; done) | (go_simp; with_reducible rfl)⟩) (Ys.cons rfl (Or.inl ⟨by rfl, fun W1 hW1 => by have c := (X.out.1.call hW1).cellv (i := 1) (v := .string s) rfl; go_simp⟩) (Ys.cons rfl (Or.inl ⟨by rfl, fun W1 hW1 => by first | rfl | (go_simp; done) | (go_simp; with_reducible rfl)⟩) (Ys.cons rfl (Or.inl ⟨by rfl, fun W1 hW1 => by have c := (X.out.1.call hW1).cellv (i := 2) (v := .int .i64 t) rfl; go_simp⟩) (Ys.cons rfl (Or.inl ⟨by rfl, fun W1 hW1 => by first | rfl | (go_simp; done) | (go_simp; with_reducible rfl)⟩) (Ys.nil)))))) (S0) (by rfl) (by rfl) ?_
      refine anyG_takes (is := [6]) (vs := [.int .i64 v]) (m := 4) (listed2 := #[true, true, false, true, true, true, true, false, false, false]) (a2 := ⟨#[_, _, _, _, _, _, _, _, _, _, _, _, _, _, _, _, _, _, _, _, _, _, _, _, _, _, _, _, _, _, _, _, _, _, _, _, _, _, _, _, _, _, _, _], _⟩) (by kernel_rfl) (fun j hj => by simp at hj) (by kernel_rfl) (fun _ _ _ _ _ h => h) (Ys.cons rfl (Or.inl ⟨by rfl, fun W1 hW1 => by have c := (X.out.1.call hW1).cellv (i := 3) (v := .int .i64 v) rfl; go_simp⟩) (Ys.nil)) (S0) (by rfl) (by rfl) ?_
      refine anyG_one (k := 2) (by kernel_rfl) rfl (by rfl) (fun Q2 hQ2 => ?_); go_wp2_with (go_at_call 98; refine (HI.out _).mono ?_; rintro e v1 ⟨rfl, hb1⟩); refine hQ2 _ _ (fun _ => S0.trans (hb1.mono S0.size)) ?_; clear hQ2 Q2
      have S1 := S0.trans (hb1.mono S0.size)
      refine anyG_one (k := 7) (by kernel_rfl) rfl (by rfl) (fun Q2 hQ2 => ?_); go_wp2_with (go_at_call 99; refine (HR.out _).mono ?_; rintro e v2 ⟨rfl, rfl⟩); refine hQ2 _ _ (fun _ => S1) ?_; clear hQ2 Q2
      refine anyG_takes (is := [8, 9]) (vs := [.int .i64 IE, .int .i64 SR]) (m := 0) (listed2 := #[true, true, true, true, true, true, true, true, true, true]) (a2 := ⟨#[_, _, _, _, _, _, _, _, _, _, _, _, _, _, _, _, _, _, _, _, _, _, _, _, _, _, _, _, _, _, _, _, _, _, _, _, _, _, _, _, _, _, _, _], _⟩) (by kernel_rfl) (fun j hj => by simp at hj) (by kernel_rfl) (fun _ _ _ _ _ h => h) (Ys.cons rfl (Or.inl ⟨by rfl, fun W1 hW1 => by rfl⟩) (Ys.cons rfl (Or.inl ⟨by rfl, fun W1 hW1 => by rfl⟩) (Ys.nil))) (S1) (by rfl) (by rfl) ?_
      refine anyG_done (by kernel_rfl) ?_ _
      have E := Lib.hid (X.out.2.trans (S1.mono X.out.2.size))
      go_wp2
      go_ret
      exact ⟨ret_int (by rw [HE.out]; simp at hie; simp [hie]), E.out⟩
  · cases hi : idOk s
    all_goals
      have HE := Lib.hid (show callErr 6 s t v p = if idErr s = 0 then polErr p else idErr s from by
        unfold callErr idErr
        rw [if_neg (by omega), hi]
        simp)
      have hie : (idErr s != 0) = !idOk s := by unfold idErr; cases idOk s <;> rfl
      rw [hi] at hie
      simp only [Bool.not_true, Bool.not_false] at hie
      generalize idErr s = IE at *
      clear hi
      generalize callErr 6 s t v p = R at *
      generalize polErr p = SR at *
      go_enter Try.func60, Try.ntmps60
      focus (go_upto_region 9 with (fail))
      obtain ⟨w0, hw0⟩ : ∃ w0, w0 = w.alloc (.cells (callRow 6 s t v h p) 27) := ⟨_, rfl⟩
      rw [← hw0] at X ⊢
      clear hw0
      refine wp_region_any (by kernel_rfl) ?_; change wpAny _ _ _ _ _ _ _ (World.drew w0); refine any_of_anyG (late := fun _ => false) (S := fun wS => Below w0.heap.size w0 wS) _ _ _ _ ?_
      have S0 := (Below.refl w0.heap.size w0).drew
      refine anyG_takes (is := [0, 1, 3, 4]) (vs := [_, .string s, _, (.agg #[.int .i64 p.min, .int .i64 p.max, .int .i64 p.target, .int .i64 p.tol, .int .i64 p.window, .int .i64 p.hold])]) (m := 4) (listed2 := #[true, true, false, true, true, false, false, false]) (a2 := ⟨#[_, _, _, _, _, _, _, _, _, _, _, _, _, _, _, _, _, _, _, _, _, _, _, _, _, _, _, _, _, _, _, _, _, _, _, _, _, _, _, _, _, _, _, _], _⟩) (by kernel_rfl) (fun j hj => by simp at hj) (by kernel_rfl) (fun _ _ _ _ _ h => h) (Ys.cons rfl (Or.inl ⟨by rfl, fun W1 hW1 => by first | rfl | (go_simp; done) | (go_simp; with_reducible rfl)⟩) (Ys.cons rfl (Or.inl ⟨by rfl, fun W1 hW1 => by have c := (X.out.1.call hW1).cellv (i := 1) (v := .string s) rfl; go_simp⟩) (Ys.cons rfl (Or.inl ⟨by rfl, fun W1 hW1 => by first | rfl | (go_simp; done) | (go_simp; with_reducible rfl)⟩) (Ys.cons rfl (Or.inl ⟨by rfl, fun W1 hW1 => by obtain ⟨c0, c1, c2, c3, c4, c5, c6, c7, c8, c9⟩ := cell_pol (X.out.1.call hW1); go_simp⟩) (Ys.nil))))) (S0) (by rfl) (by rfl) ?_
      refine anyG_one (k := 2) (by kernel_rfl) rfl (by rfl) (fun Q2 hQ2 => ?_); go_wp2_with (go_at_call 98; refine (HI.out _).mono ?_; rintro e v1 ⟨rfl, hb1⟩); refine hQ2 _ _ (fun _ => S0.trans (hb1.mono S0.size)) ?_; clear hQ2 Q2
      have S1 := S0.trans (hb1.mono S0.size)
      refine anyG_one (k := 5) (by kernel_rfl) rfl (by rfl) (fun Q2 hQ2 => ?_); go_wp2_with (go_at_call 100; refine (HP.out _).mono ?_; rintro e v2 ⟨rfl, hb2⟩); refine hQ2 _ _ (fun _ => S1.trans (hb2.mono S1.size)) ?_; clear hQ2 Q2
      have S2 := S1.trans (hb2.mono S1.size)
      refine anyG_takes (is := [6, 7]) (vs := [.int .i64 IE, .int .i64 SR]) (m := 0) (listed2 := #[true, true, true, true, true, true, true, true]) (a2 := ⟨#[_, _, _, _, _, _, _, _, _, _, _, _, _, _, _, _, _, _, _, _, _, _, _, _, _, _, _, _, _, _, _, _, _, _, _, _, _, _, _, _, _, _, _, _], _⟩) (by kernel_rfl) (fun j hj => by simp at hj) (by kernel_rfl) (fun _ _ _ _ _ h => h) (Ys.cons rfl (Or.inl ⟨by rfl, fun W1 hW1 => by rfl⟩) (Ys.cons rfl (Or.inl ⟨by rfl, fun W1 hW1 => by rfl⟩) (Ys.nil))) (S2) (by rfl) (by rfl) ?_
      refine anyG_done (by kernel_rfl) ?_ _
      have E := Lib.hid (X.out.2.trans (S2.mono X.out.2.size))
      go_wp2
      go_ret
      exact ⟨ret_int (by rw [HE.out]; simp at hie; simp [hie]), E.out⟩
  · cases hi : idOk s
    all_goals
      have hie : idErr s = if idOk s then 0 else 2 := rfl
      rw [hi] at hie
      simp only [if_true, Bool.false_eq_true, if_false] at hie
      rw [hie] at HI
      have HE := Lib.hid (show callErr k s t v p = idErr s from by
        unfold callErr
        rw [if_neg (by omega), hie, hi]
        rcases hc with rfl | rfl <;> simp)
      rw [hie] at HE
      clear hie hi
      have hk : k = 5 ∨ k = 7 := hc
      clear hc
      rcases hk with rfl | rfl
      all_goals
        have c1 := X.out.1.cellv (i := 1) (v := .string s) rfl
        go_enter Try.func60, Try.ntmps60
        go_wp2_with (go_at_call 98; refine (HI.out _).mono ?_; rintro e v1 ⟨rfl, hb1⟩; have E := Lib.hid (X.out.2.trans (hb1.mono X.out.2.size)); clear hb1)
        go_ret
        exact ⟨ret_int HE.out.symm, E.out⟩
  · have HE := Lib.hid (show callErr 2 s t v p = sErr t 0 from by
      unfold callErr sErr
      rw [if_neg (by omega)]
      by_cases ht : t < 0 <;> simp [ht])
    go_enter Try.func60, Try.ntmps60
    go_wp2_with (go_at_call 99; refine (HR0.out _).mono ?_; rintro e v2 ⟨rfl, rfl⟩)
    go_ret
    exact ⟨ret_int HE.out.symm, X.out.2⟩
  · have HE := Lib.hid (show callErr k s t v p = 0 from by
      unfold callErr
      rw [if_neg (by omega), if_neg (by omega), if_neg (by omega), if_neg (by omega), if_neg (by omega)])
    rcases hc with rfl | rfl | rfl
    all_goals
      go_enter Try.func60, Try.ntmps60
      go_wp2
      go_ret
      exact ⟨ret_int HE.out.symm, X.out.2⟩
end Go.Proofs.Ytkjmacdekfbfhaa
