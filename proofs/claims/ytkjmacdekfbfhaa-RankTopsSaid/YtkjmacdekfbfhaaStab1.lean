/- slices.swapRangeCmpFunc at samples. (fast region) -/
import Derived.Test.YtkjmacdekfbfhaaArr
import Derived.BigRegion
namespace Go.Proofs.Ytkjmacdekfbfhaa
open Go.RowKit
set_option linter.unusedSimpArgs false
set_option linter.unusedVariables false
set_option maxHeartbeats 4000000
set_option maxRecDepth 100000
/-- What lies there behind i rounds. -/
def swr (A U B V C : List Smp) (i : Nat) : List Smp := A ++ (V.take i ++ U.drop i) ++ B ++ (U.take i ++ V.drop i) ++ C
theorem swr_next {A U B V C : List Smp} {i : Nat} {x y : Smp} (hu : U[i]? = some x) (hv : V[i]? = some y) (hl : U.length = V.length) :
    (swr A U B V C i)[A.length + i]? = some x ∧ (swr A U B V C i)[A.length + U.length + B.length + i]? = some y ∧ ((swr A U B V C i).set (A.length + i) y).set (A.length + U.length + B.length + i) x = swr A U B V C (i + 1) := by
  have hi := (List.getElem?_eq_some_iff.1 hu).1
  have hd1 : U.drop i = x :: U.drop (i + 1) := by rw [List.drop_eq_getElem_cons hi, (List.getElem?_eq_some_iff.1 hu).2]
  have hd2 : V.drop i = y :: V.drop (i + 1) := by rw [List.drop_eq_getElem_cons (by omega), (List.getElem?_eq_some_iff.1 hv).2]
  have e0 : swr A U B V C i = (A ++ V.take i) ++ x :: ((U.drop (i + 1) ++ B ++ U.take i) ++ y :: (V.drop (i + 1) ++ C)) := by
    unfold swr; rw [hd1, hd2]; simp
  have e1 : swr A U B V C (i + 1) = (A ++ V.take i) ++ y :: ((U.drop (i + 1) ++ B ++ U.take i) ++ x :: (V.drop (i + 1) ++ C)) := by
    unfold swr; rw [take_snoc2 hu, take_snoc2 hv]; simp
  have l1 : A.length + i = (A ++ V.take i).length := by simp; omega
  have l2 : A.length + U.length + B.length + i = (A ++ V.take i).length + 1 + (U.drop (i + 1) ++ B ++ U.take i).length := by simp; omega
  rw [e0, e1, l2, l1]
  exact ⟨swap2_fst _ _ _ _ _, swap2_snd _ _ _ _ _, swap2 _ _ _ _ _⟩
theorem swr_len (A U B V C : List Smp) (i : Nat) (hl : U.length = V.length) : (swr A U B V C i).length = A.length + U.length + B.length + V.length + C.length := by
  unfold swr; simp; omega
theorem slices_swapRange (g n c : Nat) (A U B V C : List Smp) (fv : Value) (w : World) (hl : U.length = V.length) (hn : A.length + U.length + B.length + V.length + C.length = n) (hm : n ≤ 100000) (h : Arr w g (A ++ U ++ B ++ V ++ C)) :
    Calls Try.prog 187 #[.slice (some ⟨g, 0, none⟩) n c, .int .i64 A.length, .int .i64 ((A.length + U.length + B.length : Nat) : Int), .int .i64 U.length, fv] w (SrtP w g (A ++ V ++ B ++ U ++ C)) := by
  obtain ⟨a, ha⟩ : ∃ a, a = A.length := ⟨_, rfl⟩
  obtain ⟨k, hk⟩ : ∃ k, k = U.length := ⟨_, rfl⟩
  obtain ⟨b, hb⟩ : ∃ b, b = a + k + B.length := ⟨_, rfl⟩
  have hbn : b + k ≤ n := by omega
  have hak : a + k ≤ b := by omega
  have H0 := Lib.hid (show Arr w g (swr A U B V C 0) from by unfold swr; simpa using h)
  have HE := Lib.hid (show swr A U B V C k = A ++ V ++ B ++ U ++ C from by unfold swr; rw [hk, List.take_length, List.drop_length, hl, List.take_length, List.drop_length]; simp)
  have HN := Lib.hid (fun (i : Nat) (x y : Smp) (hu : U[i]? = some x) (hv : V[i]? = some y) => (show (swr A U B V C i)[a + i]? = some x ∧ (swr A U B V C i)[b + i]? = some y ∧ ((swr A U B V C i).set (a + i) y).set (b + i) x = swr A U B V C (i + 1) from by subst ha hk hb; exact swr_next hu hv hl))
  have HX := Lib.hid (fun (i : Nat) (hi : i < k) => (show ∃ x y, U[i]? = some x ∧ V[i]? = some y from ⟨_, _, List.getElem?_eq_getElem (by omega), List.getElem?_eq_getElem (by omega)⟩))
  have HL := Lib.hid (fun i => (swr_len A U B V C i hl).trans hn)
  rw [← ha, ← hk, ← hb]
  clear h hn ha hk hb hl
  go_enter Try.func187, Try.ntmps187
  go_wp2
  go_loopw [10] (fun i wr => ∃ j : Nat, j ≤ k ∧ i = .int .i64 j ∧ Arr wr g (swr A U B V C j) ∧ Upd (fun k => k = g) w wr) (fun i _ => k - (intOf i).toNat)
  case atStart => exact ⟨0, Nat.zero_le _, rfl, H0.out, Upd.refl _ _⟩
  case round =>
    obtain ⟨j, hj, rfl, hin, hup⟩ := hrel
    have HI := Lib.hid hin
    have HU := Lib.hid hup
    clear hin hup
    by_cases hlt : j < k
    · obtain ⟨x, y, hx, hy⟩ := HX.out j hlt
      obtain ⟨q1, q2, q3⟩ := HN.out j x y hx hy
      have M1 := Lib.hid q1
      have M2 := Lib.hid q2
      have M3 := Lib.hid q3
      have hz1 : IntKind.i64.wrap ((a : Int) + (j : Int)) = ((a + j : Nat) : Int) := by rw [IntKind.wrap_i64]; omega
      have hz2 : IntKind.i64.wrap ((b : Int) + (j : Int)) = ((b + j : Nat) : Int) := by rw [IntKind.wrap_i64]; omega
      have hi1 : ((a + j : Nat) : Int) < (n : Int) := by omega
      have hi2 : ((b + j : Nat) : Int) < (n : Int) := by omega
      clear q1 q2 q3 hx hy
      focus (go_upto_region 3 with fail)
      refine wp_region_any (by kernel_rfl) ?_; change wpAny _ _ _ _ _ _ _ (World.drew wr); refine any_of_anyG (late := fun _ => false) (S := fun wS => Upd (fun k => k = g) wr wS) _ _ _ _ ?_
      have S0 := (Upd.refl (fun k => k = g) wr).drew
      refine anyG_takes (is := [0, 1, 2, 3, 4]) (vs := [_, _, _, .int .i64 ((a + j : Nat) : Int), _]) (m := 19) (listed2 := #[true, true, true, true, true, false, false, false, false, false, false, false, false, false, false, false, false, false, false, false, false, false, false, false]) (a2 := ⟨#[_, _, _, _, _, _, _, _, _, _, _, _, _, _, _, _, _, _, _, _, _, _, _, _, _, _, _, _, _, _, _, _, _, _, _, _, _, _], _⟩) (by kernel_rfl) (fun j hj => by simp at hj) (by kernel_rfl) (fun _ _ _ _ _ h => h) (Ys.cons rfl (Or.inl ⟨by rfl, fun W1 hW1 => by first | rfl | (go_simp; done) | (go_simp; with_reducible rfl)⟩) (Ys.cons rfl (Or.inl ⟨by rfl, fun W1 hW1 => by first | rfl | (go_simp; done) | (go_simp; with_reducible rfl)⟩) (Ys.cons rfl (Or.inl ⟨by rfl, fun W1 hW1 => by first | rfl | (go_simp; done) | (go_simp; with_reducible rfl)⟩) (Ys.cons rfl (Or.inl ⟨by rfl, fun W1 hW1 => by go_simp⟩) (Ys.cons rfl (Or.inl ⟨by rfl, fun W1 hW1 => by first | rfl | (go_simp; done) | (go_simp; with_reducible rfl)⟩) (Ys.nil)))))) (S0) (by rfl) (by rfl) ?_
      refine anyG_takes (is := [5, 6, 7, 8, 9]) (vs := [_, _, .int .i64 ((b + j : Nat) : Int), _, _]) (m := 14) (listed2 := #[true, true, true, true, true, true, true, true, true, true, false, false, false, false, false, false, false, false, false, false, false, false, false, false]) (a2 := ⟨#[_, _, _, _, _, _, _, _, _, _, _, _, _, _, _, _, _, _, _, _, _, _, _, _, _, _, _, _, _, _, _, _, _, _, _, _, _, _], _⟩) (by kernel_rfl) (fun j hj => by simp at hj) (by kernel_rfl) (fun _ _ _ _ _ h => h) (Ys.cons rfl (Or.inl ⟨by rfl, fun W1 hW1 => by first | rfl | (go_simp; done) | (go_simp; with_reducible rfl)⟩) (Ys.cons rfl (Or.inl ⟨by rfl, fun W1 hW1 => by first | rfl | (go_simp; done) | (go_simp; with_reducible rfl)⟩) (Ys.cons rfl (Or.inl ⟨by rfl, fun W1 hW1 => by go_simp⟩) (Ys.cons rfl (Or.inl ⟨by rfl, fun W1 hW1 => by first | rfl | (go_simp; done) | (go_simp; with_reducible rfl)⟩) (Ys.cons rfl (Or.inl ⟨by rfl, fun W1 hW1 => by first | rfl | (go_simp; done) | (go_simp; with_reducible rfl)⟩) (Ys.nil)))))) (S0) (by rfl) (by rfl) ?_
      refine anyG_takes (is := [10, 11, 12, 14, 15]) (vs := [_, .int .i64 ((b + j : Nat) : Int), .pointer (some ⟨g, (b + j) * 2, none⟩), _, _]) (m := 9) (listed2 := #[true, true, true, true, true, true, true, true, true, true, true, true, true, false, true, true, false, false, false, false, false, false, false, false]) (a2 := ⟨#[_, _, _, _, _, _, _, _, _, _, _, _, _, _, _, _, _, _, _, _, _, _, _, _, _, _, _, _, _, _, _, _, _, _, _, _, _, _], _⟩) (by kernel_rfl) (fun j hj => by simp at hj) (by kernel_rfl) (fun _ _ _ _ _ h => h) (Ys.cons rfl (Or.inl ⟨by rfl, fun W1 hW1 => by first | rfl | (go_simp; done) | (go_simp; with_reducible rfl)⟩) (Ys.cons rfl (Or.inl ⟨by rfl, fun W1 hW1 => by go_simp⟩) (Ys.cons rfl (Or.inl ⟨by rfl, fun W1 hW1 => exec_at rfl rfl rfl (by omega)⟩) (Ys.cons rfl (Or.inl ⟨by rfl, fun W1 hW1 => by first | rfl | (go_simp; done) | (go_simp; with_reducible rfl)⟩) (Ys.cons rfl (Or.inl ⟨by rfl, fun W1 hW1 => by first | rfl | (go_simp; done) | (go_simp; with_reducible rfl)⟩) (Ys.nil)))))) (S0) (by rfl) (by rfl) ?_
      refine anyG_takes (is := [16, 17, 18]) (vs := [_, .int .i64 ((a + j : Nat) : Int), .pointer (some ⟨g, (a + j) * 2, none⟩)]) (m := 6) (listed2 := #[true, true, true, true, true, true, true, true, true, true, true, true, true, false, true, true, true, true, true, false, false, false, false, false]) (a2 := ⟨#[_, _, _, _, _, _, _, _, _, _, _, _, _, _, _, _, _, _, _, _, _, _, _, _, _, _, _, _, _, _, _, _, _, _, _, _, _, _], _⟩) (by kernel_rfl) (fun j hj => by simp at hj) (by kernel_rfl) (fun _ _ _ _ _ h => h) (Ys.cons rfl (Or.inl ⟨by rfl, fun W1 hW1 => by first | rfl | (go_simp; done) | (go_simp; with_reducible rfl)⟩) (Ys.cons rfl (Or.inl ⟨by rfl, fun W1 hW1 => by go_simp⟩) (Ys.cons rfl (Or.inl ⟨by rfl, fun W1 hW1 => exec_at rfl rfl rfl (by omega)⟩) (Ys.nil)))) (S0) (by rfl) (by rfl) ?_
      refine anyG_two (i := 13) (j := 19) (by kernel_rfl) rfl (by rfl) rfl (by rfl) (fun Q2 hQ2 => ?_) (fun Q2 hQ2 => ?_)
      ·
        go_wp2_with (refine Arr.ld (w := wr.drew) HI.out M2.out rfl (.tmp 28) rfl rfl rfl ?_)
        refine hQ2 _ _ (fun _ => S0) ?_
        clear hQ2 Q2
        refine anyG_one (k := 19) (by kernel_rfl) rfl (by rfl) (fun Q2 hQ2 => ?_); go_wp2_with (refine Arr.ld (w := wr.drew) HI.out M1.out rfl (.tmp 34) rfl rfl rfl ?_); refine hQ2 _ _ (fun _ => S0) ?_; clear hQ2 Q2
        refine anyG_takes (is := [20]) (vs := [.pointer (some ⟨g, (a + j) * 2, none⟩)]) (m := 3) (listed2 := #[true, true, true, true, true, true, true, true, true, true, true, true, true, true, true, true, true, true, true, true, true, false, false, false]) (a2 := ⟨#[_, _, _, _, _, _, _, _, _, _, _, _, _, _, _, _, _, _, _, _, _, _, _, _, _, _, _, _, _, _, _, _, _, _, _, _, _, _], _⟩) (by kernel_rfl) (fun j hj => by simp at hj) (by kernel_rfl) (fun _ _ _ _ _ h => h) (Ys.cons rfl (Or.inl ⟨by rfl, fun W1 hW1 => exec_at rfl rfl rfl (by omega)⟩) (Ys.nil)) (S0) (by rfl) (by rfl) ?_
        refine anyG_one (k := 21) (by kernel_rfl) rfl (by rfl) (fun Q2 hQ2 => ?_); go_wp2_with (refine Arr.store (w := wr.drew) HI.out (i := a + j) (by rw [HL.out]; omega) y rfl (.tmp 36) (.tmp 29) rfl rfl rfl rfl ?_; intro w5 h5 u5); refine hQ2 _ _ (fun _ => S0.trans u5 (fun k hk => .inl hk)) ?_; clear hQ2 Q2
        have S5 := S0.trans u5 (fun k hk => .inl hk)
        refine anyG_takes (is := [22]) (vs := [.pointer (some ⟨g, (b + j) * 2, none⟩)]) (m := 1) (listed2 := #[true, true, true, true, true, true, true, true, true, true, true, true, true, true, true, true, true, true, true, true, true, true, true, false]) (a2 := ⟨#[_, _, _, _, _, _, _, _, _, _, _, _, _, _, _, _, _, _, _, _, _, _, _, _, _, _, _, _, _, _, _, _, _, _, _, _, _, _], _⟩) (by kernel_rfl) (fun j hj => by simp at hj) (by kernel_rfl) (fun _ _ _ _ _ h => h) (Ys.cons rfl (Or.inl ⟨by rfl, fun W1 hW1 => exec_at rfl rfl rfl (by omega)⟩) (Ys.nil)) (S5) (by rfl) (by rfl) ?_
        refine anyG_one (k := 23) (by kernel_rfl) rfl (by rfl) (fun Q2 hQ2 => ?_); go_wp2_with (refine Arr.store h5 (i := b + j) (by rw [List.length_set, HL.out]; omega) x rfl (.tmp 37) (.tmp 35) rfl rfl rfl rfl ?_; intro w6 h6 u6); refine hQ2 _ _ (fun _ => S5.trans u6 (fun k hk => .inl hk)) ?_; clear hQ2 Q2
        have S6 := S5.trans u6 (fun k hk => .inl hk)
        refine anyG_done (by kernel_rfl) ?_ _
        have X6 := Lib.hid (show Arr w6 g (swr A U B V C (j + 1)) from by rw [← M3.out]; exact h6)
        have U6 := Lib.hid (HU.out.trans S6 (fun k hk => .inl hk))
        clear h5 h6 u5 u6 S0 S5 S6
        go_wp2
        go_roundw
        case rel => exact ⟨j + 1, by omega, by go_num, X6.out, U6.out⟩
        case measure => simp [intOf]; omega
      ·
        go_wp2_with (refine Arr.ld (w := wr.drew) HI.out M1.out rfl (.tmp 34) rfl rfl rfl ?_)
        refine hQ2 _ _ (fun _ => S0) ?_
        clear hQ2 Q2
        refine anyG_one (k := 13) (by kernel_rfl) rfl (by rfl) (fun Q2 hQ2 => ?_); go_wp2_with (refine Arr.ld (w := wr.drew) HI.out M2.out rfl (.tmp 28) rfl rfl rfl ?_); refine hQ2 _ _ (fun _ => S0) ?_; clear hQ2 Q2
        refine anyG_takes (is := [20]) (vs := [.pointer (some ⟨g, (a + j) * 2, none⟩)]) (m := 3) (listed2 := #[true, true, true, true, true, true, true, true, true, true, true, true, true, true, true, true, true, true, true, true, true, false, false, false]) (a2 := ⟨#[_, _, _, _, _, _, _, _, _, _, _, _, _, _, _, _, _, _, _, _, _, _, _, _, _, _, _, _, _, _, _, _, _, _, _, _, _, _], _⟩) (by kernel_rfl) (fun j hj => by simp at hj) (by kernel_rfl) (fun _ _ _ _ _ h => h) (Ys.cons rfl (Or.inl ⟨by rfl, fun W1 hW1 => exec_at rfl rfl rfl (by omega)⟩) (Ys.nil)) (S0) (by rfl) (by rfl) ?_
        refine anyG_one (k := 21) (by kernel_rfl) rfl (by rfl) (fun Q2 hQ2 => ?_); go_wp2_with (refine Arr.store (w := wr.drew) HI.out (i := a + j) (by rw [HL.out]; omega) y rfl (.tmp 36) (.tmp 29) rfl rfl rfl rfl ?_; intro w5 h5 u5); refine hQ2 _ _ (fun _ => S0.trans u5 (fun k hk => .inl hk)) ?_; clear hQ2 Q2
        have S5 := S0.trans u5 (fun k hk => .inl hk)
        refine anyG_takes (is := [22]) (vs := [.pointer (some ⟨g, (b + j) * 2, none⟩)]) (m := 1) (listed2 := #[true, true, true, true, true, true, true, true, true, true, true, true, true, true, true, true, true, true, true, true, true, true, true, false]) (a2 := ⟨#[_, _, _, _, _, _, _, _, _, _, _, _, _, _, _, _, _, _, _, _, _, _, _, _, _, _, _, _, _, _, _, _, _, _, _, _, _, _], _⟩) (by kernel_rfl) (fun j hj => by simp at hj) (by kernel_rfl) (fun _ _ _ _ _ h => h) (Ys.cons rfl (Or.inl ⟨by rfl, fun W1 hW1 => exec_at rfl rfl rfl (by omega)⟩) (Ys.nil)) (S5) (by rfl) (by rfl) ?_
        refine anyG_one (k := 23) (by kernel_rfl) rfl (by rfl) (fun Q2 hQ2 => ?_); go_wp2_with (refine Arr.store h5 (i := b + j) (by rw [List.length_set, HL.out]; omega) x rfl (.tmp 37) (.tmp 35) rfl rfl rfl rfl ?_; intro w6 h6 u6); refine hQ2 _ _ (fun _ => S5.trans u6 (fun k hk => .inl hk)) ?_; clear hQ2 Q2
        have S6 := S5.trans u6 (fun k hk => .inl hk)
        refine anyG_done (by kernel_rfl) ?_ _
        have X6 := Lib.hid (show Arr w6 g (swr A U B V C (j + 1)) from by rw [← M3.out]; exact h6)
        have U6 := Lib.hid (HU.out.trans S6 (fun k hk => .inl hk))
        clear h5 h6 u5 u6 S0 S5 S6
        go_wp2
        go_roundw
        case rel => exact ⟨j + 1, by omega, by go_num, X6.out, U6.out⟩
        case measure => simp [intOf]; omega
    · obtain rfl : j = k := by omega
      go_wp2
      go_returns
      exact ⟨rfl, by rw [← HE.out]; exact HI.out, HU.out⟩
end Go.Proofs.Ytkjmacdekfbfhaa
