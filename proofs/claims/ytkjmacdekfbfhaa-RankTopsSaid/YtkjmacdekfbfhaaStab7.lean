/- slices.symMergeCmpFunc at samples: a second run of one sample. (fast region, no defers) -/
import Derived.Test.YtkjmacdekfbfhaaStab6
namespace Go.Proofs.Ytkjmacdekfbfhaa
open Go.RowKit
set_option linter.unusedSimpArgs false
set_option linter.unusedVariables false
set_option maxHeartbeats 4000000
set_option maxRecDepth 100000
theorem shq_prev {P Y R : List Smp} {x y : Smp} {t : Nat} (hy : Y[t]? = some y) : (shq P Y x R (t + 1))[P.length + t]? = some y ∧ (shq P Y x R (t + 1))[P.length + t + 1]? = some x ∧ ((shq P Y x R (t + 1)).set (P.length + t + 1) y).set (P.length + t) x = shq P Y x R t := by
  have ht := (List.getElem?_eq_some_iff.1 hy).1
  have hd : Y.drop t = y :: Y.drop (t + 1) := by rw [List.drop_eq_getElem_cons ht, (List.getElem?_eq_some_iff.1 hy).2]
  have e0 : shq P Y x R t = (P ++ Y.take t) ++ x :: ([] ++ y :: (Y.drop (t + 1) ++ R)) := by unfold shq; rw [hd]; simp
  have e1 : shq P Y x R (t + 1) = (P ++ Y.take t) ++ y :: ([] ++ x :: (Y.drop (t + 1) ++ R)) := by unfold shq; rw [take_snoc2 hy]; simp
  have l1 : P.length + t = (P ++ Y.take t).length := by simp; omega
  rw [e0, e1, l1, List.set_comm _ _ (by omega)]
  exact ⟨swap2_fst _ _ _ _ _, by have := swap2_snd (P ++ Y.take t) [] (Y.drop (t + 1) ++ R) y x; simpa using this, swap2 _ [] _ _ _⟩
theorem slices_symRight (g n c a m b : Nat) (P Q : List Smp) (y : Smp) (X : List Smp) (w : World) (ha : a = P.length) (hm : m = a + X.length) (hb : b = m + 1) (hX : 1 < X.length) (hn : b + Q.length = n) (hn2 : n ≤ 100000) (sX : SrtS geb X) (h : Arr w g (P ++ X ++ [y] ++ Q)) :
    Calls Try.prog 158 #[.slice (some ⟨g, 0, none⟩) n c, .int .i64 a, .int .i64 m, .int .i64 b, fTop] w (SrtP w g (P ++ mg geb X [y] ++ Q)) := by
  obtain ⟨K, k1, k2, k3, k4⟩ := right_split y X a m hm sX
  have hbn : b ≤ n := by omega
  have H0 := Lib.hid h
  have HX := Lib.hid (show (P ++ X ++ [y] ++ Q)[m]? = some y from by rw [show m = (P ++ X).length by simp; omega]; simp)
  have HY := Lib.hid (fun (k : Nat) (p1 : a ≤ k) (p2 : k < m) => (show ∃ x, (P ++ X ++ [y] ++ Q)[k]? = some x ∧ geb x y = decide (k < K) from by
    obtain ⟨x, q1, q2⟩ := k3 k p1 p2
    refine ⟨x, ?_, q2⟩
    rw [List.append_assoc, List.getElem?_append_left (by simp; omega), List.getElem?_append_right (by omega), ← q1, ha]))
  have HL := Lib.hid (show (P ++ X ++ [y] ++ Q).length = n from by simp; omega)
  have hxl : (X.drop (K - a)).length = m - K := by rw [List.length_drop]; omega
  have hx2 : (X.take (K - a)).length = K - a := by rw [List.length_take]; omega
  have HS0 := Lib.hid (show P ++ X ++ [y] ++ Q = shq (P ++ X.take (K - a)) (X.drop (K - a)) y Q (m - K) from by unfold shq; rw [List.take_of_length_le (l := X.drop (K - a)) (by omega), List.drop_of_length_le (l := X.drop (K - a)) (by omega), List.append_assoc P (X.take (K - a)), List.take_append_drop]; simp)
  have HSE := Lib.hid (show shq (P ++ X.take (K - a)) (X.drop (K - a)) y Q 0 = P ++ mg geb X [y] ++ Q from by unfold shq; rw [k4]; simp)
  have HSN := Lib.hid (fun (t : Nat) (p : t < m - K) => (show ∃ z, (shq (P ++ X.take (K - a)) (X.drop (K - a)) y Q (t + 1))[K + t]? = some z ∧ (shq (P ++ X.take (K - a)) (X.drop (K - a)) y Q (t + 1))[K + t + 1]? = some y ∧ ((shq (P ++ X.take (K - a)) (X.drop (K - a)) y Q (t + 1)).set (K + t + 1) z).set (K + t) y = shq (P ++ X.take (K - a)) (X.drop (K - a)) y Q t from by
    rw [show K = (P ++ X.take (K - a)).length by rw [List.length_append]; omega]
    rw [show (P ++ X.take (K - a)).length - a = K - a by rw [List.length_append]; omega]
    exact ⟨_, shq_prev (List.getElem?_eq_getElem (by omega))⟩))
  have HSL := Lib.hid (fun t => (show (shq (P ++ X.take (K - a)) (X.drop (K - a)) y Q t).length = n from by unfold shq; simp; omega))
  have hm1 : IntKind.i64.wrap ((b : Int) - (m : Int)) = 1 := by rw [IntKind.wrap_i64]; omega
  have hm0 : ((m : Int) - (a : Int) == 1) = false := by simp; omega
  have hd1 : ((1 : Int) == 1) = true := rfl
  have HM := Lib.hid hb
  generalize shq (P ++ X.take (K - a)) (X.drop (K - a)) y Q = sh at *
  generalize P ++ X ++ [y] ++ Q = L0 at *
  generalize P ++ mg geb X [y] ++ Q = L1 at *
  have ha5 : a ≤ 100000 := by omega
  have ham : a < m := by omega
  have hmn : m < n := by omega
  have eg : ∀ args W, (callFunc 86 args).run Try.prog W = .ok (.enter 86 args) W := fun _ _ => by rfl
  clear hn h k3 k4 hxl hx2 hX sX ha
  clear hm hb
  go_enter Try.func158, Try.ntmps158
  go_wp2
  go_loopw [14, 15] (fun vi vj wr => ∃ (i j : Nat), vi = .int .i64 i ∧ vj = .int .i64 j ∧ a ≤ i ∧ i ≤ K ∧ K ≤ j ∧ j ≤ m ∧ Arr wr g L0 ∧ Upd (fun k => k = g) w wr) (fun vi vj _ => (intOf vj).toNat - (intOf vi).toNat)
  case atStart => exact ⟨a, m, rfl, rfl, Nat.le_refl _, k1, k2, Nat.le_refl _, H0.out, Upd.refl _ _⟩
  case round =>
    obtain ⟨i, j, rfl, rfl, hmi, hiK, hKj, hjb, harr, hup⟩ := hrel
    have HA := Lib.hid harr
    have HU := Lib.hid hup
    clear harr hup
    by_cases hij : i < j
    · obtain ⟨h, hh⟩ : ∃ h, h = (i + j) / 2 := ⟨_, rfl⟩
      have hz : ((i : Int) + (j : Int)) / 2 = (h : Int) := by omega
      have hi5 : i ≤ 100000 := by omega
      have hj5 : j ≤ 100000 := by omega
      have hh1 : i ≤ h := by omega
      have hh2 : h < j := by omega
      obtain ⟨x, hy, hge⟩ := HY.out h (by omega) (by omega)
      have HYy := Lib.hid hy
      obtain ⟨C, hC, hcm⟩ := cmp_hereS y x
      have HC := Lib.hid hcm
      rw [hge] at hC
      clear hy hcm hge hh
      by_cases hhK : h < K
      · rw [decide_eq_true hhK] at hC
        focus (go_upto_region 17 with fail)
        refine wp_region_any (by kernel_rfl) ?_; change wpAny _ _ _ _ _ _ _ (World.drew wr); refine any_of_anyG (late := fun _ => false) (S := fun wS => Below wr.heap.size wr wS) _ _ _ _ ?_
        have S0 := (Below.refl wr.heap.size wr).drew
        refine anyG_takes (is := [0, 1, 2, 3, 4]) (vs := [fTop, _, _, .pointer (some ⟨g, m * 2, none⟩), .agg y.row]) (m := 7) (listed2 := #[true, true, true, true, true, false, false, false, false, false, false, false]) (a2 := ⟨#[_, _, _, _, _, _, _, _, _, _, _, _, _, _, _, _, _, _, _, _, _, _, _, _, _, _, _, _, _, _, _, _, _, _, _, _, _, _, _, _, _, _, _, _, _, _, _, _, _, _, _, _, _, _, _, _, _, _, _, _, _, _, _, _, _, _, _, _, _, _, _, _, _, _, _, _, _, _, _, _, _, _, _, _, _, _, _, _, _, _, _, _, _, _, _, _, _, _, _, _, _, _, _, _, _, _, _, _, _, _, _, _, _, _, _, _, _, _, _, _, _, _, _, _, _, _, _, _, _, _, _, _, _, _, _, _, _, _, _, _, _, _, _, _, _, _, _, _, _, _, _, _, _, _, _, _, _, _, _, _, _, _, _, _, _, _, _, _, _, _, _, _, _, _, _, _, _, _, _, _, _, _, _, _, _, _, _, _, _, _, _, _, _, _, _, _, _, _, _, _, _, _, _, _, _, _, _, _, _, _, _, _, _, _, _, _, _, _, _, _], []⟩) (by kernel_rfl) (fun j hj => by simp at hj) (by kernel_rfl) (fun _ _ _ _ _ h => h) (Ys.cons rfl (Or.inl ⟨by rfl, fun W1 hW1 => by rfl⟩) (Ys.cons rfl (Or.inl ⟨by rfl, fun W1 hW1 => by first | rfl | (go_simp; done) | (go_simp; with_reducible rfl)⟩) (Ys.cons rfl (Or.inl ⟨by rfl, fun W1 hW1 => by first | rfl | (go_simp; done) | (go_simp; with_reducible rfl)⟩) (Ys.cons rfl (Or.inl ⟨by rfl, fun W1 hW1 => exec_at rfl rfl rfl (by omega)⟩) (Ys.cons rfl (Or.inl ⟨by rfl, fun W1 hW1 => exec_load (ty := tSmp) (x := .tmp 95) rfl rfl (Arr.load (HA.out.call hW1) HX.out)⟩) (Ys.nil)))))) (S0) (by rfl) (by rfl) ?_
        refine anyG_takes (is := [5, 6, 7, 8]) (vs := [_, _, .pointer (some ⟨g, h * 2, none⟩), .agg x.row]) (m := 3) (listed2 := #[true, true, true, true, true, true, true, true, true, false, false, false]) (a2 := ⟨#[_, _, _, _, _, _, _, _, _, _, _, _, _, _, _, _, _, _, _, _, _, _, _, _, _, _, _, _, _, _, _, _, _, _, _, _, _, _, _, _, _, _, _, _, _, _, _, _, _, _, _, _, _, _, _, _, _, _, _, _, _, _, _, _, _, _, _, _, _, _, _, _, _, _, _, _, _, _, _, _, _, _, _, _, _, _, _, _, _, _, _, _, _, _, _, _, _, _, _, _, _, _, _, _, _, _, _, _, _, _, _, _, _, _, _, _, _, _, _, _, _, _, _, _, _, _, _, _, _, _, _, _, _, _, _, _, _, _, _, _, _, _, _, _, _, _, _, _, _, _, _, _, _, _, _, _, _, _, _, _, _, _, _, _, _, _, _, _, _, _, _, _, _, _, _, _, _, _, _, _, _, _, _, _, _, _, _, _, _, _, _, _, _, _, _, _, _, _, _, _, _, _, _, _, _, _, _, _, _, _, _, _, _, _, _, _, _, _, _, _], []⟩) (by kernel_rfl) (fun j hj => by simp at hj) (by kernel_rfl) (fun _ _ _ _ _ h => h) (Ys.cons rfl (Or.inl ⟨by rfl, fun W1 hW1 => by first | rfl | (go_simp; done) | (go_simp; with_reducible rfl)⟩) (Ys.cons rfl (Or.inl ⟨by rfl, fun W1 hW1 => by first | rfl | (go_simp; done) | (go_simp; with_reducible rfl)⟩) (Ys.cons rfl (Or.inl ⟨by rfl, fun W1 hW1 => exec_at rfl rfl rfl (by omega)⟩) (Ys.cons rfl (Or.inl ⟨by rfl, fun W1 hW1 => exec_load (ty := tSmp) (x := .tmp 99) rfl rfl (Arr.load (HA.out.call hW1) HYy.out)⟩) (Ys.nil))))) (S0) (by rfl) (by rfl) ?_
        refine anyG_one (k := 9) (by kernel_rfl) rfl (by rfl) (fun Q2 hQ2 => ?_); go_wp2_with (go_at_fn 86; refine (HC.out _).mono ?_; rintro e v9 ⟨rfl, hb9⟩); refine hQ2 _ _ (fun _ => S0.trans (hb9.mono S0.size)) ?_; clear hQ2 Q2
        have S9 := S0.trans (hb9.mono S0.size)
        refine anyG_takes (is := [10, 11]) (vs := [.bool false, .bool true]) (m := 0) (listed2 := #[true, true, true, true, true, true, true, true, true, true, true, true]) (a2 := ⟨#[_, _, _, _, _, _, _, _, _, _, _, _, _, _, _, _, _, _, _, _, _, _, _, _, _, _, _, _, _, _, _, _, _, _, _, _, _, _, _, _, _, _, _, _, _, _, _, _, _, _, _, _, _, _, _, _, _, _, _, _, _, _, _, _, _, _, _, _, _, _, _, _, _, _, _, _, _, _, _, _, _, _, _, _, _, _, _, _, _, _, _, _, _, _, _, _, _, _, _, _, _, _, _, _, _, _, _, _, _, _, _, _, _, _, _, _, _, _, _, _, _, _, _, _, _, _, _, _, _, _, _, _, _, _, _, _, _, _, _, _, _, _, _, _, _, _, _, _, _, _, _, _, _, _, _, _, _, _, _, _, _, _, _, _, _, _, _, _, _, _, _, _, _, _, _, _, _, _, _, _, _, _, _, _, _, _, _, _, _, _, _, _, _, _, _, _, _, _, _, _, _, _, _, _, _, _, _, _, _, _, _, _, _, _, _, _, _, _, _, _], []⟩) (by kernel_rfl) (fun j hj => by simp at hj) (by kernel_rfl) (fun _ _ _ _ _ h => h) (Ys.cons rfl (Or.inl ⟨by rfl, fun W1 hW1 => by go_simp⟩) (Ys.cons rfl (Or.inl ⟨by rfl, fun W1 hW1 => by rfl⟩) (Ys.nil))) (S9) (by rfl) (by rfl) ?_
        refine anyG_done (by kernel_rfl) ?_ _
        have J := Lib.hid (HA.out.call S9)
        have U := Lib.hid (HU.out.call S9)
        clear hb9 S9 S0 HC hC
        go_wp2
        go_roundw
        case rel => exact ⟨h + 1, j, by first | rfl | go_num, rfl, by omega, by omega, by omega, by omega, J.out, U.out⟩
        case measure => first | (simp [intOf]; done) | (simp [intOf]; omega)
      · rw [decide_eq_false hhK] at hC
        focus (go_upto_region 17 with fail)
        refine wp_region_any (by kernel_rfl) ?_; change wpAny _ _ _ _ _ _ _ (World.drew wr); refine any_of_anyG (late := fun _ => false) (S := fun wS => Below wr.heap.size wr wS) _ _ _ _ ?_
        have S0 := (Below.refl wr.heap.size wr).drew
        refine anyG_takes (is := [0, 1, 2, 3, 4]) (vs := [fTop, _, _, .pointer (some ⟨g, m * 2, none⟩), .agg y.row]) (m := 7) (listed2 := #[true, true, true, true, true, false, false, false, false, false, false, false]) (a2 := ⟨#[_, _, _, _, _, _, _, _, _, _, _, _, _, _, _, _, _, _, _, _, _, _, _, _, _, _, _, _, _, _, _, _, _, _, _, _, _, _, _, _, _, _, _, _, _, _, _, _, _, _, _, _, _, _, _, _, _, _, _, _, _, _, _, _, _, _, _, _, _, _, _, _, _, _, _, _, _, _, _, _, _, _, _, _, _, _, _, _, _, _, _, _, _, _, _, _, _, _, _, _, _, _, _, _, _, _, _, _, _, _, _, _, _, _, _, _, _, _, _, _, _, _, _, _, _, _, _, _, _, _, _, _, _, _, _, _, _, _, _, _, _, _, _, _, _, _, _, _, _, _, _, _, _, _, _, _, _, _, _, _, _, _, _, _, _, _, _, _, _, _, _, _, _, _, _, _, _, _, _, _, _, _, _, _, _, _, _, _, _, _, _, _, _, _, _, _, _, _, _, _, _, _, _, _, _, _, _, _, _, _, _, _, _, _, _, _, _, _, _, _], []⟩) (by kernel_rfl) (fun j hj => by simp at hj) (by kernel_rfl) (fun _ _ _ _ _ h => h) (Ys.cons rfl (Or.inl ⟨by rfl, fun W1 hW1 => by rfl⟩) (Ys.cons rfl (Or.inl ⟨by rfl, fun W1 hW1 => by first | rfl | (go_simp; done) | (go_simp; with_reducible rfl)⟩) (Ys.cons rfl (Or.inl ⟨by rfl, fun W1 hW1 => by first | rfl | (go_simp; done) | (go_simp; with_reducible rfl)⟩) (Ys.cons rfl (Or.inl ⟨by rfl, fun W1 hW1 => exec_at rfl rfl rfl (by omega)⟩) (Ys.cons rfl (Or.inl ⟨by rfl, fun W1 hW1 => exec_load (ty := tSmp) (x := .tmp 95) rfl rfl (Arr.load (HA.out.call hW1) HX.out)⟩) (Ys.nil)))))) (S0) (by rfl) (by rfl) ?_
        refine anyG_takes (is := [5, 6, 7, 8]) (vs := [_, _, .pointer (some ⟨g, h * 2, none⟩), .agg x.row]) (m := 3) (listed2 := #[true, true, true, true, true, true, true, true, true, false, false, false]) (a2 := ⟨#[_, _, _, _, _, _, _, _, _, _, _, _, _, _, _, _, _, _, _, _, _, _, _, _, _, _, _, _, _, _, _, _, _, _, _, _, _, _, _, _, _, _, _, _, _, _, _, _, _, _, _, _, _, _, _, _, _, _, _, _, _, _, _, _, _, _, _, _, _, _, _, _, _, _, _, _, _, _, _, _, _, _, _, _, _, _, _, _, _, _, _, _, _, _, _, _, _, _, _, _, _, _, _, _, _, _, _, _, _, _, _, _, _, _, _, _, _, _, _, _, _, _, _, _, _, _, _, _, _, _, _, _, _, _, _, _, _, _, _, _, _, _, _, _, _, _, _, _, _, _, _, _, _, _, _, _, _, _, _, _, _, _, _, _, _, _, _, _, _, _, _, _, _, _, _, _, _, _, _, _, _, _, _, _, _, _, _, _, _, _, _, _, _, _, _, _, _, _, _, _, _, _, _, _, _, _, _, _, _, _, _, _, _, _, _, _, _, _, _, _], []⟩) (by kernel_rfl) (fun j hj => by simp at hj) (by kernel_rfl) (fun _ _ _ _ _ h => h) (Ys.cons rfl (Or.inl ⟨by rfl, fun W1 hW1 => by first | rfl | (go_simp; done) | (go_simp; with_reducible rfl)⟩) (Ys.cons rfl (Or.inl ⟨by rfl, fun W1 hW1 => by first | rfl | (go_simp; done) | (go_simp; with_reducible rfl)⟩) (Ys.cons rfl (Or.inl ⟨by rfl, fun W1 hW1 => exec_at rfl rfl rfl (by omega)⟩) (Ys.cons rfl (Or.inl ⟨by rfl, fun W1 hW1 => exec_load (ty := tSmp) (x := .tmp 99) rfl rfl (Arr.load (HA.out.call hW1) HYy.out)⟩) (Ys.nil))))) (S0) (by rfl) (by rfl) ?_
        refine anyG_one (k := 9) (by kernel_rfl) rfl (by rfl) (fun Q2 hQ2 => ?_); go_wp2_with (go_at_fn 86; refine (HC.out _).mono ?_; rintro e v9 ⟨rfl, hb9⟩); refine hQ2 _ _ (fun _ => S0.trans (hb9.mono S0.size)) ?_; clear hQ2 Q2
        have S9 := S0.trans (hb9.mono S0.size)
        refine anyG_takes (is := [10, 11]) (vs := [.bool true, .bool false]) (m := 0) (listed2 := #[true, true, true, true, true, true, true, true, true, true, true, true]) (a2 := ⟨#[_, _, _, _, _, _, _, _, _, _, _, _, _, _, _, _, _, _, _, _, _, _, _, _, _, _, _, _, _, _, _, _, _, _, _, _, _, _, _, _, _, _, _, _, _, _, _, _, _, _, _, _, _, _, _, _, _, _, _, _, _, _, _, _, _, _, _, _, _, _, _, _, _, _, _, _, _, _, _, _, _, _, _, _, _, _, _, _, _, _, _, _, _, _, _, _, _, _, _, _, _, _, _, _, _, _, _, _, _, _, _, _, _, _, _, _, _, _, _, _, _, _, _, _, _, _, _, _, _, _, _, _, _, _, _, _, _, _, _, _, _, _, _, _, _, _, _, _, _, _, _, _, _, _, _, _, _, _, _, _, _, _, _, _, _, _, _, _, _, _, _, _, _, _, _, _, _, _, _, _, _, _, _, _, _, _, _, _, _, _, _, _, _, _, _, _, _, _, _, _, _, _, _, _, _, _, _, _, _, _, _, _, _, _, _, _, _, _, _, _], []⟩) (by kernel_rfl) (fun j hj => by simp at hj) (by kernel_rfl) (fun _ _ _ _ _ h => h) (Ys.cons rfl (Or.inl ⟨by rfl, fun W1 hW1 => by go_simp⟩) (Ys.cons rfl (Or.inl ⟨by rfl, fun W1 hW1 => by rfl⟩) (Ys.nil))) (S9) (by rfl) (by rfl) ?_
        refine anyG_done (by kernel_rfl) ?_ _
        have J := Lib.hid (HA.out.call S9)
        have U := Lib.hid (HU.out.call S9)
        clear hb9 S9 S0 HC hC
        go_wp2
        go_roundw
        case rel => exact ⟨i, h, rfl, by first | rfl | go_num, by omega, by omega, by omega, by omega, J.out, U.out⟩
        case measure => first | (simp [intOf]; done) | (simp [intOf]; omega)
    · obtain rfl : i = K := by omega
      obtain rfl : i = j := by omega
      have hK5 : i ≤ 100000 := by omega
      have A0 := Lib.hid (show Arr wr g (sh (m - i)) from by rw [← HS0.out]; exact HA.out)
      clear hij
      go_wp2
      go_loopw [17] (fun vk wr => ∃ (k t : Nat), vk = .int .i64 k ∧ k = i + t ∧ t ≤ m - i ∧ Arr wr g (sh t) ∧ Upd (fun k => k = g) w wr) (fun vk _ => (intOf vk).toNat)
      case atStart => exact ⟨m, m - i, rfl, by omega, Nat.le_refl _, A0.out, HU.out⟩
      case round =>
        obtain ⟨k1, t1, rfl, hkt, ht, harr, hup⟩ := hrel
        have HKt := Lib.hid hkt
        have HB := Lib.hid harr
        have HV := Lib.hid hup
        clear harr hup
        by_cases hki : i < k1
        · obtain ⟨t, rfl⟩ : ∃ t, t1 = t + 1 := ⟨t1 - 1, by omega⟩
          obtain ⟨k, rfl⟩ : ∃ k, k1 = k + 1 := ⟨k1 - 1, by omega⟩
          obtain ⟨z, s1, s2, s3⟩ := HSN.out t (by omega)
          rw [show i + t = k by omega] at s1 s2 s3
          have M1 := Lib.hid s1
          have M2 := Lib.hid s2
          have M3 := Lib.hid s3
          have hz1 : IntKind.i64.wrap (k : Int) = (k : Int) := by rw [IntKind.wrap_i64]; omega
          have hkz : (i : Int) < (k : Int) + 1 := by omega
          have hk5 : k + 1 < n := by omega
          clear s1 s2 s3 hkt
          focus (go_upto_region 23 with fail)
          refine wp_region_any (by kernel_rfl) ?_; change wpAny _ _ _ _ _ _ _ (World.drew wr); refine any_of_anyG (late := fun _ => false) (S := fun wS => Upd (fun k => k = g) wr wS) _ _ _ _ ?_
          have S0 := (Upd.refl (fun k => k = g) wr).drew
          refine anyG_takes (is := [0, 1, 2, 3, 4]) (vs := [_, _, _, _, .int .i64 (k : Int)]) (m := 13) (listed2 := #[true, true, true, true, true, false, false, false, false, false, false, false, false, false, false, false, false, false]) (a2 := ⟨#[_, _, _, _, _, _, _, _, _, _, _, _, _, _, _, _, _, _, _, _, _, _, _, _, _, _, _, _, _, _, _, _, _, _, _, _, _, _, _, _, _, _, _, _, _, _, _, _, _, _, _, _, _, _, _, _, _, _, _, _, _, _, _, _, _, _, _, _, _, _, _, _, _, _, _, _, _, _, _, _, _, _, _, _, _, _, _, _, _, _, _, _, _, _, _, _, _, _, _, _, _, _, _, _, _, _, _, _, _, _, _, _, _, _, _, _, _, _, _, _, _, _, _, _, _, _, _, _, _, _, _, _, _, _, _, _, _, _, _, _, _, _, _, _, _, _, _, _, _, _, _, _, _, _, _, _, _, _, _, _, _, _, _, _, _, _, _, _, _, _, _, _, _, _, _, _, _, _, _, _, _, _, _, _, _, _, _, _, _, _, _, _, _, _, _, _, _, _, _, _, _, _, _, _, _, _, _, _, _, _, _, _, _, _, _, _, _, _, _, _], []⟩) (by kernel_rfl) (fun j hj => by simp at hj) (by kernel_rfl) (fun _ _ _ _ _ h => h) (Ys.cons rfl (Or.inl ⟨by rfl, fun W1 hW1 => by first | rfl | (go_simp; done) | (go_simp; with_reducible rfl)⟩) (Ys.cons rfl (Or.inl ⟨by rfl, fun W1 hW1 => by first | rfl | (go_simp; done) | (go_simp; with_reducible rfl)⟩) (Ys.cons rfl (Or.inl ⟨by rfl, fun W1 hW1 => by first | rfl | (go_simp; done) | (go_simp; with_reducible rfl)⟩) (Ys.cons rfl (Or.inl ⟨by rfl, fun W1 hW1 => by first | rfl | (go_simp; done) | (go_simp; with_reducible rfl)⟩) (Ys.cons rfl (Or.inl ⟨by rfl, fun W1 hW1 => by go_simp⟩) (Ys.nil)))))) (S0) (by rfl) (by rfl) ?_
          refine anyG_takes (is := [5, 6, 7, 8, 10]) (vs := [_, _, .int .i64 (k : Int), .pointer (some ⟨g, k * 2, none⟩), _]) (m := 8) (listed2 := #[true, true, true, true, true, true, true, true, true, false, true, false, false, false, false, false, false, false]) (a2 := ⟨#[_, _, _, _, _, _, _, _, _, _, _, _, _, _, _, _, _, _, _, _, _, _, _, _, _, _, _, _, _, _, _, _, _, _, _, _, _, _, _, _, _, _, _, _, _, _, _, _, _, _, _, _, _, _, _, _, _, _, _, _, _, _, _, _, _, _, _, _, _, _, _, _, _, _, _, _, _, _, _, _, _, _, _, _, _, _, _, _, _, _, _, _, _, _, _, _, _, _, _, _, _, _, _, _, _, _, _, _, _, _, _, _, _, _, _, _, _, _, _, _, _, _, _, _, _, _, _, _, _, _, _, _, _, _, _, _, _, _, _, _, _, _, _, _, _, _, _, _, _, _, _, _, _, _, _, _, _, _, _, _, _, _, _, _, _, _, _, _, _, _, _, _, _, _, _, _, _, _, _, _, _, _, _, _, _, _, _, _, _, _, _, _, _, _, _, _, _, _, _, _, _, _, _, _, _, _, _, _, _, _, _, _, _, _, _, _, _, _, _, _], []⟩) (by kernel_rfl) (fun j hj => by simp at hj) (by kernel_rfl) (fun _ _ _ _ _ h => h) (Ys.cons rfl (Or.inl ⟨by rfl, fun W1 hW1 => by first | rfl | (go_simp; done) | (go_simp; with_reducible rfl)⟩) (Ys.cons rfl (Or.inl ⟨by rfl, fun W1 hW1 => by first | rfl | (go_simp; done) | (go_simp; with_reducible rfl)⟩) (Ys.cons rfl (Or.inl ⟨by rfl, fun W1 hW1 => by go_simp⟩) (Ys.cons rfl (Or.inl ⟨by rfl, fun W1 hW1 => exec_at rfl rfl rfl (by omega)⟩) (Ys.cons rfl (Or.inl ⟨by rfl, fun W1 hW1 => by first | rfl | (go_simp; done) | (go_simp; with_reducible rfl)⟩) (Ys.nil)))))) (S0) (by rfl) (by rfl) ?_
          refine anyG_takes (is := [11, 12]) (vs := [_, .pointer (some ⟨g, (k + 1) * 2, none⟩)]) (m := 6) (listed2 := #[true, true, true, true, true, true, true, true, true, false, true, true, true, false, false, false, false, false]) (a2 := ⟨#[_, _, _, _, _, _, _, _, _, _, _, _, _, _, _, _, _, _, _, _, _, _, _, _, _, _, _, _, _, _, _, _, _, _, _, _, _, _, _, _, _, _, _, _, _, _, _, _, _, _, _, _, _, _, _, _, _, _, _, _, _, _, _, _, _, _, _, _, _, _, _, _, _, _, _, _, _, _, _, _, _, _, _, _, _, _, _, _, _, _, _, _, _, _, _, _, _, _, _, _, _, _, _, _, _, _, _, _, _, _, _, _, _, _, _, _, _, _, _, _, _, _, _, _, _, _, _, _, _, _, _, _, _, _, _, _, _, _, _, _, _, _, _, _, _, _, _, _, _, _, _, _, _, _, _, _, _, _, _, _, _, _, _, _, _, _, _, _, _, _, _, _, _, _, _, _, _, _, _, _, _, _, _, _, _, _, _, _, _, _, _, _, _, _, _, _, _, _, _, _, _, _, _, _, _, _, _, _, _, _, _, _, _, _, _, _, _, _, _, _], []⟩) (by kernel_rfl) (fun j hj => by simp at hj) (by kernel_rfl) (fun _ _ _ _ _ h => h) (Ys.cons rfl (Or.inl ⟨by rfl, fun W1 hW1 => by first | rfl | (go_simp; done) | (go_simp; with_reducible rfl)⟩) (Ys.cons rfl (Or.inl ⟨by rfl, fun W1 hW1 => exec_at rfl rfl rfl (by omega)⟩) (Ys.nil))) (S0) (by rfl) (by rfl) ?_
          refine anyG_two (i := 9) (j := 13) (by kernel_rfl) rfl (by rfl) rfl (by rfl) (fun Q2 hQ2 => ?_) (fun Q2 hQ2 => ?_)
          ·
            go_wp2_with (refine Arr.ld (w := wr.drew) HB.out M1.out rfl (.tmp 121) rfl rfl rfl ?_)
            refine hQ2 _ _ (fun _ => S0) ?_
            clear hQ2 Q2
            refine anyG_one (k := 13) (by kernel_rfl) rfl (by rfl) (fun Q2 hQ2 => ?_); go_wp2_with (refine Arr.ld (w := wr.drew) HB.out M2.out rfl (.tmp 125) rfl rfl rfl ?_); refine hQ2 _ _ (fun _ => S0) ?_; clear hQ2 Q2
            refine anyG_takes (is := [14]) (vs := [.pointer (some ⟨g, (k + 1) * 2, none⟩)]) (m := 3) (listed2 := #[true, true, true, true, true, true, true, true, true, true, true, true, true, true, true, false, false, false]) (a2 := ⟨#[_, _, _, _, _, _, _, _, _, _, _, _, _, _, _, _, _, _, _, _, _, _, _, _, _, _, _, _, _, _, _, _, _, _, _, _, _, _, _, _, _, _, _, _, _, _, _, _, _, _, _, _, _, _, _, _, _, _, _, _, _, _, _, _, _, _, _, _, _, _, _, _, _, _, _, _, _, _, _, _, _, _, _, _, _, _, _, _, _, _, _, _, _, _, _, _, _, _, _, _, _, _, _, _, _, _, _, _, _, _, _, _, _, _, _, _, _, _, _, _, _, _, _, _, _, _, _, _, _, _, _, _, _, _, _, _, _, _, _, _, _, _, _, _, _, _, _, _, _, _, _, _, _, _, _, _, _, _, _, _, _, _, _, _, _, _, _, _, _, _, _, _, _, _, _, _, _, _, _, _, _, _, _, _, _, _, _, _, _, _, _, _, _, _, _, _, _, _, _, _, _, _, _, _, _, _, _, _, _, _, _, _, _, _, _, _, _, _, _, _], []⟩) (by kernel_rfl) (fun j hj => by simp at hj) (by kernel_rfl) (fun _ _ _ _ _ h => h) (Ys.cons rfl (Or.inl ⟨by rfl, fun W1 hW1 => exec_at rfl rfl rfl (by omega)⟩) (Ys.nil)) (S0) (by rfl) (by rfl) ?_
            refine anyG_one (k := 15) (by kernel_rfl) rfl (by rfl) (fun Q2 hQ2 => ?_); go_wp2_with (refine Arr.store (w := wr.drew) HB.out (i := k + 1) (by rw [HSL.out]; omega) z rfl (.tmp 127) (.tmp 122) rfl rfl rfl rfl ?_; intro w5 h5 u5); refine hQ2 _ _ (fun _ => S0.trans u5 (fun k hk => .inl hk)) ?_; clear hQ2 Q2
            have S5 := S0.trans u5 (fun k hk => .inl hk)
            refine anyG_takes (is := [16]) (vs := [.pointer (some ⟨g, k * 2, none⟩)]) (m := 1) (listed2 := #[true, true, true, true, true, true, true, true, true, true, true, true, true, true, true, true, true, false]) (a2 := ⟨#[_, _, _, _, _, _, _, _, _, _, _, _, _, _, _, _, _, _, _, _, _, _, _, _, _, _, _, _, _, _, _, _, _, _, _, _, _, _, _, _, _, _, _, _, _, _, _, _, _, _, _, _, _, _, _, _, _, _, _, _, _, _, _, _, _, _, _, _, _, _, _, _, _, _, _, _, _, _, _, _, _, _, _, _, _, _, _, _, _, _, _, _, _, _, _, _, _, _, _, _, _, _, _, _, _, _, _, _, _, _, _, _, _, _, _, _, _, _, _, _, _, _, _, _, _, _, _, _, _, _, _, _, _, _, _, _, _, _, _, _, _, _, _, _, _, _, _, _, _, _, _, _, _, _, _, _, _, _, _, _, _, _, _, _, _, _, _, _, _, _, _, _, _, _, _, _, _, _, _, _, _, _, _, _, _, _, _, _, _, _, _, _, _, _, _, _, _, _, _, _, _, _, _, _, _, _, _, _, _, _, _, _, _, _, _, _, _, _, _, _], []⟩) (by kernel_rfl) (fun j hj => by simp at hj) (by kernel_rfl) (fun _ _ _ _ _ h => h) (Ys.cons rfl (Or.inl ⟨by rfl, fun W1 hW1 => exec_at rfl rfl rfl (by omega)⟩) (Ys.nil)) (S5) (by rfl) (by rfl) ?_
            refine anyG_one (k := 17) (by kernel_rfl) rfl (by rfl) (fun Q2 hQ2 => ?_); go_wp2_with (refine Arr.store h5 (i := k) (by rw [List.length_set, HSL.out]; omega) y rfl (.tmp 128) (.tmp 126) rfl rfl rfl rfl ?_; intro w6 h6 u6); refine hQ2 _ _ (fun _ => S5.trans u6 (fun k hk => .inl hk)) ?_; clear hQ2 Q2
            have S6 := S5.trans u6 (fun k hk => .inl hk)
            refine anyG_done (by kernel_rfl) ?_ _
            have X6 := Lib.hid (show Arr w6 g (sh t) from by rw [← M3.out]; exact h6)
            have U6 := Lib.hid (HV.out.trans S6 (fun k hk => .inl hk))
            clear h5 h6 u5 u6 S0 S5 S6
            go_wp2
            go_roundw
            case rel => exact ⟨k, t, by first | rfl | go_num, by have := HKt.out; omega, by omega, X6.out, U6.out⟩
            case measure => first | (simp [intOf]; done) | (simp [intOf]; omega)
          ·
            go_wp2_with (refine Arr.ld (w := wr.drew) HB.out M2.out rfl (.tmp 125) rfl rfl rfl ?_)
            refine hQ2 _ _ (fun _ => S0) ?_
            clear hQ2 Q2
            refine anyG_one (k := 9) (by kernel_rfl) rfl (by rfl) (fun Q2 hQ2 => ?_); go_wp2_with (refine Arr.ld (w := wr.drew) HB.out M1.out rfl (.tmp 121) rfl rfl rfl ?_); refine hQ2 _ _ (fun _ => S0) ?_; clear hQ2 Q2
            refine anyG_takes (is := [14]) (vs := [.pointer (some ⟨g, (k + 1) * 2, none⟩)]) (m := 3) (listed2 := #[true, true, true, true, true, true, true, true, true, true, true, true, true, true, true, false, false, false]) (a2 := ⟨#[_, _, _, _, _, _, _, _, _, _, _, _, _, _, _, _, _, _, _, _, _, _, _, _, _, _, _, _, _, _, _, _, _, _, _, _, _, _, _, _, _, _, _, _, _, _, _, _, _, _, _, _, _, _, _, _, _, _, _, _, _, _, _, _, _, _, _, _, _, _, _, _, _, _, _, _, _, _, _, _, _, _, _, _, _, _, _, _, _, _, _, _, _, _, _, _, _, _, _, _, _, _, _, _, _, _, _, _, _, _, _, _, _, _, _, _, _, _, _, _, _, _, _, _, _, _, _, _, _, _, _, _, _, _, _, _, _, _, _, _, _, _, _, _, _, _, _, _, _, _, _, _, _, _, _, _, _, _, _, _, _, _, _, _, _, _, _, _, _, _, _, _, _, _, _, _, _, _, _, _, _, _, _, _, _, _, _, _, _, _, _, _, _, _, _, _, _, _, _, _, _, _, _, _, _, _, _, _, _, _, _, _, _, _, _, _, _, _, _, _], []⟩) (by kernel_rfl) (fun j hj => by simp at hj) (by kernel_rfl) (fun _ _ _ _ _ h => h) (Ys.cons rfl (Or.inl ⟨by rfl, fun W1 hW1 => exec_at rfl rfl rfl (by omega)⟩) (Ys.nil)) (S0) (by rfl) (by rfl) ?_
            refine anyG_one (k := 15) (by kernel_rfl) rfl (by rfl) (fun Q2 hQ2 => ?_); go_wp2_with (refine Arr.store (w := wr.drew) HB.out (i := k + 1) (by rw [HSL.out]; omega) z rfl (.tmp 127) (.tmp 122) rfl rfl rfl rfl ?_; intro w5 h5 u5); refine hQ2 _ _ (fun _ => S0.trans u5 (fun k hk => .inl hk)) ?_; clear hQ2 Q2
            have S5 := S0.trans u5 (fun k hk => .inl hk)
            refine anyG_takes (is := [16]) (vs := [.pointer (some ⟨g, k * 2, none⟩)]) (m := 1) (listed2 := #[true, true, true, true, true, true, true, true, true, true, true, true, true, true, true, true, true, false]) (a2 := ⟨#[_, _, _, _, _, _, _, _, _, _, _, _, _, _, _, _, _, _, _, _, _, _, _, _, _, _, _, _, _, _, _, _, _, _, _, _, _, _, _, _, _, _, _, _, _, _, _, _, _, _, _, _, _, _, _, _, _, _, _, _, _, _, _, _, _, _, _, _, _, _, _, _, _, _, _, _, _, _, _, _, _, _, _, _, _, _, _, _, _, _, _, _, _, _, _, _, _, _, _, _, _, _, _, _, _, _, _, _, _, _, _, _, _, _, _, _, _, _, _, _, _, _, _, _, _, _, _, _, _, _, _, _, _, _, _, _, _, _, _, _, _, _, _, _, _, _, _, _, _, _, _, _, _, _, _, _, _, _, _, _, _, _, _, _, _, _, _, _, _, _, _, _, _, _, _, _, _, _, _, _, _, _, _, _, _, _, _, _, _, _, _, _, _, _, _, _, _, _, _, _, _, _, _, _, _, _, _, _, _, _, _, _, _, _, _, _, _, _, _, _], []⟩) (by kernel_rfl) (fun j hj => by simp at hj) (by kernel_rfl) (fun _ _ _ _ _ h => h) (Ys.cons rfl (Or.inl ⟨by rfl, fun W1 hW1 => exec_at rfl rfl rfl (by omega)⟩) (Ys.nil)) (S5) (by rfl) (by rfl) ?_
            refine anyG_one (k := 17) (by kernel_rfl) rfl (by rfl) (fun Q2 hQ2 => ?_); go_wp2_with (refine Arr.store h5 (i := k) (by rw [List.length_set, HSL.out]; omega) y rfl (.tmp 128) (.tmp 126) rfl rfl rfl rfl ?_; intro w6 h6 u6); refine hQ2 _ _ (fun _ => S5.trans u6 (fun k hk => .inl hk)) ?_; clear hQ2 Q2
            have S6 := S5.trans u6 (fun k hk => .inl hk)
            refine anyG_done (by kernel_rfl) ?_ _
            have X6 := Lib.hid (show Arr w6 g (sh t) from by rw [← M3.out]; exact h6)
            have U6 := Lib.hid (HV.out.trans S6 (fun k hk => .inl hk))
            clear h5 h6 u5 u6 S0 S5 S6
            go_wp2
            go_roundw
            case rel => exact ⟨k, t, by first | rfl | go_num, by have := HKt.out; omega, by omega, X6.out, U6.out⟩
            case measure => first | (simp [intOf]; done) | (simp [intOf]; omega)
        · obtain rfl : t1 = 0 := by omega
          have hkz : (k1 : Int) ≤ (i : Int) := by omega
          have HE := Lib.hid (show Arr wr g L1 from by rw [← HSE.out]; exact HB.out)
          clear hkt
          go_wp2
          go_returns
          exact ⟨rfl, HE.out, HV.out⟩
end Go.Proofs.Ytkjmacdekfbfhaa
