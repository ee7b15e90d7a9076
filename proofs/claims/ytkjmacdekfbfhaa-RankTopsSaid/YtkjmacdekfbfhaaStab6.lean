/- slices.symMergeCmpFunc at samples: a first run of one sample. (fast region, no defers) -/
import Derived.Test.YtkjmacdekfbfhaaStab5
import Derived.Test.YtkjmacdekfbfhaaStab2
namespace Go.Proofs.Ytkjmacdekfbfhaa
open Go.RowKit
set_option linter.unusedSimpArgs false
set_option linter.unusedVariables false
set_option maxHeartbeats 4000000
set_option maxRecDepth 100000
theorem cmp_hereS (x y : Smp) : ∃ C : Int, decide (C < 0) = !geb y x ∧ ∀ W, Calls Try.prog 86 #[.agg x.row, .agg y.row] W fun e w' => e = .returned (.int .i64 C) ∧ Below W.heap.size W w' :=
  ⟨cmpq x y, cmpq_lt x y, fun W => top_cmp x y W⟩
/-- x on its way up, t samples passed. -/
def shq (P Y : List Smp) (x : Smp) (R : List Smp) (t : Nat) : List Smp := P ++ Y.take t ++ x :: (Y.drop t ++ R)
theorem shq_next {P Y R : List Smp} {x y : Smp} {t : Nat} (hy : Y[t]? = some y) : (shq P Y x R t)[P.length + t]? = some x ∧ (shq P Y x R t)[P.length + t + 1]? = some y ∧ ((shq P Y x R t).set (P.length + t) y).set (P.length + t + 1) x = shq P Y x R (t + 1) := by
  have ht := (List.getElem?_eq_some_iff.1 hy).1
  have hd : Y.drop t = y :: Y.drop (t + 1) := by rw [List.drop_eq_getElem_cons ht, (List.getElem?_eq_some_iff.1 hy).2]
  have e0 : shq P Y x R t = (P ++ Y.take t) ++ x :: ([] ++ y :: (Y.drop (t + 1) ++ R)) := by unfold shq; rw [hd]; simp
  have e1 : shq P Y x R (t + 1) = (P ++ Y.take t) ++ y :: ([] ++ x :: (Y.drop (t + 1) ++ R)) := by unfold shq; rw [take_snoc2 hy]; simp
  have l1 : P.length + t = (P ++ Y.take t).length := by simp; omega
  rw [e0, e1, l1]
  exact ⟨swap2_fst _ _ _ _ _, by have := swap2_snd (P ++ Y.take t) [] (Y.drop (t + 1) ++ R) x y; simpa using this, swap2 _ [] _ _ _⟩
theorem slices_symLeft (g n c a m b : Nat) (P Q : List Smp) (x : Smp) (Y : List Smp) (w : World) (ha : a = P.length) (hm : m = a + 1) (hb : b = m + Y.length) (hY : 0 < Y.length) (hn : b + Q.length = n) (hn2 : n ≤ 100000) (sY : SrtS geb Y) (h : Arr w g (P ++ [x] ++ Y ++ Q)) :
    Calls Try.prog 158 #[.slice (some ⟨g, 0, none⟩) n c, .int .i64 a, .int .i64 m, .int .i64 b, fTop] w (SrtP w g (P ++ mg geb [x] Y ++ Q)) := by
  obtain ⟨K, k1, k2, k3, k4⟩ := left_split x Y m b hb sY
  have hbn : b ≤ n := by omega
  have hmb : m < b := by omega
  have H0 := Lib.hid h
  have HX := Lib.hid (show (P ++ [x] ++ Y ++ Q)[a]? = some x from by rw [ha]; simp)
  have HY := Lib.hid (fun (k : Nat) (p1 : m ≤ k) (p2 : k < b) => (show ∃ y, (P ++ [x] ++ Y ++ Q)[k]? = some y ∧ geb x y = !decide (k < K) from by
    obtain ⟨y, q1, q2⟩ := k3 k p1 p2
    refine ⟨y, ?_, q2⟩
    rw [List.append_assoc, List.getElem?_append_right (by simp; omega), List.getElem?_append_left (by simp; omega), ← q1]
    congr 1; simp; omega))
  have HL := Lib.hid (show (P ++ [x] ++ Y ++ Q).length = n from by simp; omega)
  have HS0 := Lib.hid (show P ++ [x] ++ Y ++ Q = shq P (Y.take (K - m)) x (Y.drop (K - m) ++ Q) 0 from by unfold shq; rw [List.take_zero, List.append_nil, List.drop_zero, ← List.append_assoc (Y.take (K - m)), List.take_append_drop]; simp)
  have hyl : (Y.take (K - m)).length = K - m := by rw [List.length_take]; omega
  have HSE := Lib.hid (show shq P (Y.take (K - m)) x (Y.drop (K - m) ++ Q) (K - m) = P ++ mg geb [x] Y ++ Q from by unfold shq; rw [k4, List.take_of_length_le (by omega), List.drop_of_length_le (by omega)]; simp)
  have HSN := Lib.hid (fun (t : Nat) (p : t < K - m) => (show ∃ y, (shq P (Y.take (K - m)) x (Y.drop (K - m) ++ Q) t)[a + t]? = some x ∧ (shq P (Y.take (K - m)) x (Y.drop (K - m) ++ Q) t)[a + t + 1]? = some y ∧ ((shq P (Y.take (K - m)) x (Y.drop (K - m) ++ Q) t).set (a + t) y).set (a + t + 1) x = shq P (Y.take (K - m)) x (Y.drop (K - m) ++ Q) (t + 1) from by
    rw [ha]; exact ⟨_, shq_next (List.getElem?_eq_getElem (by omega))⟩))
  have HSL := Lib.hid (fun t => (show (shq P (Y.take (K - m)) x (Y.drop (K - m) ++ Q) t).length = n from by unfold shq; simp; omega))
  have hm1 : IntKind.i64.wrap ((m : Int) - (a : Int)) = 1 := by rw [IntKind.wrap_i64]; omega
  have hd1 : ((1 : Int) == 1) = true := rfl
  have HM := Lib.hid hm
  generalize shq P (Y.take (K - m)) x (Y.drop (K - m) ++ Q) = sh at *
  generalize P ++ [x] ++ Y ++ Q = L0 at *
  generalize P ++ mg geb [x] Y ++ Q = L1 at *
  have ha5 : a ≤ 100000 := by omega
  have ham : a < m := by omega
  have eg : ∀ args W, (callFunc 86 args).run Try.prog W = .ok (.enter 86 args) W := fun _ _ => by rfl
  clear ha hb hn h k3 k4 hyl hY sY
  clear hm
  go_enter Try.func158, Try.ntmps158
  go_wp2
  go_loopw [10, 11] (fun vi vj wr => ∃ (i j : Nat), vi = .int .i64 i ∧ vj = .int .i64 j ∧ m ≤ i ∧ i ≤ K ∧ K ≤ j ∧ j ≤ b ∧ Arr wr g L0 ∧ Upd (fun k => k = g) w wr) (fun vi vj _ => (intOf vj).toNat - (intOf vi).toNat)
  case atStart => exact ⟨m, b, rfl, rfl, Nat.le_refl _, k1, k2, Nat.le_refl _, H0.out, Upd.refl _ _⟩
  case round =>
    obtain ⟨i, j, rfl, rfl, hmi, hiK, hKj, hjb, harr, hup⟩ := hrel
    have HA := Lib.hid harr
    have HU := Lib.hid hup
    clear harr hup
    by_cases hij : i < j
    · obtain ⟨h, hh⟩ : ∃ h, h = (i + j) / 2 := ⟨_, rfl⟩
      have hz : ((i : Int) + (j : Int)) / 2 = (h : Int) := by omega
      have hi5 : i ≤ 100000 := by omega
      have hj5 : j ≤ 100000 := by omega
      have hh1 : i ≤ h := by omega
      have hh2 : h < j := by omega
      obtain ⟨y, hy, hge⟩ := HY.out h (by omega) (by omega)
      have HYy := Lib.hid hy
      obtain ⟨C, hC, hcm⟩ := cmp_hereS y x
      have HC := Lib.hid hcm
      rw [hge] at hC
      clear hy hcm hge hh
      by_cases hhK : h < K
      · rw [decide_eq_true hhK] at hC
        focus (go_upto_region 5 with fail)
        refine wp_region_any (by kernel_rfl) ?_; change wpAny _ _ _ _ _ _ _ (World.drew wr); refine any_of_anyG (late := fun _ => false) (S := fun wS => Below wr.heap.size wr wS) _ _ _ _ ?_
        have S0 := (Below.refl wr.heap.size wr).drew
        refine anyG_takes (is := [0, 1, 2, 3, 4]) (vs := [fTop, _, _, .pointer (some ⟨g, h * 2, none⟩), .agg y.row]) (m := 6) (listed2 := #[true, true, true, true, true, false, false, false, false, false, false]) (a2 := ⟨#[_, _, _, _, _, _, _, _, _, _, _, _, _, _, _, _, _, _, _, _, _, _, _, _, _, _, _, _, _, _, _, _, _, _, _, _, _, _, _, _, _, _, _, _, _, _, _, _, _, _, _, _, _, _, _, _, _, _, _, _, _, _, _, _, _, _, _, _, _, _, _, _, _, _, _, _, _, _, _, _, _, _, _, _, _, _, _, _, _, _, _, _, _, _, _, _, _, _, _, _, _, _, _, _, _, _, _, _, _, _, _, _, _, _, _, _, _, _, _, _, _, _, _, _, _, _, _, _, _, _, _, _, _, _, _, _, _, _, _, _, _, _, _, _, _, _, _, _, _, _, _, _, _, _, _, _, _, _, _, _, _, _, _, _, _, _, _, _, _, _, _, _, _, _, _, _, _, _, _, _, _, _, _, _, _, _, _, _, _, _, _, _, _, _, _, _, _, _, _, _, _, _, _, _, _, _, _, _, _, _, _, _, _, _, _, _, _, _, _, _], []⟩) (by kernel_rfl) (fun j hj => by simp at hj) (by kernel_rfl) (fun _ _ _ _ _ h => h) (Ys.cons rfl (Or.inl ⟨by rfl, fun W1 hW1 => by rfl⟩) (Ys.cons rfl (Or.inl ⟨by rfl, fun W1 hW1 => by first | rfl | (go_simp; done) | (go_simp; with_reducible rfl)⟩) (Ys.cons rfl (Or.inl ⟨by rfl, fun W1 hW1 => by first | rfl | (go_simp; done) | (go_simp; with_reducible rfl)⟩) (Ys.cons rfl (Or.inl ⟨by rfl, fun W1 hW1 => exec_at rfl rfl rfl (by omega)⟩) (Ys.cons rfl (Or.inl ⟨by rfl, fun W1 hW1 => exec_load (ty := tSmp) (x := .tmp 43) rfl rfl (Arr.load (HA.out.call hW1) HYy.out)⟩) (Ys.nil)))))) (S0) (by rfl) (by rfl) ?_
        refine anyG_takes (is := [5, 6, 7, 8]) (vs := [_, _, .pointer (some ⟨g, a * 2, none⟩), .agg x.row]) (m := 2) (listed2 := #[true, true, true, true, true, true, true, true, true, false, false]) (a2 := ⟨#[_, _, _, _, _, _, _, _, _, _, _, _, _, _, _, _, _, _, _, _, _, _, _, _, _, _, _, _, _, _, _, _, _, _, _, _, _, _, _, _, _, _, _, _, _, _, _, _, _, _, _, _, _, _, _, _, _, _, _, _, _, _, _, _, _, _, _, _, _, _, _, _, _, _, _, _, _, _, _, _, _, _, _, _, _, _, _, _, _, _, _, _, _, _, _, _, _, _, _, _, _, _, _, _, _, _, _, _, _, _, _, _, _, _, _, _, _, _, _, _, _, _, _, _, _, _, _, _, _, _, _, _, _, _, _, _, _, _, _, _, _, _, _, _, _, _, _, _, _, _, _, _, _, _, _, _, _, _, _, _, _, _, _, _, _, _, _, _, _, _, _, _, _, _, _, _, _, _, _, _, _, _, _, _, _, _, _, _, _, _, _, _, _, _, _, _, _, _, _, _, _, _, _, _, _, _, _, _, _, _, _, _, _, _, _, _, _, _, _, _], []⟩) (by kernel_rfl) (fun j hj => by simp at hj) (by kernel_rfl) (fun _ _ _ _ _ h => h) (Ys.cons rfl (Or.inl ⟨by rfl, fun W1 hW1 => by first | rfl | (go_simp; done) | (go_simp; with_reducible rfl)⟩) (Ys.cons rfl (Or.inl ⟨by rfl, fun W1 hW1 => by first | rfl | (go_simp; done) | (go_simp; with_reducible rfl)⟩) (Ys.cons rfl (Or.inl ⟨by rfl, fun W1 hW1 => exec_at rfl rfl rfl (by omega)⟩) (Ys.cons rfl (Or.inl ⟨by rfl, fun W1 hW1 => exec_load (ty := tSmp) (x := .tmp 47) rfl rfl (Arr.load (HA.out.call hW1) HX.out)⟩) (Ys.nil))))) (S0) (by rfl) (by rfl) ?_
        refine anyG_one (k := 9) (by kernel_rfl) rfl (by rfl) (fun Q2 hQ2 => ?_); go_wp2_with (go_at_fn 86; refine (HC.out _).mono ?_; rintro e v9 ⟨rfl, hb9⟩); refine hQ2 _ _ (fun _ => S0.trans (hb9.mono S0.size)) ?_; clear hQ2 Q2
        have S9 := S0.trans (hb9.mono S0.size)
        refine anyG_takes (is := [10]) (vs := [.bool true]) (m := 0) (listed2 := #[true, true, true, true, true, true, true, true, true, true, true]) (a2 := ⟨#[_, _, _, _, _, _, _, _, _, _, _, _, _, _, _, _, _, _, _, _, _, _, _, _, _, _, _, _, _, _, _, _, _, _, _, _, _, _, _, _, _, _, _, _, _, _, _, _, _, _, _, _, _, _, _, _, _, _, _, _, _, _, _, _, _, _, _, _, _, _, _, _, _, _, _, _, _, _, _, _, _, _, _, _, _, _, _, _, _, _, _, _, _, _, _, _, _, _, _, _, _, _, _, _, _, _, _, _, _, _, _, _, _, _, _, _, _, _, _, _, _, _, _, _, _, _, _, _, _, _, _, _, _, _, _, _, _, _, _, _, _, _, _, _, _, _, _, _, _, _, _, _, _, _, _, _, _, _, _, _, _, _, _, _, _, _, _, _, _, _, _, _, _, _, _, _, _, _, _, _, _, _, _, _, _, _, _, _, _, _, _, _, _, _, _, _, _, _, _, _, _, _, _, _, _, _, _, _, _, _, _, _, _, _, _, _, _, _, _, _], []⟩) (by kernel_rfl) (fun j hj => by simp at hj) (by kernel_rfl) (fun _ _ _ _ _ h => h) (Ys.cons rfl (Or.inl ⟨by rfl, fun W1 hW1 => by go_simp⟩) (Ys.nil)) (S9) (by rfl) (by rfl) ?_
        refine anyG_done (by kernel_rfl) ?_ _
        have J := Lib.hid (HA.out.call S9)
        have U := Lib.hid (HU.out.call S9)
        clear hb9 S9 S0 HC hC
        go_wp2
        go_roundw
        case rel => exact ⟨h + 1, j, by first | rfl | go_num, rfl, by omega, by omega, by omega, by omega, J.out, U.out⟩
        case measure => first | (simp [intOf]; done) | (simp [intOf]; omega)
      · rw [decide_eq_false hhK] at hC
        focus (go_upto_region 5 with fail)
        refine wp_region_any (by kernel_rfl) ?_; change wpAny _ _ _ _ _ _ _ (World.drew wr); refine any_of_anyG (late := fun _ => false) (S := fun wS => Below wr.heap.size wr wS) _ _ _ _ ?_
        have S0 := (Below.refl wr.heap.size wr).drew
        refine anyG_takes (is := [0, 1, 2, 3, 4]) (vs := [fTop, _, _, .pointer (some ⟨g, h * 2, none⟩), .agg y.row]) (m := 6) (listed2 := #[true, true, true, true, true, false, false, false, false, false, false]) (a2 := ⟨#[_, _, _, _, _, _, _, _, _, _, _, _, _, _, _, _, _, _, _, _, _, _, _, _, _, _, _, _, _, _, _, _, _, _, _, _, _, _, _, _, _, _, _, _, _, _, _, _, _, _, _, _, _, _, _, _, _, _, _, _, _, _, _, _, _, _, _, _, _, _, _, _, _, _, _, _, _, _, _, _, _, _, _, _, _, _, _, _, _, _, _, _, _, _, _, _, _, _, _, _, _, _, _, _, _, _, _, _, _, _, _, _, _, _, _, _, _, _, _, _, _, _, _, _, _, _, _, _, _, _, _, _, _, _, _, _, _, _, _, _, _, _, _, _, _, _, _, _, _, _, _, _, _, _, _, _, _, _, _, _, _, _, _, _, _, _, _, _, _, _, _, _, _, _, _, _, _, _, _, _, _, _, _, _, _, _, _, _, _, _, _, _, _, _, _, _, _, _, _, _, _, _, _, _, _, _, _, _, _, _, _, _, _, _, _, _, _, _, _, _], []⟩) (by kernel_rfl) (fun j hj => by simp at hj) (by kernel_rfl) (fun _ _ _ _ _ h => h) (Ys.cons rfl (Or.inl ⟨by rfl, fun W1 hW1 => by rfl⟩) (Ys.cons rfl (Or.inl ⟨by rfl, fun W1 hW1 => by first | rfl | (go_simp; done) | (go_simp; with_reducible rfl)⟩) (Ys.cons rfl (Or.inl ⟨by rfl, fun W1 hW1 => by first | rfl | (go_simp; done) | (go_simp; with_reducible rfl)⟩) (Ys.cons rfl (Or.inl ⟨by rfl, fun W1 hW1 => exec_at rfl rfl rfl (by omega)⟩) (Ys.cons rfl (Or.inl ⟨by rfl, fun W1 hW1 => exec_load (ty := tSmp) (x := .tmp 43) rfl rfl (Arr.load (HA.out.call hW1) HYy.out)⟩) (Ys.nil)))))) (S0) (by rfl) (by rfl) ?_
        refine anyG_takes (is := [5, 6, 7, 8]) (vs := [_, _, .pointer (some ⟨g, a * 2, none⟩), .agg x.row]) (m := 2) (listed2 := #[true, true, true, true, true, true, true, true, true, false, false]) (a2 := ⟨#[_, _, _, _, _, _, _, _, _, _, _, _, _, _, _, _, _, _, _, _, _, _, _, _, _, _, _, _, _, _, _, _, _, _, _, _, _, _, _, _, _, _, _, _, _, _, _, _, _, _, _, _, _, _, _, _, _, _, _, _, _, _, _, _, _, _, _, _, _, _, _, _, _, _, _, _, _, _, _, _, _, _, _, _, _, _, _, _, _, _, _, _, _, _, _, _, _, _, _, _, _, _, _, _, _, _, _, _, _, _, _, _, _, _, _, _, _, _, _, _, _, _, _, _, _, _, _, _, _, _, _, _, _, _, _, _, _, _, _, _, _, _, _, _, _, _, _, _, _, _, _, _, _, _, _, _, _, _, _, _, _, _, _, _, _, _, _, _, _, _, _, _, _, _, _, _, _, _, _, _, _, _, _, _, _, _, _, _, _, _, _, _, _, _, _, _, _, _, _, _, _, _, _, _, _, _, _, _, _, _, _, _, _, _, _, _, _, _, _, _], []⟩) (by kernel_rfl) (fun j hj => by simp at hj) (by kernel_rfl) (fun _ _ _ _ _ h => h) (Ys.cons rfl (Or.inl ⟨by rfl, fun W1 hW1 => by first | rfl | (go_simp; done) | (go_simp; with_reducible rfl)⟩) (Ys.cons rfl (Or.inl ⟨by rfl, fun W1 hW1 => by first | rfl | (go_simp; done) | (go_simp; with_reducible rfl)⟩) (Ys.cons rfl (Or.inl ⟨by rfl, fun W1 hW1 => exec_at rfl rfl rfl (by omega)⟩) (Ys.cons rfl (Or.inl ⟨by rfl, fun W1 hW1 => exec_load (ty := tSmp) (x := .tmp 47) rfl rfl (Arr.load (HA.out.call hW1) HX.out)⟩) (Ys.nil))))) (S0) (by rfl) (by rfl) ?_
        refine anyG_one (k := 9) (by kernel_rfl) rfl (by rfl) (fun Q2 hQ2 => ?_); go_wp2_with (go_at_fn 86; refine (HC.out _).mono ?_; rintro e v9 ⟨rfl, hb9⟩); refine hQ2 _ _ (fun _ => S0.trans (hb9.mono S0.size)) ?_; clear hQ2 Q2
        have S9 := S0.trans (hb9.mono S0.size)
        refine anyG_takes (is := [10]) (vs := [.bool false]) (m := 0) (listed2 := #[true, true, true, true, true, true, true, true, true, true, true]) (a2 := ⟨#[_, _, _, _, _, _, _, _, _, _, _, _, _, _, _, _, _, _, _, _, _, _, _, _, _, _, _, _, _, _, _, _, _, _, _, _, _, _, _, _, _, _, _, _, _, _, _, _, _, _, _, _, _, _, _, _, _, _, _, _, _, _, _, _, _, _, _, _, _, _, _, _, _, _, _, _, _, _, _, _, _, _, _, _, _, _, _, _, _, _, _, _, _, _, _, _, _, _, _, _, _, _, _, _, _, _, _, _, _, _, _, _, _, _, _, _, _, _, _, _, _, _, _, _, _, _, _, _, _, _, _, _, _, _, _, _, _, _, _, _, _, _, _, _, _, _, _, _, _, _, _, _, _, _, _, _, _, _, _, _, _, _, _, _, _, _, _, _, _, _, _, _, _, _, _, _, _, _, _, _, _, _, _, _, _, _, _, _, _, _, _, _, _, _, _, _, _, _, _, _, _, _, _, _, _, _, _, _, _, _, _, _, _, _, _, _, _, _, _, _], []⟩) (by kernel_rfl) (fun j hj => by simp at hj) (by kernel_rfl) (fun _ _ _ _ _ h => h) (Ys.cons rfl (Or.inl ⟨by rfl, fun W1 hW1 => by go_simp⟩) (Ys.nil)) (S9) (by rfl) (by rfl) ?_
        refine anyG_done (by kernel_rfl) ?_ _
        have J := Lib.hid (HA.out.call S9)
        have U := Lib.hid (HU.out.call S9)
        clear hb9 S9 S0 HC hC
        go_wp2
        go_roundw
        case rel => exact ⟨i, h, rfl, by first | rfl | go_num, by omega, by omega, by omega, by omega, J.out, U.out⟩
        case measure => first | (simp [intOf]; done) | (simp [intOf]; omega)
    · obtain rfl : i = K := by omega
      obtain rfl : i = j := by omega
      have hK5 : i ≤ 100000 := by omega
      have A0 := Lib.hid (show Arr wr g (sh 0) from by rw [← HS0.out]; exact HA.out)
      clear hij
      go_wp2
      go_loopw [13] (fun vk wr => ∃ (k t : Nat), vk = .int .i64 k ∧ k = a + t ∧ t ≤ i - m ∧ Arr wr g (sh t) ∧ Upd (fun k => k = g) w wr) (fun vk _ => i - (intOf vk).toNat)
      case atStart => exact ⟨a, 0, rfl, rfl, Nat.zero_le _, A0.out, HU.out⟩
      case round =>
        obtain ⟨k, t, rfl, hkt, ht, harr, hup⟩ := hrel
        have HKt := Lib.hid hkt
        have HB := Lib.hid harr
        have HV := Lib.hid hup
        clear harr hup
        have hi1 : IntKind.i64.wrap ((i : Int) - 1) = (i : Int) - 1 := by rw [IntKind.wrap_i64]; omega
        by_cases hki : k < i - 1
        · obtain ⟨y, s1, s2, s3⟩ := HSN.out t (by have := HM.out; omega)
          rw [← hkt] at s1 s2 s3
          have M1 := Lib.hid s1
          have M2 := Lib.hid s2
          have M3 := Lib.hid s3
          have hz1 : IntKind.i64.wrap ((k : Int) + 1) = ((k + 1 : Nat) : Int) := by rw [IntKind.wrap_i64]; omega
          have hkz : (k : Int) < (i : Int) - 1 := by omega
          have hk5 : k + 1 < n := by omega
          clear s1 s2 s3 hkt
          focus (go_upto_region 11 with fail)
          refine wp_region_any (by kernel_rfl) ?_; change wpAny _ _ _ _ _ _ _ (World.drew wr); refine any_of_anyG (late := fun _ => false) (S := fun wS => Upd (fun k => k = g) wr wS) _ _ _ _ ?_
          have S0 := (Upd.refl (fun k => k = g) wr).drew
          refine anyG_takes (is := [0, 1, 2, 3, 4]) (vs := [_, _, _, _, .int .i64 ((k + 1 : Nat) : Int)]) (m := 13) (listed2 := #[true, true, true, true, true, false, false, false, false, false, false, false, false, false, false, false, false, false]) (a2 := ⟨#[_, _, _, _, _, _, _, _, _, _, _, _, _, _, _, _, _, _, _, _, _, _, _, _, _, _, _, _, _, _, _, _, _, _, _, _, _, _, _, _, _, _, _, _, _, _, _, _, _, _, _, _, _, _, _, _, _, _, _, _, _, _, _, _, _, _, _, _, _, _, _, _, _, _, _, _, _, _, _, _, _, _, _, _, _, _, _, _, _, _, _, _, _, _, _, _, _, _, _, _, _, _, _, _, _, _, _, _, _, _, _, _, _, _, _, _, _, _, _, _, _, _, _, _, _, _, _, _, _, _, _, _, _, _, _, _, _, _, _, _, _, _, _, _, _, _, _, _, _, _, _, _, _, _, _, _, _, _, _, _, _, _, _, _, _, _, _, _, _, _, _, _, _, _, _, _, _, _, _, _, _, _, _, _, _, _, _, _, _, _, _, _, _, _, _, _, _, _, _, _, _, _, _, _, _, _, _, _, _, _, _, _, _, _, _, _, _, _, _, _], []⟩) (by kernel_rfl) (fun j hj => by simp at hj) (by kernel_rfl) (fun _ _ _ _ _ h => h) (Ys.cons rfl (Or.inl ⟨by rfl, fun W1 hW1 => by first | rfl | (go_simp; done) | (go_simp; with_reducible rfl)⟩) (Ys.cons rfl (Or.inl ⟨by rfl, fun W1 hW1 => by first | rfl | (go_simp; done) | (go_simp; with_reducible rfl)⟩) (Ys.cons rfl (Or.inl ⟨by rfl, fun W1 hW1 => by first | rfl | (go_simp; done) | (go_simp; with_reducible rfl)⟩) (Ys.cons rfl (Or.inl ⟨by rfl, fun W1 hW1 => by first | rfl | (go_simp; done) | (go_simp; with_reducible rfl)⟩) (Ys.cons rfl (Or.inl ⟨by rfl, fun W1 hW1 => by go_simp⟩) (Ys.nil)))))) (S0) (by rfl) (by rfl) ?_
          refine anyG_takes (is := [5, 6, 7, 8, 10]) (vs := [_, _, .int .i64 ((k + 1 : Nat) : Int), .pointer (some ⟨g, (k + 1) * 2, none⟩), _]) (m := 8) (listed2 := #[true, true, true, true, true, true, true, true, true, false, true, false, false, false, false, false, false, false]) (a2 := ⟨#[_, _, _, _, _, _, _, _, _, _, _, _, _, _, _, _, _, _, _, _, _, _, _, _, _, _, _, _, _, _, _, _, _, _, _, _, _, _, _, _, _, _, _, _, _, _, _, _, _, _, _, _, _, _, _, _, _, _, _, _, _, _, _, _, _, _, _, _, _, _, _, _, _, _, _, _, _, _, _, _, _, _, _, _, _, _, _, _, _, _, _, _, _, _, _, _, _, _, _, _, _, _, _, _, _, _, _, _, _, _, _, _, _, _, _, _, _, _, _, _, _, _, _, _, _, _, _, _, _, _, _, _, _, _, _, _, _, _, _, _, _, _, _, _, _, _, _, _, _, _, _, _, _, _, _, _, _, _, _, _, _, _, _, _, _, _, _, _, _, _, _, _, _, _, _, _, _, _, _, _, _, _, _, _, _, _, _, _, _, _, _, _, _, _, _, _, _, _, _, _, _, _, _, _, _, _, _, _, _, _, _, _, _, _, _, _, _, _, _, _], []⟩) (by kernel_rfl) (fun j hj => by simp at hj) (by kernel_rfl) (fun _ _ _ _ _ h => h) (Ys.cons rfl (Or.inl ⟨by rfl, fun W1 hW1 => by first | rfl | (go_simp; done) | (go_simp; with_reducible rfl)⟩) (Ys.cons rfl (Or.inl ⟨by rfl, fun W1 hW1 => by first | rfl | (go_simp; done) | (go_simp; with_reducible rfl)⟩) (Ys.cons rfl (Or.inl ⟨by rfl, fun W1 hW1 => by go_simp⟩) (Ys.cons rfl (Or.inl ⟨by rfl, fun W1 hW1 => exec_at rfl rfl rfl (by omega)⟩) (Ys.cons rfl (Or.inl ⟨by rfl, fun W1 hW1 => by first | rfl | (go_simp; done) | (go_simp; with_reducible rfl)⟩) (Ys.nil)))))) (S0) (by rfl) (by rfl) ?_
          refine anyG_takes (is := [11, 12]) (vs := [_, .pointer (some ⟨g, k * 2, none⟩)]) (m := 6) (listed2 := #[true, true, true, true, true, true, true, true, true, false, true, true, true, false, false, false, false, false]) (a2 := ⟨#[_, _, _, _, _, _, _, _, _, _, _, _, _, _, _, _, _, _, _, _, _, _, _, _, _, _, _, _, _, _, _, _, _, _, _, _, _, _, _, _, _, _, _, _, _, _, _, _, _, _, _, _, _, _, _, _, _, _, _, _, _, _, _, _, _, _, _, _, _, _, _, _, _, _, _, _, _, _, _, _, _, _, _, _, _, _, _, _, _, _, _, _, _, _, _, _, _, _, _, _, _, _, _, _, _, _, _, _, _, _, _, _, _, _, _, _, _, _, _, _, _, _, _, _, _, _, _, _, _, _, _, _, _, _, _, _, _, _, _, _, _, _, _, _, _, _, _, _, _, _, _, _, _, _, _, _, _, _, _, _, _, _, _, _, _, _, _, _, _, _, _, _, _, _, _, _, _, _, _, _, _, _, _, _, _, _, _, _, _, _, _, _, _, _, _, _, _, _, _, _, _, _, _, _, _, _, _, _, _, _, _, _, _, _, _, _, _, _, _, _], []⟩) (by kernel_rfl) (fun j hj => by simp at hj) (by kernel_rfl) (fun _ _ _ _ _ h => h) (Ys.cons rfl (Or.inl ⟨by rfl, fun W1 hW1 => by first | rfl | (go_simp; done) | (go_simp; with_reducible rfl)⟩) (Ys.cons rfl (Or.inl ⟨by rfl, fun W1 hW1 => exec_at rfl rfl rfl (by omega)⟩) (Ys.nil))) (S0) (by rfl) (by rfl) ?_
          refine anyG_two (i := 9) (j := 13) (by kernel_rfl) rfl (by rfl) rfl (by rfl) (fun Q2 hQ2 => ?_) (fun Q2 hQ2 => ?_)
          ·
            go_wp2_with (refine Arr.ld (w := wr.drew) HB.out M2.out rfl (.tmp 69) rfl rfl rfl ?_)
            refine hQ2 _ _ (fun _ => S0) ?_
            clear hQ2 Q2
            refine anyG_one (k := 13) (by kernel_rfl) rfl (by rfl) (fun Q2 hQ2 => ?_); go_wp2_with (refine Arr.ld (w := wr.drew) HB.out M1.out rfl (.tmp 73) rfl rfl rfl ?_); refine hQ2 _ _ (fun _ => S0) ?_; clear hQ2 Q2
            refine anyG_takes (is := [14]) (vs := [.pointer (some ⟨g, k * 2, none⟩)]) (m := 3) (listed2 := #[true, true, true, true, true, true, true, true, true, true, true, true, true, true, true, false, false, false]) (a2 := ⟨#[_, _, _, _, _, _, _, _, _, _, _, _, _, _, _, _, _, _, _, _, _, _, _, _, _, _, _, _, _, _, _, _, _, _, _, _, _, _, _, _, _, _, _, _, _, _, _, _, _, _, _, _, _, _, _, _, _, _, _, _, _, _, _, _, _, _, _, _, _, _, _, _, _, _, _, _, _, _, _, _, _, _, _, _, _, _, _, _, _, _, _, _, _, _, _, _, _, _, _, _, _, _, _, _, _, _, _, _, _, _, _, _, _, _, _, _, _, _, _, _, _, _, _, _, _, _, _, _, _, _, _, _, _, _, _, _, _, _, _, _, _, _, _, _, _, _, _, _, _, _, _, _, _, _, _, _, _, _, _, _, _, _, _, _, _, _, _, _, _, _, _, _, _, _, _, _, _, _, _, _, _, _, _, _, _, _, _, _, _, _, _, _, _, _, _, _, _, _, _, _, _, _, _, _, _, _, _, _, _, _, _, _, _, _, _, _, _, _, _, _], []⟩) (by kernel_rfl) (fun j hj => by simp at hj) (by kernel_rfl) (fun _ _ _ _ _ h => h) (Ys.cons rfl (Or.inl ⟨by rfl, fun W1 hW1 => exec_at rfl rfl rfl (by omega)⟩) (Ys.nil)) (S0) (by rfl) (by rfl) ?_
            refine anyG_one (k := 15) (by kernel_rfl) rfl (by rfl) (fun Q2 hQ2 => ?_); go_wp2_with (refine Arr.store (w := wr.drew) HB.out (i := k) (by rw [HSL.out]; omega) y rfl (.tmp 75) (.tmp 70) rfl rfl rfl rfl ?_; intro w5 h5 u5); refine hQ2 _ _ (fun _ => S0.trans u5 (fun k hk => .inl hk)) ?_; clear hQ2 Q2
            have S5 := S0.trans u5 (fun k hk => .inl hk)
            refine anyG_takes (is := [16]) (vs := [.pointer (some ⟨g, (k + 1) * 2, none⟩)]) (m := 1) (listed2 := #[true, true, true, true, true, true, true, true, true, true, true, true, true, true, true, true, true, false]) (a2 := ⟨#[_, _, _, _, _, _, _, _, _, _, _, _, _, _, _, _, _, _, _, _, _, _, _, _, _, _, _, _, _, _, _, _, _, _, _, _, _, _, _, _, _, _, _, _, _, _, _, _, _, _, _, _, _, _, _, _, _, _, _, _, _, _, _, _, _, _, _, _, _, _, _, _, _, _, _, _, _, _, _, _, _, _, _, _, _, _, _, _, _, _, _, _, _, _, _, _, _, _, _, _, _, _, _, _, _, _, _, _, _, _, _, _, _, _, _, _, _, _, _, _, _, _, _, _, _, _, _, _, _, _, _, _, _, _, _, _, _, _, _, _, _, _, _, _, _, _, _, _, _, _, _, _, _, _, _, _, _, _, _, _, _, _, _, _, _, _, _, _, _, _, _, _, _, _, _, _, _, _, _, _, _, _, _, _, _, _, _, _, _, _, _, _, _, _, _, _, _, _, _, _, _, _, _, _, _, _, _, _, _, _, _, _, _, _, _, _, _, _, _, _], []⟩) (by kernel_rfl) (fun j hj => by simp at hj) (by kernel_rfl) (fun _ _ _ _ _ h => h) (Ys.cons rfl (Or.inl ⟨by rfl, fun W1 hW1 => exec_at rfl rfl rfl (by omega)⟩) (Ys.nil)) (S5) (by rfl) (by rfl) ?_
            refine anyG_one (k := 17) (by kernel_rfl) rfl (by rfl) (fun Q2 hQ2 => ?_); go_wp2_with (refine Arr.store h5 (i := k + 1) (by rw [List.length_set, HSL.out]; omega) x rfl (.tmp 76) (.tmp 74) rfl rfl rfl rfl ?_; intro w6 h6 u6); refine hQ2 _ _ (fun _ => S5.trans u6 (fun k hk => .inl hk)) ?_; clear hQ2 Q2
            have S6 := S5.trans u6 (fun k hk => .inl hk)
            refine anyG_done (by kernel_rfl) ?_ _
            have X6 := Lib.hid (show Arr w6 g (sh (t + 1)) from by rw [← M3.out]; exact h6)
            have U6 := Lib.hid (HV.out.trans S6 (fun k hk => .inl hk))
            clear h5 h6 u5 u6 S0 S5 S6
            go_wp2
            go_roundw
            case rel => exact ⟨k + 1, t + 1, by first | rfl | go_num, by have := HKt.out; omega, by have := HKt.out; have := HM.out; omega, X6.out, U6.out⟩
            case measure => first | (simp [intOf]; done) | (simp [intOf]; omega)
          ·
            go_wp2_with (refine Arr.ld (w := wr.drew) HB.out M1.out rfl (.tmp 73) rfl rfl rfl ?_)
            refine hQ2 _ _ (fun _ => S0) ?_
            clear hQ2 Q2
            refine anyG_one (k := 9) (by kernel_rfl) rfl (by rfl) (fun Q2 hQ2 => ?_); go_wp2_with (refine Arr.ld (w := wr.drew) HB.out M2.out rfl (.tmp 69) rfl rfl rfl ?_); refine hQ2 _ _ (fun _ => S0) ?_; clear hQ2 Q2
            refine anyG_takes (is := [14]) (vs := [.pointer (some ⟨g, k * 2, none⟩)]) (m := 3) (listed2 := #[true, true, true, true, true, true, true, true, true, true, true, true, true, true, true, false, false, false]) (a2 := ⟨#[_, _, _, _, _, _, _, _, _, _, _, _, _, _, _, _, _, _, _, _, _, _, _, _, _, _, _, _, _, _, _, _, _, _, _, _, _, _, _, _, _, _, _, _, _, _, _, _, _, _, _, _, _, _, _, _, _, _, _, _, _, _, _, _, _, _, _, _, _, _, _, _, _, _, _, _, _, _, _, _, _, _, _, _, _, _, _, _, _, _, _, _, _, _, _, _, _, _, _, _, _, _, _, _, _, _, _, _, _, _, _, _, _, _, _, _, _, _, _, _, _, _, _, _, _, _, _, _, _, _, _, _, _, _, _, _, _, _, _, _, _, _, _, _, _, _, _, _, _, _, _, _, _, _, _, _, _, _, _, _, _, _, _, _, _, _, _, _, _, _, _, _, _, _, _, _, _, _, _, _, _, _, _, _, _, _, _, _, _, _, _, _, _, _, _, _, _, _, _, _, _, _, _, _, _, _, _, _, _, _, _, _, _, _, _, _, _, _, _, _], []⟩) (by kernel_rfl) (fun j hj => by simp at hj) (by kernel_rfl) (fun _ _ _ _ _ h => h) (Ys.cons rfl (Or.inl ⟨by rfl, fun W1 hW1 => exec_at rfl rfl rfl (by omega)⟩) (Ys.nil)) (S0) (by rfl) (by rfl) ?_
            refine anyG_one (k := 15) (by kernel_rfl) rfl (by rfl) (fun Q2 hQ2 => ?_); go_wp2_with (refine Arr.store (w := wr.drew) HB.out (i := k) (by rw [HSL.out]; omega) y rfl (.tmp 75) (.tmp 70) rfl rfl rfl rfl ?_; intro w5 h5 u5); refine hQ2 _ _ (fun _ => S0.trans u5 (fun k hk => .inl hk)) ?_; clear hQ2 Q2
            have S5 := S0.trans u5 (fun k hk => .inl hk)
            refine anyG_takes (is := [16]) (vs := [.pointer (some ⟨g, (k + 1) * 2, none⟩)]) (m := 1) (listed2 := #[true, true, true, true, true, true, true, true, true, true, true, true, true, true, true, true, true, false]) (a2 := ⟨#[_, _, _, _, _, _, _, _, _, _, _, _, _, _, _, _, _, _, _, _, _, _, _, _, _, _, _, _, _, _, _, _, _, _, _, _, _, _, _, _, _, _, _, _, _, _, _, _, _, _, _, _, _, _, _, _, _, _, _, _, _, _, _, _, _, _, _, _, _, _, _, _, _, _, _, _, _, _, _, _, _, _, _, _, _, _, _, _, _, _, _, _, _, _, _, _, _, _, _, _, _, _, _, _, _, _, _, _, _, _, _, _, _, _, _, _, _, _, _, _, _, _, _, _, _, _, _, _, _, _, _, _, _, _, _, _, _, _, _, _, _, _, _, _, _, _, _, _, _, _, _, _, _, _, _, _, _, _, _, _, _, _, _, _, _, _, _, _, _, _, _, _, _, _, _, _, _, _, _, _, _, _, _, _, _, _, _, _, _, _, _, _, _, _, _, _, _, _, _, _, _, _, _, _, _, _, _, _, _, _, _, _, _, _, _, _, _, _, _, _], []⟩) (by kernel_rfl) (fun j hj => by simp at hj) (by kernel_rfl) (fun _ _ _ _ _ h => h) (Ys.cons rfl (Or.inl ⟨by rfl, fun W1 hW1 => exec_at rfl rfl rfl (by omega)⟩) (Ys.nil)) (S5) (by rfl) (by rfl) ?_
            refine anyG_one (k := 17) (by kernel_rfl) rfl (by rfl) (fun Q2 hQ2 => ?_); go_wp2_with (refine Arr.store h5 (i := k + 1) (by rw [List.length_set, HSL.out]; omega) x rfl (.tmp 76) (.tmp 74) rfl rfl rfl rfl ?_; intro w6 h6 u6); refine hQ2 _ _ (fun _ => S5.trans u6 (fun k hk => .inl hk)) ?_; clear hQ2 Q2
            have S6 := S5.trans u6 (fun k hk => .inl hk)
            refine anyG_done (by kernel_rfl) ?_ _
            have X6 := Lib.hid (show Arr w6 g (sh (t + 1)) from by rw [← M3.out]; exact h6)
            have U6 := Lib.hid (HV.out.trans S6 (fun k hk => .inl hk))
            clear h5 h6 u5 u6 S0 S5 S6
            go_wp2
            go_roundw
            case rel => exact ⟨k + 1, t + 1, by first | rfl | go_num, by have := HKt.out; omega, by have := HKt.out; have := HM.out; omega, X6.out, U6.out⟩
            case measure => first | (simp [intOf]; done) | (simp [intOf]; omega)
        · obtain rfl : t = i - m := by have := HM.out; omega
          have hkz : (i : Int) - 1 ≤ (k : Int) := by omega
          have HE := Lib.hid (show Arr wr g L1 from by rw [← HSE.out]; exact HB.out)
          clear hkt
          go_wp2
          go_returns
          exact ⟨rfl, HE.out, HV.out⟩
end Go.Proofs.Ytkjmacdekfbfhaa
