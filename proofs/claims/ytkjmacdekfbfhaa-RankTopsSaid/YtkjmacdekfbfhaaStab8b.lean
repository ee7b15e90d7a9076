/- slices.symMergeCmpFunc at samples: the step, the middle not ahead of m. (fast region, no defers) -/
import Derived.Test.YtkjmacdekfbfhaaStab8
namespace Go.Proofs.Ytkjmacdekfbfhaa
open Go.RowKit
set_option linter.unusedSimpArgs false
set_option linter.unusedVariables false
set_option maxHeartbeats 20000000
set_option maxRecDepth 100000
theorem slices_symStep_b (N : Nat) (IH : SymQ N) (g n c a m b lo hi : Nat) (P X Y Q : List Smp) (w : World) (hN : b - a ≤ N + 1) (ha : a = P.length) (hm : m = a + X.length) (hb : b = m + Y.length) (hX : 1 < X.length) (hY : 1 < Y.length) (hn : b + Q.length = n) (hn2 : n ≤ 100000)
    (b1 : ¬ ((a + b) / 2 < m)) (b2 : lo = a) (b3 : hi = m) (sX : SrtS geb X) (sY : SrtS geb Y) (h : Arr w g (P ++ X ++ Y ++ Q)) :
    Calls Try.prog 158 #[.slice (some ⟨g, 0, none⟩) n c, .int .i64 a, .int .i64 m, .int .i64 b, fTop] w (SrtP w g (P ++ mg geb X Y ++ Q)) := by
  obtain ⟨mid, hmid⟩ : ∃ mid, mid = (a + b) / 2 := ⟨_, rfl⟩
  obtain ⟨nn, hnn⟩ : ∃ nn, nn = mid + m := ⟨_, rfl⟩
  rw [← hmid] at b1 
  obtain ⟨K, ⟨k1, k2, k3, k4, k5, k6⟩, key, X1, X2, Y1, Y2, eX, eY, lX1, lX2, lY1, lY2, emg⟩ := sym_split X Y a m b mid nn lo hi hm hb (by omega) (by omega) hmid hnn (by omega) sX sY
  have hbn : b ≤ n := by omega
  obtain ⟨e, he⟩ : ∃ e, e + K = mid + m := ⟨mid + m - K, by omega⟩
  obtain ⟨L2, L3, t1, n1, t2, n2, t3, n3⟩ := sym_tail N IH g n c a m b mid K e P Q X1 X2 Y1 Y2 hN ha k3 k4 k5 (by omega) he (by omega) (by omega) hmid (by omega) lX1 lX2 lY1 (by omega) hn hn2 (by rw [eX] at sX; exact (List.pairwise_append.1 sX).1) (by rw [eX] at sX; exact (List.pairwise_append.1 sX).2.1) (by rw [eY] at sY; exact (List.pairwise_append.1 sY).1) (by rw [eY] at sY; exact (List.pairwise_append.1 sY).2.1)
  have e0 : P ++ X ++ Y ++ Q = P ++ X1 ++ X2 ++ Y1 ++ (Y2 ++ Q) := by rw [eX, eY]; simp
  rw [← e0] at t1 n1
  have T1 := Lib.hid t1
  have T2 := Lib.hid t2
  have T3 := Lib.hid t3
  have N1 := Lib.hid n1
  have N2 := Lib.hid n2
  have N3 := Lib.hid n3
  have H0 := Lib.hid h
  have HL := Lib.hid (show (P ++ X ++ Y ++ Q).length = n from by simp; omega)
  have HY := Lib.hid (fun (e : Nat) (p1 : lo ≤ e) (p2 : e < hi) => (show ∃ x y, (P ++ X ++ Y ++ Q)[e]? = some x ∧ (P ++ X ++ Y ++ Q)[nn - 1 - e]? = some y ∧ geb x y = decide (e < K) from by
    obtain ⟨x, y, q1, q2, q3⟩ := key e p1 p2
    refine ⟨x, y, ?_, ?_, q3⟩
    · rw [List.append_assoc, List.append_assoc, List.getElem?_append_right (by omega), List.getElem?_append_left (by have := (List.getElem?_eq_some_iff.1 q1).1; omega), ← ha, q1]
    · have h9 := (List.getElem?_eq_some_iff.1 q2).1
      rw [List.append_assoc, List.getElem?_append_right (by simp; omega), List.getElem?_append_left (by simp; omega), ← q2]
      congr 1; simp; omega))
  have EL := Lib.hid (show P ++ (mg geb X1 Y1) ++ (mg geb X2 Y2) ++ Q = P ++ mg geb X Y ++ Q from by rw [emg]; simp)
  have q1 : IntKind.i64.wrap ((m : Int) - (a : Int)) = (X.length : Int) := by rw [IntKind.wrap_i64]; omega
  have q2 : IntKind.i64.wrap ((b : Int) - (m : Int)) = (Y.length : Int) := by rw [IntKind.wrap_i64]; omega
  have d1 : ((X.length : Int) == 1) = false := by simp; omega
  have d2 : ((Y.length : Int) == 1) = false := by simp; omega
  generalize P ++ X ++ Y ++ Q = L0 at *
  generalize P ++ mg geb X Y ++ Q = L1 at *
  generalize X.length = xl at *
  generalize Y.length = yl at *
  have ha5 : a ≤ 100000 := by omega
  have hm5 : m ≤ 100000 := by omega
  have hb5 : b ≤ 100000 := by omega
  have hd5 : mid ≤ 100000 := by omega
  have z0 : ((a : Int) + (b : Int)) / 2 = (mid : Int) := by omega
  have eg : ∀ args W, (callFunc 86 args).run Try.prog W = .ok (.enter 86 args) W := fun _ _ => by rfl
  have HMd := Lib.hid hmid
  have HNn := Lib.hid hnn
  have HEe := Lib.hid he
  have hmn : m < n := by omega
  have ham : a < m := by omega
  have hhm : hi ≤ m := by omega
  have hhd : hi ≤ mid := by omega
  have hnb : mid + m ≤ b + lo := by omega
  have d4 : decide (mid < m) = false := by simp; omega
  clear t1 t2 t3 n1 n2 n3 e0 h key eX eY emg sX sY lX1 lX2 lY1 lY2
  have HBr := Lib.hid (show Value.int .i64 ((a : Int)) = Value.int .i64 (lo : Int) ∧ Value.int .i64 (m : Int) = Value.int .i64 (hi : Int) from ⟨congrArg (Value.int .i64) (by omega), congrArg (Value.int .i64) (by omega)⟩)
  clear ha hm hb hn hX hY hmid hnn he b2 b3
  go_enter Try.func158, Try.ntmps158
  go_wp2
  go_loopw [20, 21] (fun vi vj wr => ∃ (i j : Nat), vi = .int .i64 i ∧ vj = .int .i64 j ∧ lo ≤ i ∧ i ≤ K ∧ K ≤ j ∧ j ≤ hi ∧ Arr wr g L0 ∧ Upd (fun k => k = g) w wr) (fun vi vj _ => (intOf vj).toNat - (intOf vi).toNat)
  case atStart => exact ⟨lo, hi, HBr.out.1, HBr.out.2, Nat.le_refl _, k1, k2, Nat.le_refl _, H0.out, Upd.refl _ _⟩
  case round =>
  obtain ⟨i, j, rfl, rfl, hli, hiK, hKj, hjh, harr, hup⟩ := hrel
  have HA := Lib.hid harr
  have HU := Lib.hid hup
  clear harr hup
  by_cases hij : i < j
  · obtain ⟨h, hh⟩ : ∃ h, h = (i + j) / 2 := ⟨_, rfl⟩
    have hz : ((i : Int) + (j : Int)) / 2 = (h : Int) := by omega
    have hi5 : i ≤ 100000 := by omega
    have hj5 : j ≤ 100000 := by omega
    have hh1 : i ≤ h := by omega
    have hh2 : h < j := by omega
    obtain ⟨x, y, hx, hy, hge⟩ := HY.out h (by omega) (by omega)
    obtain ⟨q, hq⟩ : ∃ q, q = nn - 1 - h := ⟨_, rfl⟩
    have hq1 : (mid : Int) + (m : Int) - 1 - (h : Int) = (q : Int) := by have := HNn.out; omega
    have hqn : q < n := by omega
    have hw1 : IntKind.i64.wrap (q : Int) = (q : Int) := by rw [IntKind.wrap_i64]; omega
    rw [← hq] at hy
    have HXh := Lib.hid hx
    have HYq := Lib.hid hy
    obtain ⟨C, hC, hcm⟩ := cmp_hereS y x
    have HC := Lib.hid hcm
    rw [hge] at hC
    clear hx hy hcm hge hh hq
    by_cases hhK : h < K
    · rw [decide_eq_true hhK] at hC
      focus (go_upto_region 35 with fail)
      refine wp_region_any (by kernel_rfl) ?_; change wpAny _ _ _ _ _ _ _ (World.drew wr); refine any_of_anyG (late := fun _ => false) (S := fun wS => Below wr.heap.size wr wS) _ _ _ _ ?_
      have S0 := (Below.refl wr.heap.size wr).drew
      refine anyG_takes (is := [0, 1, 2, 3, 4]) (vs := [fTop, _, _, _, .int .i64 (q : Int)]) (m := 9) (listed2 := #[true, true, true, true, true, false, false, false, false, false, false, false, false, false]) (a2 := ⟨#[_, _, _, _, _, _, _, _, _, _, _, _, _, _, _, _, _, _, _, _, _, _, _, _, _, _, _, _, _, _, _, _, _, _, _, _, _, _, _, _, _, _, _, _, _, _, _, _, _, _, _, _, _, _, _, _, _, _, _, _, _, _, _, _, _, _, _, _, _, _, _, _, _, _, _, _, _, _, _, _, _, _, _, _, _, _, _, _, _, _, _, _, _, _, _, _, _, _, _, _, _, _, _, _, _, _, _, _, _, _, _, _, _, _, _, _, _, _, _, _, _, _, _, _, _, _, _, _, _, _, _, _, _, _, _, _, _, _, _, _, _, _, _, _, _, _, _, _, _, _, _, _, _, _, _, _, _, _, _, _, _, _, _, _, _, _, _, _, _, _, _, _, _, _, _, _, _, _, _, _, _, _, _, _, _, _, _, _, _, _, _, _, _, _, _, _, _, _, _, _, _, _, _, _, _, _, _, _, _, _, _, _, _, _, _, _, _, _, _, _], []⟩) (by kernel_rfl) (fun j hj => by simp at hj) (by kernel_rfl) (fun _ _ _ _ _ h => h) (Ys.cons rfl (Or.inl ⟨by rfl, fun W1 hW1 => by rfl⟩) (Ys.cons rfl (Or.inl ⟨by rfl, fun W1 hW1 => by first | rfl | (go_simp; done) | (go_simp; with_reducible rfl)⟩) (Ys.cons rfl (Or.inl ⟨by rfl, fun W1 hW1 => by first | rfl | (go_simp; done) | (go_simp; with_reducible rfl)⟩) (Ys.cons rfl (Or.inl ⟨by rfl, fun W1 hW1 => by first | rfl | (go_simp; done) | (go_simp; with_reducible rfl)⟩) (Ys.cons rfl (Or.inl ⟨by rfl, fun W1 hW1 => by go_simp⟩) (Ys.nil)))))) (S0) (by rfl) (by rfl) ?_
      refine anyG_takes (is := [5, 6, 7, 8, 9]) (vs := [.pointer (some ⟨g, q * 2, none⟩), .agg y.row, _, _, .pointer (some ⟨g, h * 2, none⟩)]) (m := 4) (listed2 := #[true, true, true, true, true, true, true, true, true, true, false, false, false, false]) (a2 := ⟨#[_, _, _, _, _, _, _, _, _, _, _, _, _, _, _, _, _, _, _, _, _, _, _, _, _, _, _, _, _, _, _, _, _, _, _, _, _, _, _, _, _, _, _, _, _, _, _, _, _, _, _, _, _, _, _, _, _, _, _, _, _, _, _, _, _, _, _, _, _, _, _, _, _, _, _, _, _, _, _, _, _, _, _, _, _, _, _, _, _, _, _, _, _, _, _, _, _, _, _, _, _, _, _, _, _, _, _, _, _, _, _, _, _, _, _, _, _, _, _, _, _, _, _, _, _, _, _, _, _, _, _, _, _, _, _, _, _, _, _, _, _, _, _, _, _, _, _, _, _, _, _, _, _, _, _, _, _, _, _, _, _, _, _, _, _, _, _, _, _, _, _, _, _, _, _, _, _, _, _, _, _, _, _, _, _, _, _, _, _, _, _, _, _, _, _, _, _, _, _, _, _, _, _, _, _, _, _, _, _, _, _, _, _, _, _, _, _, _, _, _], []⟩) (by kernel_rfl) (fun j hj => by simp at hj) (by kernel_rfl) (fun _ _ _ _ _ h => h) (Ys.cons rfl (Or.inl ⟨by rfl, fun W1 hW1 => exec_at rfl rfl rfl (by omega)⟩) (Ys.cons rfl (Or.inl ⟨by rfl, fun W1 hW1 => exec_load (ty := tSmp) (x := .tmp 163) rfl rfl (Arr.load (HA.out.call hW1) HYq.out)⟩) (Ys.cons rfl (Or.inl ⟨by rfl, fun W1 hW1 => by first | rfl | (go_simp; done) | (go_simp; with_reducible rfl)⟩) (Ys.cons rfl (Or.inl ⟨by rfl, fun W1 hW1 => by first | rfl | (go_simp; done) | (go_simp; with_reducible rfl)⟩) (Ys.cons rfl (Or.inl ⟨by rfl, fun W1 hW1 => exec_at rfl rfl rfl (by omega)⟩) (Ys.nil)))))) (S0) (by rfl) (by rfl) ?_
      refine anyG_takes (is := [10]) (vs := [.agg x.row]) (m := 3) (listed2 := #[true, true, true, true, true, true, true, true, true, true, true, false, false, false]) (a2 := ⟨#[_, _, _, _, _, _, _, _, _, _, _, _, _, _, _, _, _, _, _, _, _, _, _, _, _, _, _, _, _, _, _, _, _, _, _, _, _, _, _, _, _, _, _, _, _, _, _, _, _, _, _, _, _, _, _, _, _, _, _, _, _, _, _, _, _, _, _, _, _, _, _, _, _, _, _, _, _, _, _, _, _, _, _, _, _, _, _, _, _, _, _, _, _, _, _, _, _, _, _, _, _, _, _, _, _, _, _, _, _, _, _, _, _, _, _, _, _, _, _, _, _, _, _, _, _, _, _, _, _, _, _, _, _, _, _, _, _, _, _, _, _, _, _, _, _, _, _, _, _, _, _, _, _, _, _, _, _, _, _, _, _, _, _, _, _, _, _, _, _, _, _, _, _, _, _, _, _, _, _, _, _, _, _, _, _, _, _, _, _, _, _, _, _, _, _, _, _, _, _, _, _, _, _, _, _, _, _, _, _, _, _, _, _, _, _, _, _, _, _, _], []⟩) (by kernel_rfl) (fun j hj => by simp at hj) (by kernel_rfl) (fun _ _ _ _ _ h => h) (Ys.cons rfl (Or.inl ⟨by rfl, fun W1 hW1 => exec_load (ty := tSmp) (x := .tmp 167) rfl rfl (Arr.load (HA.out.call hW1) HXh.out)⟩) (Ys.nil)) (S0) (by rfl) (by rfl) ?_
      refine anyG_one (k := 11) (by kernel_rfl) rfl (by rfl) (fun Q2 hQ2 => ?_); go_wp2_with (go_at_fn 86; refine (HC.out _).mono ?_; rintro e v9 ⟨rfl, hb9⟩); refine hQ2 _ _ (fun _ => S0.trans (hb9.mono S0.size)) ?_; clear hQ2 Q2
      have S9 := S0.trans (hb9.mono S0.size)
      refine anyG_takes (is := [12, 13]) (vs := [.bool false, .bool true]) (m := 0) (listed2 := #[true, true, true, true, true, true, true, true, true, true, true, true, true, true]) (a2 := ⟨#[_, _, _, _, _, _, _, _, _, _, _, _, _, _, _, _, _, _, _, _, _, _, _, _, _, _, _, _, _, _, _, _, _, _, _, _, _, _, _, _, _, _, _, _, _, _, _, _, _, _, _, _, _, _, _, _, _, _, _, _, _, _, _, _, _, _, _, _, _, _, _, _, _, _, _, _, _, _, _, _, _, _, _, _, _, _, _, _, _, _, _, _, _, _, _, _, _, _, _, _, _, _, _, _, _, _, _, _, _, _, _, _, _, _, _, _, _, _, _, _, _, _, _, _, _, _, _, _, _, _, _, _, _, _, _, _, _, _, _, _, _, _, _, _, _, _, _, _, _, _, _, _, _, _, _, _, _, _, _, _, _, _, _, _, _, _, _, _, _, _, _, _, _, _, _, _, _, _, _, _, _, _, _, _, _, _, _, _, _, _, _, _, _, _, _, _, _, _, _, _, _, _, _, _, _, _, _, _, _, _, _, _, _, _, _, _, _, _, _, _], []⟩) (by kernel_rfl) (fun j hj => by simp at hj) (by kernel_rfl) (fun _ _ _ _ _ h => h) (Ys.cons rfl (Or.inl ⟨by rfl, fun W1 hW1 => by go_simp⟩) (Ys.cons rfl (Or.inl ⟨by rfl, fun W1 hW1 => by rfl⟩) (Ys.nil))) (S9) (by rfl) (by rfl) ?_
      refine anyG_done (by kernel_rfl) ?_ _
      have J := Lib.hid (HA.out.call S9)
      have U := Lib.hid (HU.out.call S9)
      clear hb9 S9 S0 HC hC
      go_wp2
      go_roundw
      case rel => exact ⟨h + 1, j, by first | rfl | go_num, rfl, by omega, by omega, by omega, by omega, J.out, U.out⟩
      case measure => first | (simp [intOf]; done) | (simp [intOf]; omega)
    · rw [decide_eq_false hhK] at hC
      focus (go_upto_region 35 with fail)
      refine wp_region_any (by kernel_rfl) ?_; change wpAny _ _ _ _ _ _ _ (World.drew wr); refine any_of_anyG (late := fun _ => false) (S := fun wS => Below wr.heap.size wr wS) _ _ _ _ ?_
      have S0 := (Below.refl wr.heap.size wr).drew
      refine anyG_takes (is := [0, 1, 2, 3, 4]) (vs := [fTop, _, _, _, .int .i64 (q : Int)]) (m := 9) (listed2 := #[true, true, true, true, true, false, false, false, false, false, false, false, false, false]) (a2 := ⟨#[_, _, _, _, _, _, _, _, _, _, _, _, _, _, _, _, _, _, _, _, _, _, _, _, _, _, _, _, _, _, _, _, _, _, _, _, _, _, _, _, _, _, _, _, _, _, _, _, _, _, _, _, _, _, _, _, _, _, _, _, _, _, _, _, _, _, _, _, _, _, _, _, _, _, _, _, _, _, _, _, _, _, _, _, _, _, _, _, _, _, _, _, _, _, _, _, _, _, _, _, _, _, _, _, _, _, _, _, _, _, _, _, _, _, _, _, _, _, _, _, _, _, _, _, _, _, _, _, _, _, _, _, _, _, _, _, _, _, _, _, _, _, _, _, _, _, _, _, _, _, _, _, _, _, _, _, _, _, _, _, _, _, _, _, _, _, _, _, _, _, _, _, _, _, _, _, _, _, _, _, _, _, _, _, _, _, _, _, _, _, _, _, _, _, _, _, _, _, _, _, _, _, _, _, _, _, _, _, _, _, _, _, _, _, _, _, _, _, _, _], []⟩) (by kernel_rfl) (fun j hj => by simp at hj) (by kernel_rfl) (fun _ _ _ _ _ h => h) (Ys.cons rfl (Or.inl ⟨by rfl, fun W1 hW1 => by rfl⟩) (Ys.cons rfl (Or.inl ⟨by rfl, fun W1 hW1 => by first | rfl | (go_simp; done) | (go_simp; with_reducible rfl)⟩) (Ys.cons rfl (Or.inl ⟨by rfl, fun W1 hW1 => by first | rfl | (go_simp; done) | (go_simp; with_reducible rfl)⟩) (Ys.cons rfl (Or.inl ⟨by rfl, fun W1 hW1 => by first | rfl | (go_simp; done) | (go_simp; with_reducible rfl)⟩) (Ys.cons rfl (Or.inl ⟨by rfl, fun W1 hW1 => by go_simp⟩) (Ys.nil)))))) (S0) (by rfl) (by rfl) ?_
      refine anyG_takes (is := [5, 6, 7, 8, 9]) (vs := [.pointer (some ⟨g, q * 2, none⟩), .agg y.row, _, _, .pointer (some ⟨g, h * 2, none⟩)]) (m := 4) (listed2 := #[true, true, true, true, true, true, true, true, true, true, false, false, false, false]) (a2 := ⟨#[_, _, _, _, _, _, _, _, _, _, _, _, _, _, _, _, _, _, _, _, _, _, _, _, _, _, _, _, _, _, _, _, _, _, _, _, _, _, _, _, _, _, _, _, _, _, _, _, _, _, _, _, _, _, _, _, _, _, _, _, _, _, _, _, _, _, _, _, _, _, _, _, _, _, _, _, _, _, _, _, _, _, _, _, _, _, _, _, _, _, _, _, _, _, _, _, _, _, _, _, _, _, _, _, _, _, _, _, _, _, _, _, _, _, _, _, _, _, _, _, _, _, _, _, _, _, _, _, _, _, _, _, _, _, _, _, _, _, _, _, _, _, _, _, _, _, _, _, _, _, _, _, _, _, _, _, _, _, _, _, _, _, _, _, _, _, _, _, _, _, _, _, _, _, _, _, _, _, _, _, _, _, _, _, _, _, _, _, _, _, _, _, _, _, _, _, _, _, _, _, _, _, _, _, _, _, _, _, _, _, _, _, _, _, _, _, _, _, _, _], []⟩) (by kernel_rfl) (fun j hj => by simp at hj) (by kernel_rfl) (fun _ _ _ _ _ h => h) (Ys.cons rfl (Or.inl ⟨by rfl, fun W1 hW1 => exec_at rfl rfl rfl (by omega)⟩) (Ys.cons rfl (Or.inl ⟨by rfl, fun W1 hW1 => exec_load (ty := tSmp) (x := .tmp 163) rfl rfl (Arr.load (HA.out.call hW1) HYq.out)⟩) (Ys.cons rfl (Or.inl ⟨by rfl, fun W1 hW1 => by first | rfl | (go_simp; done) | (go_simp; with_reducible rfl)⟩) (Ys.cons rfl (Or.inl ⟨by rfl, fun W1 hW1 => by first | rfl | (go_simp; done) | (go_simp; with_reducible rfl)⟩) (Ys.cons rfl (Or.inl ⟨by rfl, fun W1 hW1 => exec_at rfl rfl rfl (by omega)⟩) (Ys.nil)))))) (S0) (by rfl) (by rfl) ?_
      refine anyG_takes (is := [10]) (vs := [.agg x.row]) (m := 3) (listed2 := #[true, true, true, true, true, true, true, true, true, true, true, false, false, false]) (a2 := ⟨#[_, _, _, _, _, _, _, _, _, _, _, _, _, _, _, _, _, _, _, _, _, _, _, _, _, _, _, _, _, _, _, _, _, _, _, _, _, _, _, _, _, _, _, _, _, _, _, _, _, _, _, _, _, _, _, _, _, _, _, _, _, _, _, _, _, _, _, _, _, _, _, _, _, _, _, _, _, _, _, _, _, _, _, _, _, _, _, _, _, _, _, _, _, _, _, _, _, _, _, _, _, _, _, _, _, _, _, _, _, _, _, _, _, _, _, _, _, _, _, _, _, _, _, _, _, _, _, _, _, _, _, _, _, _, _, _, _, _, _, _, _, _, _, _, _, _, _, _, _, _, _, _, _, _, _, _, _, _, _, _, _, _, _, _, _, _, _, _, _, _, _, _, _, _, _, _, _, _, _, _, _, _, _, _, _, _, _, _, _, _, _, _, _, _, _, _, _, _, _, _, _, _, _, _, _, _, _, _, _, _, _, _, _, _, _, _, _, _, _, _], []⟩) (by kernel_rfl) (fun j hj => by simp at hj) (by kernel_rfl) (fun _ _ _ _ _ h => h) (Ys.cons rfl (Or.inl ⟨by rfl, fun W1 hW1 => exec_load (ty := tSmp) (x := .tmp 167) rfl rfl (Arr.load (HA.out.call hW1) HXh.out)⟩) (Ys.nil)) (S0) (by rfl) (by rfl) ?_
      refine anyG_one (k := 11) (by kernel_rfl) rfl (by rfl) (fun Q2 hQ2 => ?_); go_wp2_with (go_at_fn 86; refine (HC.out _).mono ?_; rintro e v9 ⟨rfl, hb9⟩); refine hQ2 _ _ (fun _ => S0.trans (hb9.mono S0.size)) ?_; clear hQ2 Q2
      have S9 := S0.trans (hb9.mono S0.size)
      refine anyG_takes (is := [12, 13]) (vs := [.bool true, .bool false]) (m := 0) (listed2 := #[true, true, true, true, true, true, true, true, true, true, true, true, true, true]) (a2 := ⟨#[_, _, _, _, _, _, _, _, _, _, _, _, _, _, _, _, _, _, _, _, _, _, _, _, _, _, _, _, _, _, _, _, _, _, _, _, _, _, _, _, _, _, _, _, _, _, _, _, _, _, _, _, _, _, _, _, _, _, _, _, _, _, _, _, _, _, _, _, _, _, _, _, _, _, _, _, _, _, _, _, _, _, _, _, _, _, _, _, _, _, _, _, _, _, _, _, _, _, _, _, _, _, _, _, _, _, _, _, _, _, _, _, _, _, _, _, _, _, _, _, _, _, _, _, _, _, _, _, _, _, _, _, _, _, _, _, _, _, _, _, _, _, _, _, _, _, _, _, _, _, _, _, _, _, _, _, _, _, _, _, _, _, _, _, _, _, _, _, _, _, _, _, _, _, _, _, _, _, _, _, _, _, _, _, _, _, _, _, _, _, _, _, _, _, _, _, _, _, _, _, _, _, _, _, _, _, _, _, _, _, _, _, _, _, _, _, _, _, _, _], []⟩) (by kernel_rfl) (fun j hj => by simp at hj) (by kernel_rfl) (fun _ _ _ _ _ h => h) (Ys.cons rfl (Or.inl ⟨by rfl, fun W1 hW1 => by go_simp⟩) (Ys.cons rfl (Or.inl ⟨by rfl, fun W1 hW1 => by rfl⟩) (Ys.nil))) (S9) (by rfl) (by rfl) ?_
      refine anyG_done (by kernel_rfl) ?_ _
      have J := Lib.hid (HA.out.call S9)
      have U := Lib.hid (HU.out.call S9)
      clear hb9 S9 S0 HC hC
      go_wp2
      go_roundw
      case rel => exact ⟨i, h, rfl, by first | rfl | go_num, by omega, by omega, by omega, by omega, J.out, U.out⟩
      case measure => first | (simp [intOf]; done) | (simp [intOf]; omega)
  · obtain rfl : i = K := by omega
    obtain rfl : i = j := by omega
    have hK5 : i ≤ 100000 := by omega
    have he5 : e ≤ 100000 := by have := HEe.out; omega
    have A0 := HA
    have hee := HEe.out
    have ze : (mid : Int) + (m : Int) - (i : Int) = (e : Int) := by omega
    clear hij
    by_cases c1 : i < m <;> by_cases c4 : i < mid <;> by_cases c3 : a < i <;> by_cases c2 : e < b
    all_goals
      have C1 := Lib.hid c1
      have C2 := Lib.hid c2
      have C3 := Lib.hid c3
      have C4 := Lib.hid c4
    · -- 1111
      first
      | (exfalso; omega)
      | have f2 : m < e := by omega
        have f5 : mid < e := by omega
        have HC := Lib.hid (T1.out wr (by omega) (by omega) A0.out)
        clear k1 k2 k3 k4 k5 k6 hiK hKj hli hjh hee hhm hhd hnb
        go_wp2_with fail
        with_reducible (refine Calls.mono HC.out ?_)
        rintro e2 w2 ⟨rfl, ha2, hu2⟩
        have A2 := Lib.hid ha2
        have U2 := Lib.hid (HU.out.trans hu2 (fun k hk => .inl hk))
        clear ha2 hu2
        have HC1 := Lib.hid (T2.out w2 C3.out C4.out A2.out)
        go_wp2_with fail
        with_reducible (refine Calls.mono HC1.out ?_)
        rintro e3 w3 ⟨rfl, ha3, hu3⟩
        have A3 := Lib.hid ha3
        have U3 := Lib.hid (U2.out.trans hu3 (fun k hk => .inl hk))
        clear ha3 hu3
        have HC2 := Lib.hid (T3.out w3 C1.out C2.out A3.out)
        go_wp2_with fail
        with_reducible (refine Calls.mono HC2.out ?_)
        rintro e4 w4 ⟨rfl, ha4, hu4⟩
        have A4 := Lib.hid (show Arr w4 g L1 from by rw [← EL.out]; exact ha4)
        have U4 := Lib.hid (U3.out.trans hu4 (fun k hk => .inl hk))
        clear ha4 hu4
        go_wp2
        go_returns
        exact ⟨rfl, A4.out, U4.out⟩
    · -- 1110
      first
      | (exfalso; omega)
      | have f2 : m < e := by omega
        have f5 : mid < e := by omega
        have HC := Lib.hid (T1.out wr (by omega) (by omega) A0.out)
        clear k1 k2 k3 k4 k5 k6 hiK hKj hli hjh hee hhm hhd hnb
        go_wp2_with fail
        with_reducible (refine Calls.mono HC.out ?_)
        rintro e2 w2 ⟨rfl, ha2, hu2⟩
        have A2 := Lib.hid ha2
        have U2 := Lib.hid (HU.out.trans hu2 (fun k hk => .inl hk))
        clear ha2 hu2
        have HC1 := Lib.hid (T2.out w2 C3.out C4.out A2.out)
        go_wp2_with fail
        with_reducible (refine Calls.mono HC1.out ?_)
        rintro e3 w3 ⟨rfl, ha3, hu3⟩
        have A3 := Lib.hid ha3
        have U3 := Lib.hid (U2.out.trans hu3 (fun k hk => .inl hk))
        clear ha3 hu3
        have A4 := Lib.hid (show Arr w3 g L1 from by rw [← EL.out, ← N3.out (fun hh => C2.out hh.2)]; exact A3.out)
        go_wp2
        go_returns
        exact ⟨rfl, A4.out, U3.out⟩
    · -- 1101
      first
      | (exfalso; omega)
      | have f2 : m < e := by omega
        have f5 : mid < e := by omega
        have HC := Lib.hid (T1.out wr (by omega) (by omega) A0.out)
        clear k1 k2 k3 k4 k5 k6 hiK hKj hli hjh hee hhm hhd hnb
        go_wp2_with fail
        with_reducible (refine Calls.mono HC.out ?_)
        rintro e2 w2 ⟨rfl, ha2, hu2⟩
        have A2 := Lib.hid ha2
        have U2 := Lib.hid (HU.out.trans hu2 (fun k hk => .inl hk))
        clear ha2 hu2
        have A3 := Lib.hid (show Arr w2 g L3 from by rw [← N2.out (fun hh => C3.out hh.1)]; exact A2.out)
        have HC2 := Lib.hid (T3.out w2 C1.out C2.out A3.out)
        go_wp2_with fail
        with_reducible (refine Calls.mono HC2.out ?_)
        rintro e4 w4 ⟨rfl, ha4, hu4⟩
        have A4 := Lib.hid (show Arr w4 g L1 from by rw [← EL.out]; exact ha4)
        have U4 := Lib.hid (U2.out.trans hu4 (fun k hk => .inl hk))
        clear ha4 hu4
        go_wp2
        go_returns
        exact ⟨rfl, A4.out, U4.out⟩
    · -- 1100
      first
      | (exfalso; omega)
      | have f2 : m < e := by omega
        have f5 : mid < e := by omega
        have HC := Lib.hid (T1.out wr (by omega) (by omega) A0.out)
        clear k1 k2 k3 k4 k5 k6 hiK hKj hli hjh hee hhm hhd hnb
        go_wp2_with fail
        with_reducible (refine Calls.mono HC.out ?_)
        rintro e2 w2 ⟨rfl, ha2, hu2⟩
        have A2 := Lib.hid ha2
        have U2 := Lib.hid (HU.out.trans hu2 (fun k hk => .inl hk))
        clear ha2 hu2
        have A3 := Lib.hid (show Arr w2 g L3 from by rw [← N2.out (fun hh => C3.out hh.1)]; exact A2.out)
        have A4 := Lib.hid (show Arr w2 g L1 from by rw [← EL.out, ← N3.out (fun hh => C2.out hh.2)]; exact A3.out)
        go_wp2
        go_returns
        exact ⟨rfl, A4.out, U2.out⟩
    · -- 1011
      first
      | (exfalso; omega)
      | have f2 : ¬ (m < e) := by omega
        have f5 : mid < e := by omega
        have A2 := Lib.hid (show Arr wr g L2 from by rw [← N1.out (by omega)]; exact A0.out)
        clear k1 k2 k3 k4 k5 k6 hiK hKj hli hjh hee hhm hhd hnb
        have A3 := Lib.hid (show Arr wr g L3 from by rw [← N2.out (fun hh => C4.out hh.2)]; exact A2.out)
        have HC2 := Lib.hid (T3.out wr C1.out C2.out A3.out)
        go_wp2_with fail
        with_reducible (refine Calls.mono HC2.out ?_)
        rintro e4 w4 ⟨rfl, ha4, hu4⟩
        have A4 := Lib.hid (show Arr w4 g L1 from by rw [← EL.out]; exact ha4)
        have U4 := Lib.hid (HU.out.trans hu4 (fun k hk => .inl hk))
        clear ha4 hu4
        go_wp2
        go_returns
        exact ⟨rfl, A4.out, U4.out⟩
    · -- 1010
      first
      | (exfalso; omega)
      | have f2 : ¬ (m < e) := by omega
        have f5 : mid < e := by omega
        have A2 := Lib.hid (show Arr wr g L2 from by rw [← N1.out (by omega)]; exact A0.out)
        clear k1 k2 k3 k4 k5 k6 hiK hKj hli hjh hee hhm hhd hnb
        have A3 := Lib.hid (show Arr wr g L3 from by rw [← N2.out (fun hh => C4.out hh.2)]; exact A2.out)
        have A4 := Lib.hid (show Arr wr g L1 from by rw [← EL.out, ← N3.out (fun hh => C2.out hh.2)]; exact A3.out)
        go_wp2
        go_returns
        exact ⟨rfl, A4.out, HU.out⟩
    · -- 1001
      first
      | (exfalso; omega)
      | have f2 : ¬ (m < e) := by omega
        have f5 : mid < e := by omega
        have A2 := Lib.hid (show Arr wr g L2 from by rw [← N1.out (by omega)]; exact A0.out)
        clear k1 k2 k3 k4 k5 k6 hiK hKj hli hjh hee hhm hhd hnb
        have A3 := Lib.hid (show Arr wr g L3 from by rw [← N2.out (fun hh => C3.out hh.1)]; exact A2.out)
        have HC2 := Lib.hid (T3.out wr C1.out C2.out A3.out)
        go_wp2_with fail
        with_reducible (refine Calls.mono HC2.out ?_)
        rintro e4 w4 ⟨rfl, ha4, hu4⟩
        have A4 := Lib.hid (show Arr w4 g L1 from by rw [← EL.out]; exact ha4)
        have U4 := Lib.hid (HU.out.trans hu4 (fun k hk => .inl hk))
        clear ha4 hu4
        go_wp2
        go_returns
        exact ⟨rfl, A4.out, U4.out⟩
    · -- 1000
      first
      | (exfalso; omega)
      | have f2 : ¬ (m < e) := by omega
        have f5 : mid < e := by omega
        have A2 := Lib.hid (show Arr wr g L2 from by rw [← N1.out (by omega)]; exact A0.out)
        clear k1 k2 k3 k4 k5 k6 hiK hKj hli hjh hee hhm hhd hnb
        have A3 := Lib.hid (show Arr wr g L3 from by rw [← N2.out (fun hh => C3.out hh.1)]; exact A2.out)
        have A4 := Lib.hid (show Arr wr g L1 from by rw [← EL.out, ← N3.out (fun hh => C2.out hh.2)]; exact A3.out)
        go_wp2
        go_returns
        exact ⟨rfl, A4.out, HU.out⟩
    · -- 0111
      first
      | (exfalso; omega)
      | have f2 : m < e := by omega
        have f5 : ¬ (mid < e) := by omega
        have A2 := Lib.hid (show Arr wr g L2 from by rw [← N1.out (by omega)]; exact A0.out)
        clear k1 k2 k3 k4 k5 k6 hiK hKj hli hjh hee hhm hhd hnb
        have HC1 := Lib.hid (T2.out wr C3.out C4.out A2.out)
        go_wp2_with fail
        with_reducible (refine Calls.mono HC1.out ?_)
        rintro e3 w3 ⟨rfl, ha3, hu3⟩
        have A3 := Lib.hid ha3
        have U3 := Lib.hid (HU.out.trans hu3 (fun k hk => .inl hk))
        clear ha3 hu3
        have A4 := Lib.hid (show Arr w3 g L1 from by rw [← EL.out, ← N3.out (fun hh => C1.out hh.1)]; exact A3.out)
        go_wp2
        go_returns
        exact ⟨rfl, A4.out, U3.out⟩
    · -- 0110
      first
      | (exfalso; omega)
      | have f2 : m < e := by omega
        have f5 : ¬ (mid < e) := by omega
        have A2 := Lib.hid (show Arr wr g L2 from by rw [← N1.out (by omega)]; exact A0.out)
        clear k1 k2 k3 k4 k5 k6 hiK hKj hli hjh hee hhm hhd hnb
        have HC1 := Lib.hid (T2.out wr C3.out C4.out A2.out)
        go_wp2_with fail
        with_reducible (refine Calls.mono HC1.out ?_)
        rintro e3 w3 ⟨rfl, ha3, hu3⟩
        have A3 := Lib.hid ha3
        have U3 := Lib.hid (HU.out.trans hu3 (fun k hk => .inl hk))
        clear ha3 hu3
        have A4 := Lib.hid (show Arr w3 g L1 from by rw [← EL.out, ← N3.out (fun hh => C1.out hh.1)]; exact A3.out)
        go_wp2
        go_returns
        exact ⟨rfl, A4.out, U3.out⟩
    · -- 0101
      first
      | (exfalso; omega)
      | have f2 : m < e := by omega
        have f5 : ¬ (mid < e) := by omega
        have A2 := Lib.hid (show Arr wr g L2 from by rw [← N1.out (by omega)]; exact A0.out)
        clear k1 k2 k3 k4 k5 k6 hiK hKj hli hjh hee hhm hhd hnb
        have A3 := Lib.hid (show Arr wr g L3 from by rw [← N2.out (fun hh => C3.out hh.1)]; exact A2.out)
        have A4 := Lib.hid (show Arr wr g L1 from by rw [← EL.out, ← N3.out (fun hh => C1.out hh.1)]; exact A3.out)
        go_wp2
        go_returns
        exact ⟨rfl, A4.out, HU.out⟩
    · -- 0100
      first
      | (exfalso; omega)
      | have f2 : m < e := by omega
        have f5 : ¬ (mid < e) := by omega
        have A2 := Lib.hid (show Arr wr g L2 from by rw [← N1.out (by omega)]; exact A0.out)
        clear k1 k2 k3 k4 k5 k6 hiK hKj hli hjh hee hhm hhd hnb
        have A3 := Lib.hid (show Arr wr g L3 from by rw [← N2.out (fun hh => C3.out hh.1)]; exact A2.out)
        have A4 := Lib.hid (show Arr wr g L1 from by rw [← EL.out, ← N3.out (fun hh => C1.out hh.1)]; exact A3.out)
        go_wp2
        go_returns
        exact ⟨rfl, A4.out, HU.out⟩
    · -- 0011
      first
      | (exfalso; omega)
      | have f2 : ¬ (m < e) := by omega
        have f5 : ¬ (mid < e) := by omega
        have A2 := Lib.hid (show Arr wr g L2 from by rw [← N1.out (by omega)]; exact A0.out)
        clear k1 k2 k3 k4 k5 k6 hiK hKj hli hjh hee hhm hhd hnb
        have A3 := Lib.hid (show Arr wr g L3 from by rw [← N2.out (fun hh => C4.out hh.2)]; exact A2.out)
        have A4 := Lib.hid (show Arr wr g L1 from by rw [← EL.out, ← N3.out (fun hh => C1.out hh.1)]; exact A3.out)
        go_wp2
        go_returns
        exact ⟨rfl, A4.out, HU.out⟩
    · -- 0010
      first
      | (exfalso; omega)
      | have f2 : ¬ (m < e) := by omega
        have f5 : ¬ (mid < e) := by omega
        have A2 := Lib.hid (show Arr wr g L2 from by rw [← N1.out (by omega)]; exact A0.out)
        clear k1 k2 k3 k4 k5 k6 hiK hKj hli hjh hee hhm hhd hnb
        have A3 := Lib.hid (show Arr wr g L3 from by rw [← N2.out (fun hh => C4.out hh.2)]; exact A2.out)
        have A4 := Lib.hid (show Arr wr g L1 from by rw [← EL.out, ← N3.out (fun hh => C1.out hh.1)]; exact A3.out)
        go_wp2
        go_returns
        exact ⟨rfl, A4.out, HU.out⟩
    · -- 0001
      first
      | (exfalso; omega)
      | have f2 : ¬ (m < e) := by omega
        have f5 : ¬ (mid < e) := by omega
        have A2 := Lib.hid (show Arr wr g L2 from by rw [← N1.out (by omega)]; exact A0.out)
        clear k1 k2 k3 k4 k5 k6 hiK hKj hli hjh hee hhm hhd hnb
        have A3 := Lib.hid (show Arr wr g L3 from by rw [← N2.out (fun hh => C3.out hh.1)]; exact A2.out)
        have A4 := Lib.hid (show Arr wr g L1 from by rw [← EL.out, ← N3.out (fun hh => C1.out hh.1)]; exact A3.out)
        go_wp2
        go_returns
        exact ⟨rfl, A4.out, HU.out⟩
    · -- 0000
      first
      | (exfalso; omega)
      | have f2 : ¬ (m < e) := by omega
        have f5 : ¬ (mid < e) := by omega
        have A2 := Lib.hid (show Arr wr g L2 from by rw [← N1.out (by omega)]; exact A0.out)
        clear k1 k2 k3 k4 k5 k6 hiK hKj hli hjh hee hhm hhd hnb
        have A3 := Lib.hid (show Arr wr g L3 from by rw [← N2.out (fun hh => C3.out hh.1)]; exact A2.out)
        have A4 := Lib.hid (show Arr wr g L1 from by rw [← EL.out, ← N3.out (fun hh => C1.out hh.1)]; exact A3.out)
        go_wp2
        go_returns
        exact ⟨rfl, A4.out, HU.out⟩
end Go.Proofs.Ytkjmacdekfbfhaa
