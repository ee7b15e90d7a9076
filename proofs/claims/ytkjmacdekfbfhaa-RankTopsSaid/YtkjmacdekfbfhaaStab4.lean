/- slices.insertionSortCmpFunc at samples. (fast region, no defers) -/
import Derived.Test.YtkjmacdekfbfhaaStab3
namespace Go.Proofs.Ytkjmacdekfbfhaa
open Go.RowKit
set_option linter.unusedSimpArgs false
set_option linter.unusedVariables false
set_option maxHeartbeats 4000000
set_option maxRecDepth 100000
/-- The inner loop: x on its way down, S1 ahead of it, S2 behind. -/
structure InI (w wr : World) (g a j : Nat) (P T R : List Smp) (x : Smp) (S1 S2 : List Smp) : Prop where
  la : a = P.length
  lj : j = a + S1.length
  hT : S1 ++ S2 = T
  gt : ∀ y ∈ S2, geb y x = false
  arr : Arr wr g (P ++ S1 ++ x :: S2 ++ R)
  upd : Upd (fun k => k = g) w wr
theorem InI.call {w wr W : World} {g a j : Nat} {P T R : List Smp} {x : Smp} {S1 S2 : List Smp} (h : InI w wr g a j P T R x S1 S2) (hb : Below wr.heap.size wr W) : InI w W g a j P T R x S1 S2 :=
  ⟨h.la, h.lj, h.hT, h.gt, h.arr.call hb, h.upd.call hb⟩
theorem InI.here {w wr : World} {g a j : Nat} {P T R : List Smp} {x : Smp} {S1 S2 : List Smp} (h : InI w wr g a j P T R x S1 S2) : (P ++ S1 ++ x :: S2 ++ R)[j]? = some x := by
  rw [h.lj, h.la, List.append_assoc (P ++ S1), ← List.length_append, List.cons_append]
  simp
theorem InI.prev {w wr : World} {g a j : Nat} {P T R : List Smp} {x : Smp} {S1 S2 : List Smp} (h : InI w wr g a (j + 1) P T R x S1 S2) (hj : a < j + 1) : ∃ S y, S1 = S ++ [y] ∧ j = a + S.length ∧ (P ++ S1 ++ x :: S2 ++ R)[j]? = some y ∧ ((P ++ S1 ++ x :: S2 ++ R).set (j + 1) y).set j x = P ++ S ++ x :: (y :: S2) ++ R := by
  rcases List.eq_nil_or_concat S1 with e | ⟨S, y, e⟩
  · have := h.lj; rw [e] at this; simp at this; omega
  · rw [List.concat_eq_append] at e
    have l1 : j = a + S.length := by have := h.lj; rw [e] at this; simp at this; omega
    have l2 : j = (P ++ S).length := by rw [List.length_append, ← h.la]; exact l1
    refine ⟨S, y, e, l1, ?_, ?_⟩
    · rw [e, l2]
      simp
    · have e0 : P ++ S1 ++ x :: S2 ++ R = (P ++ S) ++ y :: ([] ++ x :: (S2 ++ R)) := by rw [e]; simp
      have := swap2 (P ++ S) [] (S2 ++ R) y x
      rw [e0, l2]
      rw [List.set_comm _ _ (by omega)]
      rw [show (P ++ S).length + 1 = (P ++ S).length + 1 + ([] : List Smp).length from rfl, this]
      simp
theorem InI.next {w wr w' : World} {g a j : Nat} {P T R : List Smp} {x y : Smp} {S S2 : List Smp} (h : InI w wr g a (j + 1) P T R x (S ++ [y]) S2) (hj : j = a + S.length) (hy : geb y x = false) (ha : Arr w' g (P ++ S ++ x :: (y :: S2) ++ R)) (hu : Upd (fun k => k = g) w w') : InI w w' g a j P T R x S (y :: S2) :=
  ⟨h.la, hj, by rw [← h.hT]; simp, fun z hz => by rcases List.mem_cons.1 hz with rfl | hz; exact hy; exact h.gt z hz, ha, hu⟩
/-- The outer loop's list behind k samples. -/
def outq (P S Q : List Smp) (k : Nat) : List Smp := P ++ isrtS geb (S.take k) ++ S.drop k ++ Q
theorem InI.start {w wr : World} {g a k : Nat} {P S Q : List Smp} {x : Smp} (la : a = P.length) (hx : S[k]? = some x) (h : Arr wr g (outq P S Q k)) (hu : Upd (fun k => k = g) w wr) : InI w wr g a (a + k) P (isrtS geb (S.take k)) (S.drop (k + 1) ++ Q) x (isrtS geb (S.take k)) [] := by
  have hk := (List.getElem?_eq_some_iff.1 hx).1
  refine ⟨la, by rw [isrtS_len, List.length_take]; omega, by simp, (fun y hy => by simp at hy), ?_, hu⟩
  have hd : S.drop k = x :: S.drop (k + 1) := by rw [List.drop_eq_getElem_cons hk, (List.getElem?_eq_some_iff.1 hx).2]
  unfold outq at h
  rw [hd] at h
  simpa using h
theorem InI.stop {w wr : World} {g a j k : Nat} {P S Q : List Smp} {x : Smp} {S1 S2 : List Smp} (h : InI w wr g a j P (isrtS geb (S.take k)) (S.drop (k + 1) ++ Q) x S1 S2) (hx : S[k]? = some x) (hs : j = a ∨ ∃ T y, S1 = T ++ [y] ∧ geb y x = true) : Arr wr g (outq P S Q (k + 1)) := by
  have h1 : ∀ y ∈ S1, geb y x = true := by
    rcases hs with hs | ⟨T, y, rfl, hy⟩
    · intro y hy
      have := h.lj
      have : S1 = [] := List.eq_nil_of_length_eq_zero (by omega)
      rw [this] at hy; simp at hy
    · intro z hz
      rcases List.mem_append.1 hz with hz | hz
      · have hsrt := isrtS_srt geb_tot geb_tr (S.take k)
        rw [← h.hT] at hsrt
        unfold SrtS at hsrt
        have h3 := (List.pairwise_append.1 (List.pairwise_append.1 hsrt).1).2.2 z hz y (by simp)
        exact geb_tr _ _ _ h3 hy
      · simp at hz; rw [hz]; exact hy
  have e : outq P S Q (k + 1) = P ++ S1 ++ x :: S2 ++ (S.drop (k + 1) ++ Q) := by
    unfold outq
    rw [take_snoc2 hx, isrtS_snoc, ← h.hT, insS_eq h1 h.gt]
    simp
  rw [e]; exact h.arr
theorem outq_zero (P S Q : List Smp) : outq P S Q 1 = P ++ S ++ Q := by
  unfold outq
  cases S with
  | nil => simp [isrtS]
  | cons x S => simp [isrtS, insS]
theorem outq_end (P S Q : List Smp) {k : Nat} (h : S.length ≤ k) : outq P S Q k = P ++ isrtS geb S ++ Q := by
  unfold outq
  rw [List.take_of_length_le h, List.drop_of_length_le h]; simp
theorem InI.len {w wr : World} {g a j k : Nat} {P S Q : List Smp} {x : Smp} {S1 S2 : List Smp} (h : InI w wr g a j P (isrtS geb (S.take k)) (S.drop (k + 1) ++ Q) x S1 S2) (hk : k < S.length) : (P ++ S1 ++ x :: S2 ++ (S.drop (k + 1) ++ Q)).length = (P ++ S ++ Q).length := by
  have := congrArg List.length h.hT
  rw [isrtS_len, List.length_append, List.length_take] at this
  simp; omega
theorem cmp_here (x y : Smp) : ∃ C : Int, decide (C < 0) = !geb y x ∧ ∀ W, Calls Try.prog 86 #[.agg x.row, .agg y.row] W fun e w' => e = .returned (.int .i64 C) ∧ Below W.heap.size W w' :=
  ⟨cmpq x y, cmpq_lt x y, fun W => top_cmp x y W⟩
theorem slices_insertion (g n c a b : Nat) (P S Q : List Smp) (w : World) (ha : a = P.length) (hb : b = a + S.length) (hn : b + Q.length = n) (hm : n ≤ 100000) (h : Arr w g (P ++ S ++ Q)) :
    Calls Try.prog 157 #[.slice (some ⟨g, 0, none⟩) n c, .int .i64 a, .int .i64 b, fTop] w (SrtP w g (P ++ isrtS geb S ++ Q)) := by
  have H0 := Lib.hid (show Arr w g (outq P S Q 1) by rw [outq_zero]; exact h)
  have HA := Lib.hid ha
  have HS := Lib.hid hb
  have HX := Lib.hid (fun k (hk : a + k < b) => (show ∃ x, S[k]? = some x from ⟨_, List.getElem?_eq_getElem (by omega)⟩))
  have HLn := Lib.hid (show (P ++ S ++ Q).length = n from by simp; omega)
  have hbn : b ≤ n := by omega
  have ha5 : a ≤ 100000 := by omega
  clear ha hb hn h
  go_enter Try.func157, Try.ntmps157
  go_wp2
  go_loopw [8] (fun v wr => ∃ (i k : Nat), v = .int .i64 (i : Int) ∧ i = a + k ∧ 1 ≤ k ∧ (i ≤ b ∨ k = 1) ∧ Arr wr g (outq P S Q k) ∧ Upd (fun k => k = g) w wr) (fun i _ => b - (intOf i).toNat)
  case atStart => exact ⟨a + 1, 1, by go_num, rfl, Nat.le_refl _, .inr rfl, H0.out, Upd.refl _ _⟩
  case round =>
    obtain ⟨i0, k, rfl, hik, hk1, hkb, harr, hup⟩ := hrel
    have HK := Lib.hid hik
    by_cases hlt : i0 < b
    · obtain ⟨x, hx⟩ := HX.out k (by omega)
      have I0 := Lib.hid (show InI w wr g a i0 P (isrtS geb (List.take k S)) (List.drop (k + 1) S ++ Q) x (isrtS geb (List.take k S)) [] from by rw [hik]; exact InI.start HA.out hx harr hup)
      have HXx := Lib.hid hx
      have hltz : (i0 : Int) < (b : Int) := by omega
      have hai : a ≤ i0 := by omega
      have hb5 : i0 ≤ 100000 := by omega
      clear harr hup hx hkb hik
      go_wp2
      go_loopw [9] (fun jv wr => ∃ (j : Nat) (S1 S2 : List Smp), jv = .int .i64 j ∧ a ≤ j ∧ j ≤ i0 ∧ InI w wr g a j P (isrtS geb (List.take k S)) (List.drop (k + 1) S ++ Q) x S1 S2) (fun jv _ => (intOf jv).toNat)
      case atStart => exact ⟨i0, _, _, rfl, hai, Nat.le_refl _, I0.out⟩
      case round =>
        obtain ⟨j, S1, S2, rfl, hja, hjk, hin⟩ := hrel
        have HI := Lib.hid hin
        by_cases hj : a < j
        · obtain ⟨i, rfl⟩ : ∃ i, j = i + 1 := ⟨j - 1, by omega⟩
          obtain ⟨T, y, rfl, hiT, hy, hsw⟩ := hin.prev hj
          have HH := Lib.hid hin.here
          have HY := Lib.hid hy
          have HSW := Lib.hid hsw
          have HT := Lib.hid hiT
          have HLx := Lib.hid (show (P ++ (T ++ [y]) ++ x :: S2 ++ (List.drop (k + 1) S ++ Q)).length = n from by rw [hin.len (by have := HS.out; have := HK.out; omega)]; exact HLn.out)
          have dj : (a : Int) < (i : Int) + 1 := by omega
          have zi : IntKind.i64.wrap (i : Int) = (i : Int) := by rw [IntKind.wrap_i64]; omega
          have eg : ∀ args W, (callFunc 86 args).run Try.prog W = .ok (.enter 86 args) W := fun _ _ => by rfl
          obtain ⟨C, hC, hcm⟩ := cmp_here x y
          have HC := Lib.hid hcm
          clear hin hy hsw hiT hcm
          focus (go_upto_region 4 with fail)
          cases hge : geb y x
          · rw [hge] at hC
            refine wp_region_any (by kernel_rfl) ?_; change wpAny _ _ _ _ _ _ _ (World.drew wr); refine any_of_anyG (late := fun _ => false) (S := fun wS => Below wr.heap.size wr wS) _ _ _ _ ?_
            have S0 := (Below.refl wr.heap.size wr).drew
            refine anyG_takes (is := [0, 1, 2, 3, 4]) (vs := [_, _, .bool true, .bool true, fTop]) (m := 12) (listed2 := #[true, true, true, true, true, false, false, false, false, false, false, false, false, false, false, false, false]) (a2 := ⟨#[_, _, _, _, _, _, _, _, _, _, _, _, _, _, _, _, _, _, _, _, _, _, _, _, _, _, _, _, _, _, _, _, _, _, _, _, _, _, _, _, _, _, _, _, _, _, _, _, _, _, _, _, _], []⟩) (by kernel_rfl) (fun j hj => by simp at hj) (by kernel_rfl) (fun _ _ _ _ _ h => h) (Ys.cons rfl (Or.inl ⟨by rfl, fun W1 hW1 => by first | rfl | (go_simp; done) | (go_simp; with_reducible rfl)⟩) (Ys.cons rfl (Or.inl ⟨by rfl, fun W1 hW1 => by first | rfl | (go_simp; done) | (go_simp; with_reducible rfl)⟩) (Ys.cons rfl (Or.inl ⟨by rfl, fun W1 hW1 => by go_simp⟩) (Ys.cons rfl (Or.inl ⟨by rfl, fun W1 hW1 => by rfl⟩) (Ys.cons rfl (Or.inl ⟨by rfl, fun W1 hW1 => by rfl⟩) (Ys.nil)))))) (S0) (by rfl) (by rfl) ?_
            refine anyG_takes (is := [5, 6, 7, 8, 9]) (vs := [_, _, .pointer (some ⟨g, (i + 1) * 2, none⟩), .agg x.row, _]) (m := 7) (listed2 := #[true, true, true, true, true, true, true, true, true, true, false, false, false, false, false, false, false]) (a2 := ⟨#[_, _, _, _, _, _, _, _, _, _, _, _, _, _, _, _, _, _, _, _, _, _, _, _, _, _, _, _, _, _, _, _, _, _, _, _, _, _, _, _, _, _, _, _, _, _, _, _, _, _, _, _, _], []⟩) (by kernel_rfl) (fun j hj => by simp at hj) (by kernel_rfl) (fun _ _ _ _ _ h => h) (Ys.cons rfl (Or.inl ⟨by rfl, fun W1 hW1 => by first | rfl | (go_simp; done) | (go_simp; with_reducible rfl)⟩) (Ys.cons rfl (Or.inl ⟨by rfl, fun W1 hW1 => by first | rfl | (go_simp; done) | (go_simp; with_reducible rfl)⟩) (Ys.cons rfl (Or.inl ⟨by rfl, fun W1 hW1 => exec_at rfl rfl rfl (by omega)⟩) (Ys.cons rfl (Or.inl ⟨by rfl, fun W1 hW1 => exec_load (ty := tSmp) (x := .tmp 25) rfl rfl (Arr.load (HI.out.arr.call hW1) HH.out)⟩) (Ys.cons rfl (Or.inl ⟨by rfl, fun W1 hW1 => by first | rfl | (go_simp; done) | (go_simp; with_reducible rfl)⟩) (Ys.nil)))))) (S0) (by rfl) (by rfl) ?_
            refine anyG_takes (is := [10, 11, 12, 13]) (vs := [_, .int .i64 (i : Int), .pointer (some ⟨g, i * 2, none⟩), .agg y.row]) (m := 3) (listed2 := #[true, true, true, true, true, true, true, true, true, true, true, true, true, true, false, false, false]) (a2 := ⟨#[_, _, _, _, _, _, _, _, _, _, _, _, _, _, _, _, _, _, _, _, _, _, _, _, _, _, _, _, _, _, _, _, _, _, _, _, _, _, _, _, _, _, _, _, _, _, _, _, _, _, _, _, _], []⟩) (by kernel_rfl) (fun j hj => by simp at hj) (by kernel_rfl) (fun _ _ _ _ _ h => h) (Ys.cons rfl (Or.inl ⟨by rfl, fun W1 hW1 => by first | rfl | (go_simp; done) | (go_simp; with_reducible rfl)⟩) (Ys.cons rfl (Or.inl ⟨by rfl, fun W1 hW1 => by go_simp⟩) (Ys.cons rfl (Or.inl ⟨by rfl, fun W1 hW1 => exec_at rfl rfl rfl (by omega)⟩) (Ys.cons rfl (Or.inl ⟨by rfl, fun W1 hW1 => exec_load (ty := tSmp) (x := .tmp 30) rfl rfl (Arr.load (HI.out.arr.call hW1) HY.out)⟩) (Ys.nil))))) (S0) (by rfl) (by rfl) ?_
            refine anyG_one (k := 14) (by kernel_rfl) rfl (by rfl) (fun Q2 hQ2 => ?_); go_wp2_with (go_at_fn 86; refine (HC.out _).mono ?_; rintro e v14 ⟨rfl, hb14⟩); refine hQ2 _ _ (fun _ => S0.trans (hb14.mono S0.size)) ?_; clear hQ2 Q2
            have S14 := S0.trans (hb14.mono S0.size)
            refine anyG_takes (is := [15, 16]) (vs := [.bool true, .bool true]) (m := 0) (listed2 := #[true, true, true, true, true, true, true, true, true, true, true, true, true, true, true, true, true]) (a2 := ⟨#[_, _, _, _, _, _, _, _, _, _, _, _, _, _, _, _, _, _, _, _, _, _, _, _, _, _, _, _, _, _, _, _, _, _, _, _, _, _, _, _, _, _, _, _, _, _, _, _, _, _, _, _, _], []⟩) (by kernel_rfl) (fun j hj => by simp at hj) (by kernel_rfl) (fun _ _ _ _ _ h => h) (Ys.cons rfl (Or.inl ⟨by rfl, fun W1 hW1 => by go_simp⟩) (Ys.cons rfl (Or.inl ⟨by rfl, fun W1 hW1 => by rfl⟩) (Ys.nil))) (S14) (by rfl) (by rfl) ?_
            refine anyG_done (by kernel_rfl) ?_ _
            have J := Lib.hid (HI.out.call S14)
            clear hb14 S14 S0 HC eg dj hC
            go_wp2
            focus (go_upto_region 6 with fail)
            refine wp_region_any (by kernel_rfl) ?_; change wpAny _ _ _ _ _ _ _ (World.drew v14); refine any_of_anyG (late := fun _ => false) (S := fun wS => Upd (fun k => k = g) v14 wS) _ _ _ _ ?_
            have S0 := (Upd.refl (fun k => k = g) v14).drew
            refine anyG_takes (is := [0, 1, 2, 3, 4]) (vs := [_, _, _, _, .int .i64 (i : Int)]) (m := 13) (listed2 := #[true, true, true, true, true, false, false, false, false, false, false, false, false, false, false, false, false, false]) (a2 := ⟨#[_, _, _, _, _, _, _, _, _, _, _, _, _, _, _, _, _, _, _, _, _, _, _, _, _, _, _, _, _, _, _, _, _, _, _, _, _, _, _, _, _, _, _, _, _, _, _, _, _, _, _, _, _], []⟩) (by kernel_rfl) (fun j hj => by simp at hj) (by kernel_rfl) (fun _ _ _ _ _ h => h) (Ys.cons rfl (Or.inl ⟨by rfl, fun W1 hW1 => by first | rfl | (go_simp; done) | (go_simp; with_reducible rfl)⟩) (Ys.cons rfl (Or.inl ⟨by rfl, fun W1 hW1 => by first | rfl | (go_simp; done) | (go_simp; with_reducible rfl)⟩) (Ys.cons rfl (Or.inl ⟨by rfl, fun W1 hW1 => by first | rfl | (go_simp; done) | (go_simp; with_reducible rfl)⟩) (Ys.cons rfl (Or.inl ⟨by rfl, fun W1 hW1 => by first | rfl | (go_simp; done) | (go_simp; with_reducible rfl)⟩) (Ys.cons rfl (Or.inl ⟨by rfl, fun W1 hW1 => by go_simp⟩) (Ys.nil)))))) (S0) (by rfl) (by rfl) ?_
            refine anyG_takes (is := [5, 6, 7, 8, 10]) (vs := [_, _, .int .i64 (i : Int), .pointer (some ⟨g, i * 2, none⟩), _]) (m := 8) (listed2 := #[true, true, true, true, true, true, true, true, true, false, true, false, false, false, false, false, false, false]) (a2 := ⟨#[_, _, _, _, _, _, _, _, _, _, _, _, _, _, _, _, _, _, _, _, _, _, _, _, _, _, _, _, _, _, _, _, _, _, _, _, _, _, _, _, _, _, _, _, _, _, _, _, _, _, _, _, _], []⟩) (by kernel_rfl) (fun j hj => by simp at hj) (by kernel_rfl) (fun _ _ _ _ _ h => h) (Ys.cons rfl (Or.inl ⟨by rfl, fun W1 hW1 => by first | rfl | (go_simp; done) | (go_simp; with_reducible rfl)⟩) (Ys.cons rfl (Or.inl ⟨by rfl, fun W1 hW1 => by first | rfl | (go_simp; done) | (go_simp; with_reducible rfl)⟩) (Ys.cons rfl (Or.inl ⟨by rfl, fun W1 hW1 => by go_simp⟩) (Ys.cons rfl (Or.inl ⟨by rfl, fun W1 hW1 => exec_at rfl rfl rfl (by omega)⟩) (Ys.cons rfl (Or.inl ⟨by rfl, fun W1 hW1 => by first | rfl | (go_simp; done) | (go_simp; with_reducible rfl)⟩) (Ys.nil)))))) (S0) (by rfl) (by rfl) ?_
            refine anyG_takes (is := [11, 12]) (vs := [_, .pointer (some ⟨g, (i + 1) * 2, none⟩)]) (m := 6) (listed2 := #[true, true, true, true, true, true, true, true, true, false, true, true, true, false, false, false, false, false]) (a2 := ⟨#[_, _, _, _, _, _, _, _, _, _, _, _, _, _, _, _, _, _, _, _, _, _, _, _, _, _, _, _, _, _, _, _, _, _, _, _, _, _, _, _, _, _, _, _, _, _, _, _, _, _, _, _, _], []⟩) (by kernel_rfl) (fun j hj => by simp at hj) (by kernel_rfl) (fun _ _ _ _ _ h => h) (Ys.cons rfl (Or.inl ⟨by rfl, fun W1 hW1 => by first | rfl | (go_simp; done) | (go_simp; with_reducible rfl)⟩) (Ys.cons rfl (Or.inl ⟨by rfl, fun W1 hW1 => exec_at rfl rfl rfl (by omega)⟩) (Ys.nil))) (S0) (by rfl) (by rfl) ?_
            refine anyG_two (i := 9) (j := 13) (by kernel_rfl) rfl (by rfl) rfl (by rfl) (fun Q2 hQ2 => ?_) (fun Q2 hQ2 => ?_)
            ·
              go_wp2_with (refine Arr.ld (w := v14.drew) J.out.arr HY.out rfl (.tmp 45) rfl rfl rfl ?_)
              refine hQ2 _ _ (fun _ => S0) ?_
              clear hQ2 Q2
              refine anyG_one (k := 13) (by kernel_rfl) rfl (by rfl) (fun Q2 hQ2 => ?_); go_wp2_with (refine Arr.ld (w := v14.drew) J.out.arr HH.out rfl (.tmp 49) rfl rfl rfl ?_); refine hQ2 _ _ (fun _ => S0) ?_; clear hQ2 Q2
              refine anyG_takes (is := [14]) (vs := [.pointer (some ⟨g, (i + 1) * 2, none⟩)]) (m := 3) (listed2 := #[true, true, true, true, true, true, true, true, true, true, true, true, true, true, true, false, false, false]) (a2 := ⟨#[_, _, _, _, _, _, _, _, _, _, _, _, _, _, _, _, _, _, _, _, _, _, _, _, _, _, _, _, _, _, _, _, _, _, _, _, _, _, _, _, _, _, _, _, _, _, _, _, _, _, _, _, _], []⟩) (by kernel_rfl) (fun j hj => by simp at hj) (by kernel_rfl) (fun _ _ _ _ _ h => h) (Ys.cons rfl (Or.inl ⟨by rfl, fun W1 hW1 => exec_at rfl rfl rfl (by omega)⟩) (Ys.nil)) (S0) (by rfl) (by rfl) ?_
              refine anyG_one (k := 15) (by kernel_rfl) rfl (by rfl) (fun Q2 hQ2 => ?_); go_wp2_with (refine Arr.store (w := v14.drew) J.out.arr (i := i + 1) (by rw [HLx.out]; omega) y rfl (.tmp 51) (.tmp 46) rfl rfl rfl rfl ?_; intro w5 h5 u5); refine hQ2 _ _ (fun _ => S0.trans u5 (fun k hk => .inl hk)) ?_; clear hQ2 Q2
              have S5 := S0.trans u5 (fun k hk => .inl hk)
              refine anyG_takes (is := [16]) (vs := [.pointer (some ⟨g, i * 2, none⟩)]) (m := 1) (listed2 := #[true, true, true, true, true, true, true, true, true, true, true, true, true, true, true, true, true, false]) (a2 := ⟨#[_, _, _, _, _, _, _, _, _, _, _, _, _, _, _, _, _, _, _, _, _, _, _, _, _, _, _, _, _, _, _, _, _, _, _, _, _, _, _, _, _, _, _, _, _, _, _, _, _, _, _, _, _], []⟩) (by kernel_rfl) (fun j hj => by simp at hj) (by kernel_rfl) (fun _ _ _ _ _ h => h) (Ys.cons rfl (Or.inl ⟨by rfl, fun W1 hW1 => exec_at rfl rfl rfl (by omega)⟩) (Ys.nil)) (S5) (by rfl) (by rfl) ?_
              refine anyG_one (k := 17) (by kernel_rfl) rfl (by rfl) (fun Q2 hQ2 => ?_); go_wp2_with (refine Arr.store h5 (i := i) (by rw [List.length_set, HLx.out]; omega) x rfl (.tmp 52) (.tmp 50) rfl rfl rfl rfl ?_; intro w6 h6 u6); refine hQ2 _ _ (fun _ => S5.trans u6 (fun k hk => .inl hk)) ?_; clear hQ2 Q2
              have S6 := S5.trans u6 (fun k hk => .inl hk)
              refine anyG_done (by kernel_rfl) ?_ _
              have X6 := Lib.hid (J.out.next HT.out hge (by rw [← HSW.out]; exact h6) (J.out.upd.trans S6 (fun k hk => .inl hk)))
              clear h5 h6 u5 u6 S0 S5 S6
              go_wp2
              go_roundw
              case rel => exact ⟨i, _, _, by first | rfl | go_num, by omega, by omega, X6.out⟩
              case measure => first | (simp [intOf]; done) | (simp [intOf]; omega)
            ·
              go_wp2_with (refine Arr.ld (w := v14.drew) J.out.arr HH.out rfl (.tmp 49) rfl rfl rfl ?_)
              refine hQ2 _ _ (fun _ => S0) ?_
              clear hQ2 Q2
              refine anyG_one (k := 9) (by kernel_rfl) rfl (by rfl) (fun Q2 hQ2 => ?_); go_wp2_with (refine Arr.ld (w := v14.drew) J.out.arr HY.out rfl (.tmp 45) rfl rfl rfl ?_); refine hQ2 _ _ (fun _ => S0) ?_; clear hQ2 Q2
              refine anyG_takes (is := [14]) (vs := [.pointer (some ⟨g, (i + 1) * 2, none⟩)]) (m := 3) (listed2 := #[true, true, true, true, true, true, true, true, true, true, true, true, true, true, true, false, false, false]) (a2 := ⟨#[_, _, _, _, _, _, _, _, _, _, _, _, _, _, _, _, _, _, _, _, _, _, _, _, _, _, _, _, _, _, _, _, _, _, _, _, _, _, _, _, _, _, _, _, _, _, _, _, _, _, _, _, _], []⟩) (by kernel_rfl) (fun j hj => by simp at hj) (by kernel_rfl) (fun _ _ _ _ _ h => h) (Ys.cons rfl (Or.inl ⟨by rfl, fun W1 hW1 => exec_at rfl rfl rfl (by omega)⟩) (Ys.nil)) (S0) (by rfl) (by rfl) ?_
              refine anyG_one (k := 15) (by kernel_rfl) rfl (by rfl) (fun Q2 hQ2 => ?_); go_wp2_with (refine Arr.store (w := v14.drew) J.out.arr (i := i + 1) (by rw [HLx.out]; omega) y rfl (.tmp 51) (.tmp 46) rfl rfl rfl rfl ?_; intro w5 h5 u5); refine hQ2 _ _ (fun _ => S0.trans u5 (fun k hk => .inl hk)) ?_; clear hQ2 Q2
              have S5 := S0.trans u5 (fun k hk => .inl hk)
              refine anyG_takes (is := [16]) (vs := [.pointer (some ⟨g, i * 2, none⟩)]) (m := 1) (listed2 := #[true, true, true, true, true, true, true, true, true, true, true, true, true, true, true, true, true, false]) (a2 := ⟨#[_, _, _, _, _, _, _, _, _, _, _, _, _, _, _, _, _, _, _, _, _, _, _, _, _, _, _, _, _, _, _, _, _, _, _, _, _, _, _, _, _, _, _, _, _, _, _, _, _, _, _, _, _], []⟩) (by kernel_rfl) (fun j hj => by simp at hj) (by kernel_rfl) (fun _ _ _ _ _ h => h) (Ys.cons rfl (Or.inl ⟨by rfl, fun W1 hW1 => exec_at rfl rfl rfl (by omega)⟩) (Ys.nil)) (S5) (by rfl) (by rfl) ?_
              refine anyG_one (k := 17) (by kernel_rfl) rfl (by rfl) (fun Q2 hQ2 => ?_); go_wp2_with (refine Arr.store h5 (i := i) (by rw [List.length_set, HLx.out]; omega) x rfl (.tmp 52) (.tmp 50) rfl rfl rfl rfl ?_; intro w6 h6 u6); refine hQ2 _ _ (fun _ => S5.trans u6 (fun k hk => .inl hk)) ?_; clear hQ2 Q2
              have S6 := S5.trans u6 (fun k hk => .inl hk)
              refine anyG_done (by kernel_rfl) ?_ _
              have X6 := Lib.hid (J.out.next HT.out hge (by rw [← HSW.out]; exact h6) (J.out.upd.trans S6 (fun k hk => .inl hk)))
              clear h5 h6 u5 u6 S0 S5 S6
              go_wp2
              go_roundw
              case rel => exact ⟨i, _, _, by first | rfl | go_num, by omega, by omega, X6.out⟩
              case measure => first | (simp [intOf]; done) | (simp [intOf]; omega)
          · rw [hge] at hC
            refine wp_region_any (by kernel_rfl) ?_; change wpAny _ _ _ _ _ _ _ (World.drew wr); refine any_of_anyG (late := fun _ => false) (S := fun wS => Below wr.heap.size wr wS) _ _ _ _ ?_
            have S0 := (Below.refl wr.heap.size wr).drew
            refine anyG_takes (is := [0, 1, 2, 3, 4]) (vs := [_, _, .bool true, .bool true, fTop]) (m := 12) (listed2 := #[true, true, true, true, true, false, false, false, false, false, false, false, false, false, false, false, false]) (a2 := ⟨#[_, _, _, _, _, _, _, _, _, _, _, _, _, _, _, _, _, _, _, _, _, _, _, _, _, _, _, _, _, _, _, _, _, _, _, _, _, _, _, _, _, _, _, _, _, _, _, _, _, _, _, _, _], []⟩) (by kernel_rfl) (fun j hj => by simp at hj) (by kernel_rfl) (fun _ _ _ _ _ h => h) (Ys.cons rfl (Or.inl ⟨by rfl, fun W1 hW1 => by first | rfl | (go_simp; done) | (go_simp; with_reducible rfl)⟩) (Ys.cons rfl (Or.inl ⟨by rfl, fun W1 hW1 => by first | rfl | (go_simp; done) | (go_simp; with_reducible rfl)⟩) (Ys.cons rfl (Or.inl ⟨by rfl, fun W1 hW1 => by go_simp⟩) (Ys.cons rfl (Or.inl ⟨by rfl, fun W1 hW1 => by rfl⟩) (Ys.cons rfl (Or.inl ⟨by rfl, fun W1 hW1 => by rfl⟩) (Ys.nil)))))) (S0) (by rfl) (by rfl) ?_
            refine anyG_takes (is := [5, 6, 7, 8, 9]) (vs := [_, _, .pointer (some ⟨g, (i + 1) * 2, none⟩), .agg x.row, _]) (m := 7) (listed2 := #[true, true, true, true, true, true, true, true, true, true, false, false, false, false, false, false, false]) (a2 := ⟨#[_, _, _, _, _, _, _, _, _, _, _, _, _, _, _, _, _, _, _, _, _, _, _, _, _, _, _, _, _, _, _, _, _, _, _, _, _, _, _, _, _, _, _, _, _, _, _, _, _, _, _, _, _], []⟩) (by kernel_rfl) (fun j hj => by simp at hj) (by kernel_rfl) (fun _ _ _ _ _ h => h) (Ys.cons rfl (Or.inl ⟨by rfl, fun W1 hW1 => by first | rfl | (go_simp; done) | (go_simp; with_reducible rfl)⟩) (Ys.cons rfl (Or.inl ⟨by rfl, fun W1 hW1 => by first | rfl | (go_simp; done) | (go_simp; with_reducible rfl)⟩) (Ys.cons rfl (Or.inl ⟨by rfl, fun W1 hW1 => exec_at rfl rfl rfl (by omega)⟩) (Ys.cons rfl (Or.inl ⟨by rfl, fun W1 hW1 => exec_load (ty := tSmp) (x := .tmp 25) rfl rfl (Arr.load (HI.out.arr.call hW1) HH.out)⟩) (Ys.cons rfl (Or.inl ⟨by rfl, fun W1 hW1 => by first | rfl | (go_simp; done) | (go_simp; with_reducible rfl)⟩) (Ys.nil)))))) (S0) (by rfl) (by rfl) ?_
            refine anyG_takes (is := [10, 11, 12, 13]) (vs := [_, .int .i64 (i : Int), .pointer (some ⟨g, i * 2, none⟩), .agg y.row]) (m := 3) (listed2 := #[true, true, true, true, true, true, true, true, true, true, true, true, true, true, false, false, false]) (a2 := ⟨#[_, _, _, _, _, _, _, _, _, _, _, _, _, _, _, _, _, _, _, _, _, _, _, _, _, _, _, _, _, _, _, _, _, _, _, _, _, _, _, _, _, _, _, _, _, _, _, _, _, _, _, _, _], []⟩) (by kernel_rfl) (fun j hj => by simp at hj) (by kernel_rfl) (fun _ _ _ _ _ h => h) (Ys.cons rfl (Or.inl ⟨by rfl, fun W1 hW1 => by first | rfl | (go_simp; done) | (go_simp; with_reducible rfl)⟩) (Ys.cons rfl (Or.inl ⟨by rfl, fun W1 hW1 => by go_simp⟩) (Ys.cons rfl (Or.inl ⟨by rfl, fun W1 hW1 => exec_at rfl rfl rfl (by omega)⟩) (Ys.cons rfl (Or.inl ⟨by rfl, fun W1 hW1 => exec_load (ty := tSmp) (x := .tmp 30) rfl rfl (Arr.load (HI.out.arr.call hW1) HY.out)⟩) (Ys.nil))))) (S0) (by rfl) (by rfl) ?_
            refine anyG_one (k := 14) (by kernel_rfl) rfl (by rfl) (fun Q2 hQ2 => ?_); go_wp2_with (go_at_fn 86; refine (HC.out _).mono ?_; rintro e v14 ⟨rfl, hb14⟩); refine hQ2 _ _ (fun _ => S0.trans (hb14.mono S0.size)) ?_; clear hQ2 Q2
            have S14 := S0.trans (hb14.mono S0.size)
            refine anyG_takes (is := [15, 16]) (vs := [.bool false, .bool false]) (m := 0) (listed2 := #[true, true, true, true, true, true, true, true, true, true, true, true, true, true, true, true, true]) (a2 := ⟨#[_, _, _, _, _, _, _, _, _, _, _, _, _, _, _, _, _, _, _, _, _, _, _, _, _, _, _, _, _, _, _, _, _, _, _, _, _, _, _, _, _, _, _, _, _, _, _, _, _, _, _, _, _], []⟩) (by kernel_rfl) (fun j hj => by simp at hj) (by kernel_rfl) (fun _ _ _ _ _ h => h) (Ys.cons rfl (Or.inl ⟨by rfl, fun W1 hW1 => by go_simp⟩) (Ys.cons rfl (Or.inl ⟨by rfl, fun W1 hW1 => by rfl⟩) (Ys.nil))) (S14) (by rfl) (by rfl) ?_
            refine anyG_done (by kernel_rfl) ?_ _
            have J := Lib.hid (HI.out.call S14)
            have X6 := Lib.hid (J.out.stop HXx.out (.inr ⟨T, y, rfl, hge⟩))
            clear hb14 S14 S0 HC eg dj hC
            go_wp2
            go_roundw
            case rel => exact ⟨i0 + 1, k + 1, by go_num, by have := HK.out; omega, by omega, .inl (by omega), X6.out, J.out.upd⟩
            case measure => first | (simp [intOf]; done) | (simp [intOf]; omega)
        · obtain rfl : j = a := by omega
          have dj : decide ((j : Int) < (j : Int)) = false := by simp
          have J0 := Lib.hid (hin.stop HXx.out (.inl rfl))
          clear hin
          focus (go_upto_region 4 with fail)
          refine wp_region_any (by kernel_rfl) ?_; change wpAny _ _ _ _ _ _ _ (World.drew wr); refine any_of_anyG (late := fun _ => false) (S := fun wS => Below wr.heap.size wr wS) _ _ _ _ ?_
          have S0 := (Below.refl wr.heap.size wr).drew
          refine anyG_takes (is := [0, 1, 2, 3, 4]) (vs := [_, _, .bool false, .bool false, undef]) (m := 12) (listed2 := #[true, true, true, true, true, false, false, false, false, false, false, false, false, false, false, false, false]) (a2 := ⟨#[_, _, _, _, _, _, _, _, _, _, _, _, _, _, _, _, _, _, _, _, _, _, _, _, _, _, _, _, _, _, _, _, _, _, _, _, _, _, _, _, _, _, _, _, _, _, _, _, _, _, _, _, _], []⟩) (by kernel_rfl) (fun j hj => by simp at hj) (by kernel_rfl) (fun _ _ _ _ _ h => h) (Ys.cons rfl (Or.inl ⟨by rfl, fun W1 hW1 => by first | rfl | (go_simp; done) | (go_simp; with_reducible rfl)⟩) (Ys.cons rfl (Or.inl ⟨by rfl, fun W1 hW1 => by first | rfl | (go_simp; done) | (go_simp; with_reducible rfl)⟩) (Ys.cons rfl (Or.inl ⟨by rfl, fun W1 hW1 => by go_simp⟩) (Ys.cons rfl (Or.inl ⟨by rfl, fun W1 hW1 => by rfl⟩) (Ys.cons rfl (Or.inr ⟨by rfl, rfl⟩) (Ys.nil)))))) (S0) (by rfl) (by rfl) ?_
          refine anyG_takes (is := [5, 6, 7, 8, 9]) (vs := [undef, undef, undef, undef, undef]) (m := 7) (listed2 := #[true, true, true, true, true, true, true, true, true, true, false, false, false, false, false, false, false]) (a2 := ⟨#[_, _, _, _, _, _, _, _, _, _, _, _, _, _, _, _, _, _, _, _, _, _, _, _, _, _, _, _, _, _, _, _, _, _, _, _, _, _, _, _, _, _, _, _, _, _, _, _, _, _, _, _, _], []⟩) (by kernel_rfl) (fun j hj => by simp at hj) (by kernel_rfl) (fun _ _ _ _ _ h => h) (Ys.cons rfl (Or.inr ⟨by rfl, rfl⟩) (Ys.cons rfl (Or.inr ⟨by rfl, rfl⟩) (Ys.cons rfl (Or.inr ⟨by rfl, rfl⟩) (Ys.cons rfl (Or.inr ⟨by rfl, rfl⟩) (Ys.cons rfl (Or.inr ⟨by rfl, rfl⟩) (Ys.nil)))))) (S0) (by rfl) (by rfl) ?_
          refine anyG_takes (is := [10, 11, 12, 13, 14]) (vs := [undef, undef, undef, undef, undef]) (m := 2) (listed2 := #[true, true, true, true, true, true, true, true, true, true, true, true, true, true, true, false, false]) (a2 := ⟨#[_, _, _, _, _, _, _, _, _, _, _, _, _, _, _, _, _, _, _, _, _, _, _, _, _, _, _, _, _, _, _, _, _, _, _, _, _, _, _, _, _, _, _, _, _, _, _, _, _, _, _, _, _], []⟩) (by kernel_rfl) (fun j hj => by simp at hj) (by kernel_rfl) (fun _ _ _ _ _ h => h) (Ys.cons rfl (Or.inr ⟨by rfl, rfl⟩) (Ys.cons rfl (Or.inr ⟨by rfl, rfl⟩) (Ys.cons rfl (Or.inr ⟨by rfl, rfl⟩) (Ys.cons rfl (Or.inr ⟨by rfl, rfl⟩) (Ys.cons rfl (Or.inr ⟨by rfl, rfl⟩) (Ys.nil)))))) (S0) (by rfl) (by rfl) ?_
          refine anyG_takes (is := [15, 16]) (vs := [undef, .bool false]) (m := 0) (listed2 := #[true, true, true, true, true, true, true, true, true, true, true, true, true, true, true, true, true]) (a2 := ⟨#[_, _, _, _, _, _, _, _, _, _, _, _, _, _, _, _, _, _, _, _, _, _, _, _, _, _, _, _, _, _, _, _, _, _, _, _, _, _, _, _, _, _, _, _, _, _, _, _, _, _, _, _, _], []⟩) (by kernel_rfl) (fun j hj => by simp at hj) (by kernel_rfl) (fun _ _ _ _ _ h => h) (Ys.cons rfl (Or.inr ⟨by rfl, rfl⟩) (Ys.cons rfl (Or.inl ⟨by rfl, fun W1 hW1 => by rfl⟩) (Ys.nil))) (S0) (by rfl) (by rfl) ?_
          refine anyG_done (by kernel_rfl) ?_ _
          have J := Lib.hid (show Arr wr.drew g (outq P S Q (k + 1)) from J0.out)
          have U := Lib.hid (show Upd (fun k => k = g) w wr.drew from HI.out.upd.drew)
          clear S0
          go_wp2
          go_roundw
          case rel => exact ⟨i0 + 1, k + 1, by go_num, by have := HK.out; omega, by omega, .inl (by omega), J.out, U.out⟩
          case measure => first | (simp [intOf]; done) | (simp [intOf]; omega)
    · have HE := Lib.hid (outq_end P S Q (k := k) (by have := HS.out; omega))
      have J := Lib.hid harr
      have U := Lib.hid hup
      have hltz : (b : Int) ≤ (i0 : Int) := by omega
      clear harr hup hkb hik
      go_wp2
      go_returns
      exact ⟨rfl, HE.out ▸ J.out, U.out⟩
end Go.Proofs.Ytkjmacdekfbfhaa
