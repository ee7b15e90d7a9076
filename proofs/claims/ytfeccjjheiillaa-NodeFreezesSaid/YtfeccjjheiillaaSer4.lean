/- Package series: Put. (fast region) -/
import Derived.Test.YtfeccjjheiillaaSer3
namespace Go.Proofs.Ytfeccjjheiillaa
open Go.RowKit
set_option linter.unusedSimpArgs false
set_option linter.unusedVariables false
set_option maxHeartbeats 4000000
set_option maxRecDepth 100000
theorem take_three {β : Type} {P Q R : List β} {N : Nat} (h : P.length + Q.length ≤ N) : (P ++ (Q ++ R)).take N = P ++ (Q ++ R.take (N - P.length - Q.length)) := by
  rw [List.take_append, List.take_of_length_le (by omega), List.take_append, List.take_of_length_le (by omega)]
theorem Own.set {α : Type} {w : World} {base e size : Nat} {cells : α → List Value} {h n c : Nat} {l : List α} (ho : Own w base e size cells (.slice (some ⟨h, 0, none⟩) n c) l) (hsz : ∀ x, (cells x).length = size) {K : Nat} (hK : K < l.length) (x : α) :
    Own (w.setCells h (K * size) (cells x)) base e size cells (.slice (some ⟨h, 0, none⟩) n c) (l.set K x) ∧ w.grownBy (w.setCells h (K * size) (cells x)) (some h) ∧ w.there h (K * size) size := by
  rcases ho.2 with ⟨he, _⟩ | ⟨b, cap, cur, he, hbg, hg, hnc, hcm, hcs, htake⟩
  · cases he
  · cases he
    have hb : Blk w h e cur := hg
    have h1 : (K + 1) * size ≤ l.length * size := Nat.mul_le_mul_right _ hK
    have h2 : l.length * size ≤ c * size := Nat.mul_le_mul_right _ hnc
    rw [Nat.add_mul, Nat.one_mul] at h1
    have hfit : K * size + (cells x).length ≤ cur.size := by rw [hsz]; omega
    obtain ⟨b1, g1⟩ := Blk.setCells hb hfit
    refine ⟨⟨by simp [flatMap_len hsz], .inr ⟨h, c, _, by simp, hbg, b1, by simpa using hnc, hcm, by rw [spl_size hfit, hcs], ?_⟩⟩, g1, fun j hj => ?_⟩
    · have e1 : (cur.toList.take (K * size)).length = K * size := by rw [List.length_take, Array.length_toList]; omega
      rw [List.length_set, List.set_eq_take_append_cons_drop, if_pos hK]
      unfold spl
      rw [List.toList_toArray, List.flatMap_append, List.flatMap_cons, ← flat_take hsz, ← flat_drop hsz, ← htake, List.take_take, Nat.min_eq_left (by omega)]
      rw [take_three (by rw [e1, hsz]; omega), e1, hsz, List.drop_take]
      rw [show (K + 1) * size = K * size + size by rw [Nat.add_mul, Nat.one_mul], Nat.sub_sub]
    · exact ⟨by rw [hb.cell, Array.getElem?_eq_getElem (by rw [hsz] at hfit; omega)]; rfl, hb.frozen _⟩
theorem Own.drew_ {α : Type} {w : World} {base e size : Nat} {cells : α → List Value} {v : Value} {l : List α} (h : Own w base e size cells v l) : Own w.drew base e size cells v l := h
theorem Own.ne_new {α : Type} {w : World} {base e size : Nat} {cells : α → List Value} {v : Value} {l : List α} (h : Own w base e size cells v l) {G : Nat} (hG : w.heap.size ≤ G) : v.ownBlock ≠ some G := fun e => by
  have := (World.ownsRow.lt h G e).2; omega
theorem series_Put_bad (p : Option Addr) (tick value E : Int) (w : World) (h : E ≠ 0) (he : serErr tick value = E) :
    Calls Try.prog 47 #[.pointer p, .int .i64 tick, .int .i64 value] w fun e w' => e = .returned (.int .i64 E) ∧ w = w' := by
  have HC := Lib.hid (series_Right tick value w)
  rw [he] at HC
  have d0 : (E == 0) = false := by simpa using h
  clear he h
  go_enter Try.func47, Try.ntmps47
  go_wp2_with (go_at_call 82; refine HC.out.mono ?_; rintro e w1 ⟨rfl, rfl⟩)
  go_ret
  exact ⟨rfl, rfl⟩
theorem series_Put_nil (tick value : Int) (w : World) (he : serErr tick value = 0) :
    Calls Try.prog 47 #[.pointer none, .int .i64 tick, .int .i64 value] w fun e w' => e = .returned (.int .i64 5) ∧ w = w' := by
  have HC := Lib.hid (series_Right tick value w)
  rw [he] at HC
  clear he
  go_enter Try.func47, Try.ntmps47
  go_wp2_with (go_at_call 82; refine HC.out.mono ?_; rintro e w1 ⟨rfl, rfl⟩)
  go_ret
  exact ⟨rfl, rfl⟩
theorem series_Put_set (g : Nat) (v : Value) (l : List Smp) (room tick value : Int) (y : Smp) (w : World) (h : SerAt w g v l room) (hs : Srt l) (hn : l.length ≤ 100000) (he : serErr tick value = 0) (hr : 1 ≤ room)
    (hy : l[placeq l tick]? = some y) (hyt : y.tick = tick) :
    Calls Try.prog 47 #[.pointer (some ⟨g, 0, none⟩), .int .i64 tick, .int .i64 value] w (SerPost g v (l.set (placeq l tick) ⟨tick, value⟩) room w (.int .i64 0)) := by
  have HC := Lib.hid (series_Right tick value w)
  rw [he] at HC
  have HS := Lib.hid h
  have HP := Lib.hid (series_place g v l room tick w h hs hn)
  have hK := (List.getElem?_eq_some_iff.1 hy).1
  obtain ⟨A, n, c, rfl, hnl, hsl⟩ := h.2.1.shape smp_len
  obtain ⟨b, off, y', rfl, hy', hb, u0, u1⟩ := SmpsAre.at_ hsl (show placeq l tick < n by omega)
  rw [hy] at hy'
  cases hy'
  have h0 : off = 0 := by
    rcases h.2.1.2 with ⟨e, _⟩ | ⟨b', cap, cur, e, _⟩
    · cases e
    · cases e; rfl
  subst h0
  subst hyt
  subst hnl
  generalize placeq l y.tick = K at *
  have HK := Lib.hid hK
  have d0 : decide ((K : Int) < (l.length : Int)) = true := by simp; omega
  have d1 : (room == 0) = false := by simp; omega
  have hm := h.1.lt
  have q0 := Lib.hid u0
  have q1 := Lib.hid u1
  have hb' := Lib.hid hb
  have hk1 : (K : Int) < (l.length : Int) := by omega
  have HN := Lib.hid hn
  have c3 := h.1.cellv (i := 0) (v := .slice (some ⟨b, 0, none⟩) l.length c) rfl
  have c4 := h.1.cellv (i := 1) (v := .int .i64 room) rfl
  have hnc : l.length ≤ 100000 := hn
  clear h hs hn he hr hy hsl u0 u1 hb hK
  go_enter Try.func47, Try.ntmps47
  go_wp2_with (go_at_call 82; refine HC.out.mono ?_; rintro e w1 ⟨rfl, rfl⟩)
  clear c3 c4
  refine HP.out.mono ?_
  rintro e w1 ⟨rfl, hb1⟩
  have S1 := Lib.hid (HS.out.call hb1)
  have U1 := Lib.hid hb1
  have c3 := ((HS.out.call hb1).1.alloc (.cells #[.int .i64 y.tick, .int .i64 value] 34)).cellv (i := 0) (v := .slice (some ⟨b, 0, none⟩) l.length c) rfl
  have t0 := ((Below.refl _ w1).alloc (Nat.le_refl _) (.cells #[.int .i64 y.tick, .int .i64 value] 34)).cell (p := ⟨b, 0 + K * 2, none⟩) (Nat.lt_of_lt_of_le hb'.out hb1.size) |>.trans ((hb1.cell (p := ⟨b, 0 + K * 2, none⟩) hb'.out).trans q0.out)
  rw [Nat.zero_add] at t0
  clear hb1
  have sz := U1.out.size
  go_wp2
  have X1 := Lib.hid (Blk.new w1 34 #[.int .i64 y.tick, .int .i64 value])
  have S2 := Lib.hid (S1.out.call (w' := w1.alloc (.cells #[.int .i64 y.tick, .int .i64 value] 34)) ((Below.refl _ w1).alloc (Nat.le_refl _) _))
  have U2 := Lib.hid (U1.out.alloc U1.out.size (.cells #[.int .i64 y.tick, .int .i64 value] 34))
  clear S1 U1 sz c3 t0
  generalize w1.alloc (.cells #[.int .i64 y.tick, .int .i64 value] 34) = w2 at *
  generalize w1.heap.size = gx at *
  refine wp_region_any (by kernel_rfl) ?_; change wpAny _ _ _ _ _ _ _ (World.drew w2); refine any_of_anyG (late := fun j => [7].contains j) (S := fun wS => Below w2.heap.size w2 wS) _ _ _ _ ?_
  have S0 := (Below.refl w2.heap.size w2).drew
  refine anyG_takes (is := [0, 1, 2, 3, 4]) (vs := [_, _, _, .slice (some ⟨b, 0, none⟩) l.length c, _]) (m := 3) (listed2 := #[true, true, true, true, true, false, false, false]) (a2 := ⟨#[_, _, _, _, _, _, _, _, _, _, _, _, _, _, _, _, _, _, _, _, _, _, _, _, _, _, _, _, _, _, _, _, _, _, _, _, _, _, _, _, _, _, _, _, _, _, _, _, _, _, _, _, _, _, _, _, _, _, _, _, _, _, _, _, _, _, _, _, _, _, _, _, _, _, _, _, _, _, _, _, _, _, _, _, _, _], _⟩) (by kernel_rfl) (fun j hj => by first | (simp at hj; done) | (simp at hj; simp; omega)) (by kernel_rfl) (fun _ _ _ _ _ h => h) (Ys.cons rfl (Or.inl ⟨by rfl, fun W1 hW1 => by first | rfl | (go_simp; done) | (go_simp; with_reducible rfl)⟩) (Ys.cons rfl (Or.inl ⟨by rfl, fun W1 hW1 => by first | rfl | (go_simp; done) | (go_simp; with_reducible rfl)⟩) (Ys.cons rfl (Or.inl ⟨by rfl, fun W1 hW1 => by first | rfl | (go_simp; done) | (go_simp; with_reducible rfl)⟩) (Ys.cons rfl (Or.inl ⟨by rfl, fun W1 hW1 => by have c := (S2.out.1.call hW1).cellv (i := 0) (v := .slice (some ⟨b, 0, none⟩) l.length c) rfl; go_simp⟩) (Ys.cons rfl (Or.inl ⟨by rfl, fun W1 hW1 => by first | rfl | (go_simp; done) | (go_simp; with_reducible rfl)⟩) (Ys.nil)))))) (S0) (by rfl) (by rfl) ?_
  refine anyG_takes (is := [5, 6]) (vs := [_, .pointer (some ⟨b, K * 2, none⟩)]) (m := 1) (listed2 := #[true, true, true, true, true, true, true, false]) (a2 := ⟨#[_, _, _, _, _, _, _, _, _, _, _, _, _, _, _, _, _, _, _, _, _, _, _, _, _, _, _, _, _, _, _, _, _, _, _, _, _, _, _, _, _, _, _, _, _, _, _, _, _, _, _, _, _, _, _, _, _, _, _, _, _, _, _, _, _, _, _, _, _, _, _, _, _, _, _, _, _, _, _, _, _, _, _, _, _, _], _⟩) (by kernel_rfl) (fun j hj => by first | (simp at hj; done) | (simp at hj; simp; omega)) (by kernel_rfl) (fun _ _ _ _ _ h => h) (Ys.cons rfl (Or.inl ⟨by rfl, fun W1 hW1 => exec_load (ty := 34) (x := .tmp 9) rfl rfl (run_loadAt_blk _ _ _ _ _ _ (X1.out.call hW1) Try.underlying34 rfl (by first | kernel_rfl | exact info_num _))⟩) (Ys.cons rfl (Or.inl ⟨by rfl, fun W1 hW1 => by first | (go_simp; done) | (go_simp; intro hh; omega)⟩) (Ys.nil))) (S0) (by rfl) (by rfl) ?_
  refine anyG_of_any _ _ _ _ (by kernel_rfl) ?_
  refine any_one (k := 7) (by kernel_rfl) rfl (by rfl) (fun Q2 hQ2 => ?_); go_wp2_with (refine wpList_store_mid rfl 34 (.tmp 56) (.tmp 55) rfl b (K * 2) #[.int .i64 y.tick, .int .i64 value] rfl rfl ((S2.out.call S0).2.1.set smp_len HK.out (⟨y.tick, value⟩ : Smp)).2.2 (by kernel_rfl) (by simp [Value.oneCell']) ?_); (try refine hQ2 _ _ ?_); (try clear hQ2 Q2)
  refine wpAny_done (by kernel_rfl) ?_ _
  have D1 := Lib.hid (S2.out.call S0)
  have D2 := Lib.hid (D1.out.2.1.set smp_len HK.out (⟨y.tick, value⟩ : Smp))
  have D3 := Lib.hid (U2.out.trans (S0.mono U2.out.size))
  go_wp2
  go_ret
  exact ⟨_, rfl, ⟨D1.out.1.grown D2.out.2.1 (fun e => D1.out.2.2 e.symm), D2.out.1, D1.out.2.2⟩, (Upd.of_below D3.out).grown D2.out.2.1 (fun k e => by cases e; exact .inl (.inr rfl)), fun k hk => .inl hk⟩
end Go.Proofs.Ytfeccjjheiillaa
