/- Package series: Last. (fast region) -/
import Derived.Test.YtfeccjjheiillaaSer2
namespace Go.Proofs.Ytfeccjjheiillaa
open Go.RowKit
set_option linter.unusedSimpArgs false
set_option linter.unusedVariables false
set_option maxHeartbeats 4000000
set_option maxRecDepth 100000
theorem series_Last_none (g : Nat) (v : Value) (room : Int) (w : World) (h : SerAt w g v [] room) : Calls Try.prog 77 #[.pointer (some ⟨g, 0, none⟩)] w fun e w' => e = .returned (.tuple #[.agg #[.int .i64 0, .int .i64 0], .bool false]) ∧ Below w.heap.size w w' := by
  have HC := Lib.hid (series_Len g v [] room _ (h.call (show Below w.heap.size w (w.alloc (.cells #[.int .i64 0, .int .i64 0] 34)) by go_grown)) (by simp))
  clear h
  go_enter Try.func77, Try.ntmps77
  go_wp2_with fail
  refine HC.out.mono ?_
  rintro e w1 ⟨rfl, rfl⟩
  go_wp2
  refine bodyPost_ret (results_row_tmp rfl _ _ w.heap.size _ _ _ rfl (Blk.new w _ _) Try.underlying34 rfl (by kernel_rfl)) rfl ⟨rfl, by go_grown⟩
theorem series_Last (g : Nat) (v : Value) (l : List Smp) (x : Smp) (room : Int) (w : World) (h : SerAt w g v (l ++ [x]) room) (hn : l.length ≤ 99999) : Calls Try.prog 77 #[.pointer (some ⟨g, 0, none⟩)] w fun e w' => e = .returned (.tuple #[.agg #[.int .i64 x.tick, .int .i64 x.value], .bool true]) ∧ Below w.heap.size w w' := by
  have E0 := (show Below w.heap.size w (w.alloc (.cells #[.int .i64 0, .int .i64 0] 34)) by go_grown)
  have HS := Lib.hid (h.call E0)
  have HC := Lib.hid (series_Len g v (l ++ [x]) room _ (h.call E0) (by simp; omega))
  obtain ⟨A, n, c, rfl, hnl, hsl⟩ := h.2.1.shape smp_len
  rw [List.length_append, List.length_singleton] at hnl
  subst hnl
  obtain ⟨b, off, y, rfl, hy, hb, u0, u1⟩ := SmpsAre.at_ hsl (show l.length < l.length + 1 by omega)
  rw [List.getElem?_append_right (Nat.le_refl _), Nat.sub_self] at hy
  simp at hy
  subst hy
  have k0 := Lib.hid ((E0.cell (p := ⟨b, off + l.length * 2, none⟩) hb).trans u0)
  have k1 := Lib.hid ((E0.cell (p := ⟨b, off + l.length * 2 + 1, none⟩) hb).trans u1)
  have hlt := Lib.hid (show b < (w.alloc (.cells #[.int .i64 0, .int .i64 0] 34)).heap.size from Nat.lt_of_lt_of_le hb E0.size)
  have HB := Lib.hid (Blk.new w 34 #[.int .i64 0, .int .i64 0])
  have HE := Lib.hid E0
  have e1 : ((l.length + 1 : Nat) : Int) - 1 = (l.length : Int) := by omega
  rw [show (l ++ [x]).length = l.length + 1 by simp] at HC
  clear h hsl hb u0 u1 E0
  go_enter Try.func77, Try.ntmps77
  go_wp2_with fail
  refine HC.out.mono ?_
  rintro e w1 ⟨rfl, rfl⟩
  go_upto_region 3 with (fail)
  generalize hm : l.length = m at *
  generalize w.alloc (.cells #[.int .i64 0, .int .i64 0] 34) = w0 at *
  generalize hg0 : w.heap.size = g0 at *
  have HG0 := Lib.hid hg0
  clear hg0
  clear hm
  refine wp_region_any (by kernel_rfl) ?_; change wpAny _ _ _ _ _ _ _ (World.drew w0); refine any_of_anyG (late := fun j => [12, 13].contains j) (S := fun wS => Below w0.heap.size w0 wS) _ _ _ _ ?_
  have S0 := (Below.refl w0.heap.size w0).drew
  refine anyG_takes (is := [0, 1, 2, 3, 4]) (vs := [_, _, _, .slice (some ⟨b, off, none⟩) (m + 1) c, _]) (m := 9) (listed2 := #[true, true, true, true, true, false, false, false, false, false, false, false, false, false]) (a2 := ⟨#[_, _, _, _, _, _, _, _, _, _, _, _, _, _, _, _, _, _, _, _], _⟩) (by kernel_rfl) (fun j hj => by first | (simp at hj; done) | (simp at hj; simp; omega)) (by kernel_rfl) (fun _ _ _ _ _ h => h) (Ys.cons rfl (Or.inl ⟨by rfl, fun W1 hW1 => by first | rfl | (go_simp; done) | (go_simp; with_reducible rfl)⟩) (Ys.cons rfl (Or.inl ⟨by rfl, fun W1 hW1 => by first | rfl | (go_simp; done) | (go_simp; with_reducible rfl)⟩) (Ys.cons rfl (Or.inl ⟨by rfl, fun W1 hW1 => by first | rfl | (go_simp; done) | (go_simp; with_reducible rfl)⟩) (Ys.cons rfl (Or.inl ⟨by rfl, fun W1 hW1 => by have c := (HS.out.1.call hW1).cellv (i := 0) (v := .slice (some ⟨b, off, none⟩) (m + 1) c) rfl; go_simp⟩) (Ys.cons rfl (Or.inl ⟨by rfl, fun W1 hW1 => by first | rfl | (go_simp; done) | (go_simp; with_reducible rfl)⟩) (Ys.nil)))))) (S0) (by rfl) (by rfl) ?_
  refine anyG_takes (is := [5, 6, 7, 8]) (vs := [_, _, .slice (some ⟨b, off, none⟩) (m + 1) c, .int .i64 ((m + 1 : Nat) : Int)]) (m := 5) (listed2 := #[true, true, true, true, true, true, true, true, true, false, false, false, false, false]) (a2 := ⟨#[_, _, _, _, _, _, _, _, _, _, _, _, _, _, _, _, _, _, _, _], _⟩) (by kernel_rfl) (fun j hj => by first | (simp at hj; done) | (simp at hj; simp; omega)) (by kernel_rfl) (fun _ _ _ _ _ h => h) (Ys.cons rfl (Or.inl ⟨by rfl, fun W1 hW1 => by first | rfl | (go_simp; done) | (go_simp; with_reducible rfl)⟩) (Ys.cons rfl (Or.inl ⟨by rfl, fun W1 hW1 => by first | rfl | (go_simp; done) | (go_simp; with_reducible rfl)⟩) (Ys.cons rfl (Or.inl ⟨by rfl, fun W1 hW1 => by have c := (HS.out.1.call hW1).cellv (i := 0) (v := .slice (some ⟨b, off, none⟩) (m + 1) c) rfl; go_simp⟩) (Ys.cons rfl (Or.inl ⟨by rfl, fun W1 hW1 => by go_simp⟩) (Ys.nil))))) (S0) (by rfl) (by rfl) ?_
  refine anyG_one (k := 9) (by kernel_rfl) rfl (by rfl) (fun Q2 hQ2 => ?_); go_wp2_with fail; refine hQ2 _ _ (fun _ => S0) ?_; clear hQ2 Q2
  refine anyG_takes (is := [10, 11]) (vs := [.pointer (some ⟨b, off + m * 2, none⟩), .agg #[.int .i64 x.tick, .int .i64 x.value]]) (m := 2) (listed2 := #[true, true, true, true, true, true, true, true, true, true, true, true, false, false]) (a2 := ⟨#[_, _, _, _, _, _, _, _, _, _, _, _, _, _, _, _, _, _, _, _], _⟩) (by kernel_rfl) (fun j hj => by first | (simp at hj; done) | (simp at hj; simp; omega)) (by kernel_rfl) (fun _ _ _ _ _ h => h) (Ys.cons rfl (Or.inl ⟨by rfl, fun W1 hW1 => by first | (go_simp; done) | (go_simp; intro hh; omega)⟩) (Ys.cons rfl (Or.inl ⟨by rfl, fun W1 hW1 => by have q0 := (hW1.cell (p := ⟨b, off + m * 2, none⟩) hlt.out).trans k0.out; have q1 := (hW1.cell (p := ⟨b, off + m * 2 + 1, none⟩) hlt.out).trans k1.out; go_simp⟩) (Ys.nil))) (S0) (by rfl) (by rfl) ?_
  refine anyG_of_any _ _ _ _ (by kernel_rfl) ?_
  refine any_one (k := 12) (by kernel_rfl) rfl (by rfl) (fun Q2 hQ2 => ?_); go_wp2_with (refine wpList_store_row rfl 34 (.tmp 2) (.tmp 19) rfl g0 _ _ _ rfl rfl (HB.out.call S0) (by rfl) (by kernel_rfl) (by simp [Value.oneCell']) ?_; intro w9 hb9 hg9); (try refine hQ2 _ _ ?_); (try clear hQ2 Q2)
  refine wpAny_take (i := 13) (v := _) rfl (by kernel_rfl) (by kernel_rfl) (by kernel_rfl) (fun _ _ _ h => h) (Or.inl ⟨by rfl, fun W => by rfl⟩) ?_
  refine wpAny_done (by kernel_rfl) ?_ _
  have HE9 := Lib.hid ((HE.out.trans (S0.mono (Nat.le_of_lt HB.out.lt))).trans (Only.below hg9 (Nat.le_refl _) (Nat.le_trans (Nat.le_of_lt HB.out.lt) S0.size)))
  have HB9 := Lib.hid hb9
  clear hb9 hg9
  go_wp2
  refine bodyPost_ret (results_row_tmp rfl _ _ g0 _ _ _ rfl HB9.out Try.underlying34 rfl (by kernel_rfl)) rfl ⟨rfl, ?_⟩
  rw [HG0.out]; exact HE9.out
end Go.Proofs.Ytfeccjjheiillaa
