/- Package ring at api.Advice: New, Len, At. (fast region) -/
import Derived.Test.YtfeccjjheiillaaRingP
import Derived.Test.YtfeccjjheiillaaRegT
import Derived.Test.YtfeccjjheiillaaRegL
namespace Go.Proofs.Ytfeccjjheiillaa
open Go.RowKit
set_option linter.unusedSimpArgs false
set_option linter.unusedVariables false
set_option maxHeartbeats 4000000
set_option maxRecDepth 100000
abbrev rowA (a : Adv) : Array Value := #[.int .i64 a.tick, .int .i64 a.load, .int .i64 a.want, .int .i64 a.repl, .int .i64 a.why]
abbrev zA : Array Value := #[.int .i64 0, .int .i64 0, .int .i64 0, .int .i64 0, .int .i64 0]
abbrev OwnA (w : World) (base : Nat) (v : Value) (l : List Adv) : Prop := Own w base 66 5 Adv.cells v l
theorem adv_len (x : Adv) : x.cells.length = 5 := rfl
theorem adv_one : ∀ x : Adv, ∀ u ∈ x.cells, u.oneCell' = true := by
  intro x u hu
  simp [Adv.cells] at hu
  rcases hu with rfl | rfl | rfl | rfl | rfl <;> rfl
theorem info_adv : (Try.prog.info? 66).map (fun i => (i.zero, i.size, i.bytes)) = some (some (.agg #[.int .i64 0, .int .i64 0, .int .i64 0, .int .i64 0, .int .i64 0]), 5, 40) := by kernel_rfl
/-- Block g is a ring; its row is v. -/
def RingAt (w : World) (g : Nat) (v : Value) (ph : List Adv) (fr room : Nat) : Prop := Blk w g 163 #[v, .int .i64 fr, .int .i64 room] ∧ OwnA w 0 v ph ∧ v.ownBlock ≠ some g ∧ RI ph fr room
theorem RingAt.upd {S : Nat → Prop} {w w' : World} {g : Nat} {v : Value} {ph : List Adv} {fr room : Nat} (h : RingAt w g v ph fr room) (hu : Upd S w w') (hn : ∀ k, foot g v k → ¬ S k) : RingAt w' g v ph fr room :=
  ⟨h.1.upd hu (hn g (.inl rfl)), h.2.1.upd hu (fun k hk => hn k (.inr hk)), h.2.2⟩
theorem RingAt.call {w w' : World} {g : Nat} {v : Value} {ph : List Adv} {fr room : Nat} (h : RingAt w g v ph fr room) (hb : Below w.heap.size w w') : RingAt w' g v ph fr room := ⟨h.1.call hb, h.2.1.call hb, h.2.2⟩
theorem RingAt.lt {w : World} {g : Nat} {v : Value} {ph : List Adv} {fr room : Nat} (h : RingAt w g v ph fr room) : ∀ k, foot g v k → k < w.heap.size := by
  rintro k (rfl | hk)
  · exact h.1.lt
  · exact (World.ownsRow.lt h.2.1 k hk).2
theorem RingAt.cells {w : World} {g : Nat} {v : Value} {ph : List Adv} {fr room : Nat} (h : RingAt w g v ph fr room) : w.cell? ⟨g, 0, none⟩ = some v ∧ w.cell? ⟨g, 1, none⟩ = some (.int .i64 fr) ∧ w.cell? ⟨g, 2, none⟩ = some (.int .i64 room) := ⟨h.1.cellv rfl, h.1.cellv rfl, h.1.cellv rfl⟩
theorem ring_New (room : Nat) (w : World) (h1 : 1 ≤ room) (h2 : room ≤ 4096) :
    Calls Try.prog 97 #[.int .i64 room] w fun e w' => e = .returned (.pointer (some ⟨w.heap.size, 0, none⟩)) ∧ w' = w.alloc (.cells #[.slice none 0 0, .int .i64 0, .int .i64 room] 163) := by
  have d1 : decide ((room : Int) < 1) = false := by simp; omega
  have d1' : ¬ room < 1 := by omega
  have d2 : decide ((4096 : Int) < (room : Int)) = false := by simp; omega
  go_enter Try.func97, Try.ntmps97
  go_wp2
  go_ret
  exact ⟨rfl, rfl⟩
theorem RingAt.new (w : World) (room : Nat) (h : 1 ≤ room) : RingAt (w.alloc (.cells #[.slice none 0 0, .int .i64 0, .int .i64 room] 163)) w.heap.size (.slice none 0 0) [] 0 room :=
  ⟨Blk.new _ _ _, Own.nil _ _ _ _ _, by simp [Value.ownBlock], by simp [RI]; omega⟩
theorem ring_Len_nil (w : World) : Calls Try.prog 121 #[.pointer none] w fun e w' => e = .returned (.int .i64 0) ∧ w = w' := by
  go_enter Try.func121, Try.ntmps121
  go_wp2
  go_ret
  exact ⟨rfl, rfl⟩
theorem ring_Len (g : Nat) (v : Value) (ph : List Adv) (fr room : Nat) (w : World) (h : RingAt w g v ph fr room) :
    Calls Try.prog 121 #[.pointer (some ⟨g, 0, none⟩)] w fun e w' => e = .returned (.int .i64 ph.length) ∧ w = w' := by
  obtain ⟨A, n, c, rfl, hnl, hsl⟩ := h.2.1.shape adv_len
  subst hnl
  have c3 := h.cells.1
  clear h hsl
  go_enter Try.func121, Try.ntmps121
  go_wp2
  go_ret
  exact ⟨rfl, rfl⟩
theorem ring_At (g : Nat) (v : Value) (ph : List Adv) (fr room i : Nat) (x : Adv) (w : World) (h : RingAt w g v ph fr room) (hroom : room ≤ 1000000) (hx : (ringq ph fr)[i]? = some x) :
    Calls Try.prog 134 #[.pointer (some ⟨g, 0, none⟩), .int .i64 i] w fun e w' => e = .returned (.tuple #[.agg (rowA x), .bool true]) ∧ Below w.heap.size w w' := by
  have hi : i < ph.length := by rw [← ringq_len ph fr room h.2.2.2]; exact (List.getElem?_eq_some_iff.1 hx).1
  obtain ⟨hj, hj2⟩ := ring_at h.2.2.2 hi
  rw [hx] at hj2
  have hfr := h.2.2.2.2.2
  have hpr := h.2.2.2.1
  obtain ⟨A, n, c, rfl, hnl, hsl⟩ := h.2.1.shape adv_len
  obtain ⟨b, off, y, rfl, hy, hb, u0, u1, u2, u3, u4⟩ := AdvsAre.at_ hsl (show (fr + i) % ph.length < n by omega)
  rw [hj2] at hy
  cases hy
  subst hnl
  have E0 := (show Below w.heap.size w ((w.alloc (.cells #[.int .i64 0, .int .i64 0, .int .i64 0, .int .i64 0, .int .i64 0] 66)).alloc (.cells #[.int .i64 0, .int .i64 0, .int .i64 0, .int .i64 0, .int .i64 0] 66)) by go_grown)
  have HS := Lib.hid (h.call E0)
  have HL := Lib.hid (fun W hW => ring_Len g (.slice (some ⟨b, off, none⟩) ph.length c) ph fr room W hW)
  have HR := Lib.hid ((Blk.new w 66 #[.int .i64 0, .int .i64 0, .int .i64 0, .int .i64 0, .int .i64 0]).alloc (.cells #[.int .i64 0, .int .i64 0, .int .i64 0, .int .i64 0, .int .i64 0] 66))
  have HE := Lib.hid E0
  have hmod : ((fr : Int) + (i : Int)).tmod (ph.length : Int) = (((fr + i) % ph.length : Nat) : Int) := by
    rw [← Int.natCast_add, ← Int.ofNat_tmod]
  have HM := Lib.hid hmod
  have HC := Lib.hid (fun W (hW : Below w.heap.size w W) => (⟨(hW.cell (p := ⟨b, off + (fr + i) % ph.length * 5, none⟩) hb).trans u0, (hW.cell (p := ⟨b, off + (fr + i) % ph.length * 5 + 1, none⟩) hb).trans u1, (hW.cell (p := ⟨b, off + (fr + i) % ph.length * 5 + 2, none⟩) hb).trans u2, (hW.cell (p := ⟨b, off + (fr + i) % ph.length * 5 + 3, none⟩) hb).trans u3, (hW.cell (p := ⟨b, off + (fr + i) % ph.length * 5 + 4, none⟩) hb).trans u4⟩ :
    W.cell? ⟨b, off + (fr + i) % ph.length * 5, none⟩ = some (.int .i64 x.tick) ∧ W.cell? ⟨b, off + (fr + i) % ph.length * 5 + 1, none⟩ = some (.int .i64 x.load) ∧ W.cell? ⟨b, off + (fr + i) % ph.length * 5 + 2, none⟩ = some (.int .i64 x.want) ∧ W.cell? ⟨b, off + (fr + i) % ph.length * 5 + 3, none⟩ = some (.int .i64 x.repl) ∧ W.cell? ⟨b, off + (fr + i) % ph.length * 5 + 4, none⟩ = some (.int .i64 x.why)))
  have HWr := Lib.hid (show IntKind.i64.wrap ((fr : Int) + (i : Int)) = (fr : Int) + (i : Int) by rw [IntKind.wrap_i64]; omega)
  have d1 : decide ((i : Int) < 0) = false := by simp
  have d2 : decide ((ph.length : Int) ≤ (i : Int)) = false := by simp; omega
  have hni : ¬ ph.length ≤ i := by omega
  clear h hsl hb u0 u1 u2 u3 u4 hx hj2 E0 hmod
  generalize hJ : (fr + i) % ph.length = J at *
  have HJ := Lib.hid hJ
  clear hJ
  go_enter Try.func134, Try.ntmps134
  go_wp2_with fail
  refine (HL.out _ HS.out).mono ?_
  rintro e w1 ⟨rfl, rfl⟩
  go_upto_region 4 with (fail)
  generalize (w.alloc (.cells #[.int .i64 0, .int .i64 0, .int .i64 0, .int .i64 0, .int .i64 0] 66)).alloc (.cells #[.int .i64 0, .int .i64 0, .int .i64 0, .int .i64 0, .int .i64 0] 66) = w0 at *
  generalize hg0 : w.heap.size = g0 at *
  have HG0 := Lib.hid hg0
  clear hg0
  generalize ph.length = n at *
  refine wp_region_any (by kernel_rfl) ?_; change wpAny _ _ _ _ _ _ _ (World.drew w0); refine any_of_anyG (late := fun j => [18, 19].contains j) (S := fun wS => Below w0.heap.size w0 wS) _ _ _ _ ?_
  have S0 := (Below.refl w0.heap.size w0).drew
  refine anyG_takes (is := [0, 1, 2, 3, 4]) (vs := [_, _, _, .slice (some ⟨b, off, none⟩) n c, _]) (m := 15) (listed2 := #[true, true, true, true, true, false, false, false, false, false, false, false, false, false, false, false, false, false, false, false]) (a2 := ⟨#[_, _, _, _, _, _, _, _, _, _, _, _, _, _, _, _, _, _, _, _, _, _, _, _, _, _, _, _, _, _, _, _, _, _], _⟩) (by kernel_rfl) (fun j hj => by first | (simp at hj; done) | (simp at hj; simp; omega)) (by kernel_rfl) (fun _ _ _ _ _ h => h) (Ys.cons rfl (Or.inl ⟨by rfl, fun W1 hW1 => by first | rfl | (go_simp; done) | (go_simp; with_reducible rfl)⟩) (Ys.cons rfl (Or.inl ⟨by rfl, fun W1 hW1 => by first | rfl | (go_simp; done) | (go_simp; with_reducible rfl)⟩) (Ys.cons rfl (Or.inl ⟨by rfl, fun W1 hW1 => by first | rfl | (go_simp; done) | (go_simp; with_reducible rfl)⟩) (Ys.cons rfl (Or.inl ⟨by rfl, fun W1 hW1 => by have c := (HS.out.call hW1).cells.1; go_simp⟩) (Ys.cons rfl (Or.inl ⟨by rfl, fun W1 hW1 => by first | rfl | (go_simp; done) | (go_simp; with_reducible rfl)⟩) (Ys.nil)))))) (S0) (by rfl) (by rfl) ?_
  refine anyG_takes (is := [5, 6, 7, 8, 9]) (vs := [_, _, .int .i64 fr, _, .int .i64 ((fr : Int) + (i : Int))]) (m := 10) (listed2 := #[true, true, true, true, true, true, true, true, true, true, false, false, false, false, false, false, false, false, false, false]) (a2 := ⟨#[_, _, _, _, _, _, _, _, _, _, _, _, _, _, _, _, _, _, _, _, _, _, _, _, _, _, _, _, _, _, _, _, _, _], _⟩) (by kernel_rfl) (fun j hj => by first | (simp at hj; done) | (simp at hj; simp; omega)) (by kernel_rfl) (fun _ _ _ _ _ h => h) (Ys.cons rfl (Or.inl ⟨by rfl, fun W1 hW1 => by first | rfl | (go_simp; done) | (go_simp; with_reducible rfl)⟩) (Ys.cons rfl (Or.inl ⟨by rfl, fun W1 hW1 => by first | rfl | (go_simp; done) | (go_simp; with_reducible rfl)⟩) (Ys.cons rfl (Or.inl ⟨by rfl, fun W1 hW1 => by have c := (HS.out.call hW1).cells.2.1; go_simp⟩) (Ys.cons rfl (Or.inl ⟨by rfl, fun W1 hW1 => by first | rfl | (go_simp; done) | (go_simp; with_reducible rfl)⟩) (Ys.cons rfl (Or.inl ⟨by rfl, fun W1 hW1 => by have hw := HWr.out; go_simp⟩) (Ys.nil)))))) (S0) (by rfl) (by rfl) ?_
  refine anyG_takes (is := [10, 11, 12, 13, 14]) (vs := [_, _, _, .slice (some ⟨b, off, none⟩) n c, .int .i64 n]) (m := 5) (listed2 := #[true, true, true, true, true, true, true, true, true, true, true, true, true, true, true, false, false, false, false, false]) (a2 := ⟨#[_, _, _, _, _, _, _, _, _, _, _, _, _, _, _, _, _, _, _, _, _, _, _, _, _, _, _, _, _, _, _, _, _, _], _⟩) (by kernel_rfl) (fun j hj => by first | (simp at hj; done) | (simp at hj; simp; omega)) (by kernel_rfl) (fun _ _ _ _ _ h => h) (Ys.cons rfl (Or.inl ⟨by rfl, fun W1 hW1 => by first | rfl | (go_simp; done) | (go_simp; with_reducible rfl)⟩) (Ys.cons rfl (Or.inl ⟨by rfl, fun W1 hW1 => by first | rfl | (go_simp; done) | (go_simp; with_reducible rfl)⟩) (Ys.cons rfl (Or.inl ⟨by rfl, fun W1 hW1 => by first | rfl | (go_simp; done) | (go_simp; with_reducible rfl)⟩) (Ys.cons rfl (Or.inl ⟨by rfl, fun W1 hW1 => by have c := (HS.out.call hW1).cells.1; go_simp⟩) (Ys.cons rfl (Or.inl ⟨by rfl, fun W1 hW1 => by go_simp⟩) (Ys.nil)))))) (S0) (by rfl) (by rfl) ?_
  refine anyG_takes (is := [15, 16, 17]) (vs := [.int .i64 J, .pointer (some ⟨b, off + J * 5, none⟩), .agg (rowA x)]) (m := 2) (listed2 := #[true, true, true, true, true, true, true, true, true, true, true, true, true, true, true, true, true, true, false, false]) (a2 := ⟨#[_, _, _, _, _, _, _, _, _, _, _, _, _, _, _, _, _, _, _, _, _, _, _, _, _, _, _, _, _, _, _, _, _, _], _⟩) (by kernel_rfl) (fun j hj => by first | (simp at hj; done) | (simp at hj; simp; omega)) (by kernel_rfl) (fun _ _ _ _ _ h => h) (Ys.cons rfl (Or.inl ⟨by rfl, fun W1 hW1 => by have h0 : ¬ (n = 0) := (by omega); have hM := HM.out; go_simp⟩) (Ys.cons rfl (Or.inl ⟨by rfl, fun W1 hW1 => by first | (go_simp; done) | (go_simp; intro hh; omega)⟩) (Ys.cons rfl (Or.inl ⟨by rfl, fun W1 hW1 => by obtain ⟨q0, q1, q2, q3, q4⟩ := HC.out _ (HE.out.trans (hW1.mono (Nat.le_of_lt HR.out.lt))); go_simp⟩) (Ys.nil)))) (S0) (by rfl) (by rfl) ?_
  refine anyG_of_any _ _ _ _ (by kernel_rfl) ?_
  refine any_one (k := 18) (by kernel_rfl) rfl (by rfl) (fun Q2 hQ2 => ?_); go_wp2_with (refine wpList_store_row rfl 66 (.tmp 4) (.tmp 33) rfl g0 _ _ _ rfl rfl (HR.out.call S0) (by rfl) (by kernel_rfl) (by simp [Value.oneCell']) ?_; intro w9 hb9 hg9); (try refine hQ2 _ _ ?_); (try clear hQ2 Q2)
  refine wpAny_take (i := 19) (v := _) rfl (by kernel_rfl) (by kernel_rfl) (by kernel_rfl) (fun _ _ _ h => h) (Or.inl ⟨by rfl, fun W => by rfl⟩) ?_
  refine wpAny_done (by kernel_rfl) ?_ _
  have HE9 := Lib.hid ((HE.out.trans (S0.mono (Nat.le_of_lt HR.out.lt))).trans (Only.below hg9 (Nat.le_refl _) (Nat.le_trans (Nat.le_of_lt HR.out.lt) S0.size)))
  have HB9 := Lib.hid hb9
  clear hb9 hg9
  go_wp2
  refine bodyPost_ret (results_row_tmp rfl _ _ g0 _ _ _ rfl HB9.out Try.underlying66 rfl (by kernel_rfl)) rfl ⟨rfl, ?_⟩
  rw [HG0.out]; exact HE9.out
end Go.Proofs.Ytfeccjjheiillaa
