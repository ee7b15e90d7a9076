/- Several texts in one. -/
import Derived.Test.YtjodpffdlggjgaaKLoopKeeps1
import Derived.Test.YtjodpffdlggjgaaRegT
import Derived.Test.YtjodpffdlggjgaaRegL
import Derived.RangeFuncNested
import Derived.RangeFuncBound
import Derived.RangeFuncCalls
import Derived.RangeFuncLeaves
import Derived.Shelf.Abstract
import Derived.Shelf.RegionOpen
import Derived.OwnWalkIn
import Derived.TacticsInMore
import Derived.LoopNIn
import Derived.LoopIn
import Derived.Maps.AppendAt
/- Package ring at api.Advice: New, Len, At. (fast region) -/
namespace Go.Proofs.Ytjodpffdlggjgaa
open Go.RowKit
set_option linter.unusedSimpArgs false
set_option linter.unusedVariables false
set_option maxHeartbeats 4000000
set_option maxRecDepth 100000
abbrev rowA (a : Adv) : Array Value := #[.int .i64 a.tick, .int .i64 a.load, .int .i64 a.want, .int .i64 a.repl, .int .i64 a.why]
abbrev zA : Array Value := #[.int .i64 0, .int .i64 0, .int .i64 0, .int .i64 0, .int .i64 0]
abbrev OwnA (w : World) (base : Nat) (v : Value) (l : List Adv) : Prop := Own w base 26 5 Adv.cells v l
theorem adv_len (x : Adv) : x.cells.length = 5 := rfl
theorem adv_one : ∀ x : Adv, ∀ u ∈ x.cells, u.oneCell' = true := by
  intro x u hu
  simp [Adv.cells] at hu
  rcases hu with rfl | rfl | rfl | rfl | rfl <;> rfl
theorem info_adv : (Try.prog.info? 26).map (fun i => (i.zero, i.size, i.bytes)) = some (some (.agg #[.int .i64 0, .int .i64 0, .int .i64 0, .int .i64 0, .int .i64 0]), 5, 40) := by kernel_rfl
/-- Block g is a ring; its row is v. -/
def RingAt (w : World) (g : Nat) (v : Value) (ph : List Adv) (fr room : Nat) : Prop := Blk w g 154 #[v, .int .i64 fr, .int .i64 room] ∧ OwnA w 0 v ph ∧ v.ownBlock ≠ some g ∧ RI ph fr room
theorem RingAt.upd {S : Nat → Prop} {w w' : World} {g : Nat} {v : Value} {ph : List Adv} {fr room : Nat} (h : RingAt w g v ph fr room) (hu : Upd S w w') (hn : ∀ k, foot g v k → ¬ S k) : RingAt w' g v ph fr room :=
  ⟨h.1.upd hu (hn g (.inl rfl)), h.2.1.upd hu (fun k hk => hn k (.inr hk)), h.2.2⟩
theorem RingAt.call {w w' : World} {g : Nat} {v : Value} {ph : List Adv} {fr room : Nat} (h : RingAt w g v ph fr room) (hb : Below w.heap.size w w') : RingAt w' g v ph fr room := ⟨h.1.call hb, h.2.1.call hb, h.2.2⟩
theorem RingAt.lt {w : World} {g : Nat} {v : Value} {ph : List Adv} {fr room : Nat} (h : RingAt w g v ph fr room) : ∀ k, foot g v k → k < w.heap.size := by
  rintro k (rfl | hk)
  · exact h.1.lt
  · exact (World.ownsRow.lt h.2.1 k hk).2
theorem RingAt.cells {w : World} {g : Nat} {v : Value} {ph : List Adv} {fr room : Nat} (h : RingAt w g v ph fr room) : w.cell? ⟨g, 0, none⟩ = some v ∧ w.cell? ⟨g, 1, none⟩ = some (.int .i64 fr) ∧ w.cell? ⟨g, 2, none⟩ = some (.int .i64 room) := ⟨h.1.cellv rfl, h.1.cellv rfl, h.1.cellv rfl⟩
theorem ring_New (room : Nat) (w : World) (h1 : 1 ≤ room) (h2 : room ≤ 4096) :
    Calls Try.prog 88 #[.int .i64 room] w fun e w' => e = .returned (.pointer (some ⟨w.heap.size, 0, none⟩)) ∧ w' = w.alloc (.cells #[.slice none 0 0, .int .i64 0, .int .i64 room] 154) := by
  have d1 : decide ((room : Int) < 1) = false := by simp; omega
  have d1' : ¬ room < 1 := by omega
  have d2 : decide ((4096 : Int) < (room : Int)) = false := by simp; omega
  go_enter Try.func88, Try.ntmps88
  go_wp2
  go_ret
  exact ⟨rfl, rfl⟩
theorem RingAt.new (w : World) (room : Nat) (h : 1 ≤ room) : RingAt (w.alloc (.cells #[.slice none 0 0, .int .i64 0, .int .i64 room] 154)) w.heap.size (.slice none 0 0) [] 0 room :=
  ⟨Blk.new _ _ _, Own.nil _ _ _ _ _, by simp [Value.ownBlock], by simp [RI]; omega⟩
theorem ring_Len_nil (w : World) : Calls Try.prog 92 #[.pointer none] w fun e w' => e = .returned (.int .i64 0) ∧ w = w' := by
  go_enter Try.func92, Try.ntmps92
  go_wp2
  go_ret
  exact ⟨rfl, rfl⟩
theorem ring_Len (g : Nat) (v : Value) (ph : List Adv) (fr room : Nat) (w : World) (h : RingAt w g v ph fr room) :
    Calls Try.prog 92 #[.pointer (some ⟨g, 0, none⟩)] w fun e w' => e = .returned (.int .i64 ph.length) ∧ w = w' := by
  obtain ⟨A, n, c, rfl, hnl, hsl⟩ := h.2.1.shape adv_len
  subst hnl
  have c3 := h.cells.1
  clear h hsl
  go_enter Try.func92, Try.ntmps92
  go_wp2
  go_ret
  exact ⟨rfl, rfl⟩
theorem ring_At (g : Nat) (v : Value) (ph : List Adv) (fr room i : Nat) (x : Adv) (w : World) (h : RingAt w g v ph fr room) (hroom : room ≤ 1000000) (hx : (ringq ph fr)[i]? = some x) :
    Calls Try.prog 131 #[.pointer (some ⟨g, 0, none⟩), .int .i64 i] w fun e w' => e = .returned (.tuple #[.agg (rowA x), .bool true]) ∧ Below w.heap.size w w' := by
  have hi : i < ph.length := by rw [← ringq_len ph fr room h.2.2.2]; exact (List.getElem?_eq_some_iff.1 hx).1
  obtain ⟨hj, hj2⟩ := ring_at h.2.2.2 hi
  rw [hx] at hj2
  have hfr := h.2.2.2.2.2
  have hpr := h.2.2.2.1
  obtain ⟨A, n, c, rfl, hnl, hsl⟩ := h.2.1.shape adv_len
  obtain ⟨b, off, y, rfl, hy, hb, u0, u1, u2, u3, u4⟩ := AdvsAre.at_ hsl (show (fr + i) % ph.length < n by omega)
  rw [hj2] at hy
  cases hy
  subst hnl
  have E0 := (show Below w.heap.size w ((w.alloc (.cells #[.int .i64 0, .int .i64 0, .int .i64 0, .int .i64 0, .int .i64 0] 26)).alloc (.cells #[.int .i64 0, .int .i64 0, .int .i64 0, .int .i64 0, .int .i64 0] 26)) by go_grown)
  have HS := Lib.hid (h.call E0)
  have HL := Lib.hid (fun W hW => ring_Len g (.slice (some ⟨b, off, none⟩) ph.length c) ph fr room W hW)
  have HR := Lib.hid ((Blk.new w 26 #[.int .i64 0, .int .i64 0, .int .i64 0, .int .i64 0, .int .i64 0]).alloc (.cells #[.int .i64 0, .int .i64 0, .int .i64 0, .int .i64 0, .int .i64 0] 26))
  have HE := Lib.hid E0
  have hmod : ((fr : Int) + (i : Int)).tmod (ph.length : Int) = (((fr + i) % ph.length : Nat) : Int) := by
    rw [← Int.natCast_add, ← Int.ofNat_tmod]
  have HM := Lib.hid hmod
  have HC := Lib.hid (fun W (hW : Below w.heap.size w W) => (⟨(hW.cell (p := ⟨b, off + (fr + i) % ph.length * 5, none⟩) hb).trans u0, (hW.cell (p := ⟨b, off + (fr + i) % ph.length * 5 + 1, none⟩) hb).trans u1, (hW.cell (p := ⟨b, off + (fr + i) % ph.length * 5 + 2, none⟩) hb).trans u2, (hW.cell (p := ⟨b, off + (fr + i) % ph.length * 5 + 3, none⟩) hb).trans u3, (hW.cell (p := ⟨b, off + (fr + i) % ph.length * 5 + 4, none⟩) hb).trans u4⟩ :
    W.cell? ⟨b, off + (fr + i) % ph.length * 5, none⟩ = some (.int .i64 x.tick) ∧ W.cell? ⟨b, off + (fr + i) % ph.length * 5 + 1, none⟩ = some (.int .i64 x.load) ∧ W.cell? ⟨b, off + (fr + i) % ph.length * 5 + 2, none⟩ = some (.int .i64 x.want) ∧ W.cell? ⟨b, off + (fr + i) % ph.length * 5 + 3, none⟩ = some (.int .i64 x.repl) ∧ W.cell? ⟨b, off + (fr + i) % ph.length * 5 + 4, none⟩ = some (.int .i64 x.why)))
  have HWr := Lib.hid (show IntKind.i64.wrap ((fr : Int) + (i : Int)) = (fr : Int) + (i : Int) by rw [IntKind.wrap_i64]; omega)
  have d1 : decide ((i : Int) < 0) = false := by simp
  have d2 : decide ((ph.length : Int) ≤ (i : Int)) = false := by simp; omega
  have hni : ¬ ph.length ≤ i := by omega
  clear h hsl hb u0 u1 u2 u3 u4 hx hj2 E0 hmod
  generalize hJ : (fr + i) % ph.length = J at *
  have HJ := Lib.hid hJ
  clear hJ
  go_enter Try.func131, Try.ntmps131
  go_wp2_with fail
  refine (HL.out _ HS.out).mono ?_
  rintro e w1 ⟨rfl, rfl⟩
  go_upto_region 4 with (fail)
  generalize (w.alloc (.cells #[.int .i64 0, .int .i64 0, .int .i64 0, .int .i64 0, .int .i64 0] 26)).alloc (.cells #[.int .i64 0, .int .i64 0, .int .i64 0, .int .i64 0, .int .i64 0] 26) = w0 at *
  generalize hg0 : w.heap.size = g0 at *
  have HG0 := Lib.hid hg0
  clear hg0
  generalize ph.length = n at *
  refine wp_region_any (by kernel_rfl) ?_; change wpAny _ _ _ _ _ _ _ (World.drew w0); refine any_of_anyG (late := fun j => [18, 19].contains j) (S := fun wS => Below w0.heap.size w0 wS) _ _ _ _ ?_
  have S0 := (Below.refl w0.heap.size w0).drew
  refine anyG_takes (is := [0, 1, 2, 3, 4]) (vs := [_, _, _, .slice (some ⟨b, off, none⟩) n c, _]) (m := 15) (listed2 := #[true, true, true, true, true, false, false, false, false, false, false, false, false, false, false, false, false, false, false, false]) (a2 := ⟨#[_, _, _, _, _, _, _, _, _, _, _, _, _, _, _, _, _, _, _, _, _, _, _, _, _, _, _, _, _, _, _, _, _, _], _⟩) (by kernel_rfl) (fun j hj => by first | (simp at hj; done) | (simp at hj; simp; omega)) (by kernel_rfl) (fun _ _ _ _ _ h => h) (Ys.cons rfl (Or.inl ⟨by rfl, fun W1 hW1 => by first | rfl | (go_simp; done) | (go_simp; with_reducible rfl)⟩) (Ys.cons rfl (Or.inl ⟨by rfl, fun W1 hW1 => by first | rfl | (go_simp; done) | (go_simp; with_reducible rfl)⟩) (Ys.cons rfl (Or.inl ⟨by rfl, fun W1 hW1 => by first | rfl | (go_simp; done) | (go_simp; with_reducible rfl)⟩) (Ys.cons rfl (Or.inl ⟨by rfl, fun W1 hW1 => by have c := (HS.out.call hW1).cells.1; go_simp⟩) (Ys.cons rfl (Or.inl ⟨by rfl, fun W1 hW1 => by first | rfl | (go_simp; done) | (go_simp; with_reducible rfl)⟩) (Ys.nil)))))) (S0) (by rfl) (by rfl) ?_
  refine anyG_takes (is := [5, 6, 7, 8, 9]) (vs := [_, _, .int .i64 fr, _, .int .i64 ((fr : Int) + (i : Int))]) (m := 10) (listed2 := #[true, true, true, true, true, true, true, true, true, true, false, false, false, false, false, false, false, false, false, false]) (a2 := ⟨#[_, _, _, _, _, _, _, _, _, _, _, _, _, _, _, _, _, _, _, _, _, _, _, _, _, _, _, _, _, _, _, _, _, _], _⟩) (by kernel_rfl) (fun j hj => by first | (simp at hj; done) | (simp at hj; simp; omega)) (by kernel_rfl) (fun _ _ _ _ _ h => h) (Ys.cons rfl (Or.inl ⟨by rfl, fun W1 hW1 => by first | rfl | (go_simp; done) | (go_simp; with_reducible rfl)⟩) (Ys.cons rfl (Or.inl ⟨by rfl, fun W1 hW1 => by first | rfl | (go_simp; done) | (go_simp; with_reducible rfl)⟩) (Ys.cons rfl (Or.inl ⟨by rfl, fun W1 hW1 => by have c := (HS.out.call hW1).cells.2.1; go_simp⟩) (Ys.cons rfl (Or.inl ⟨by rfl, fun W1 hW1 => by first | rfl | (go_simp; done) | (go_simp; with_reducible rfl)⟩) (Ys.cons rfl (Or.inl ⟨by rfl, fun W1 hW1 => by have hw := HWr.out; go_simp⟩) (Ys.nil)))))) (S0) (by rfl) (by rfl) ?_
  refine anyG_takes (is := [10, 11, 12, 13, 14]) (vs := [_, _, _, .slice (some ⟨b, off, none⟩) n c, .int .i64 n]) (m := 5) (listed2 := #[true, true, true, true, true, true, true, true, true, true, true, true, true, true, true, false, false, false, false, false]) (a2 := ⟨#[_, _, _, _, _, _, _, _, _, _, _, _, _, _, _, _, _, _, _, _, _, _, _, _, _, _, _, _, _, _, _, _, _, _], _⟩) (by kernel_rfl) (fun j hj => by first | (simp at hj; done) | (simp at hj; simp; omega)) (by kernel_rfl) (fun _ _ _ _ _ h => h) (Ys.cons rfl (Or.inl ⟨by rfl, fun W1 hW1 => by first | rfl | (go_simp; done) | (go_simp; with_reducible rfl)⟩) (Ys.cons rfl (Or.inl ⟨by rfl, fun W1 hW1 => by first | rfl | (go_simp; done) | (go_simp; with_reducible rfl)⟩) (Ys.cons rfl (Or.inl ⟨by rfl, fun W1 hW1 => by first | rfl | (go_simp; done) | (go_simp; with_reducible rfl)⟩) (Ys.cons rfl (Or.inl ⟨by rfl, fun W1 hW1 => by have c := (HS.out.call hW1).cells.1; go_simp⟩) (Ys.cons rfl (Or.inl ⟨by rfl, fun W1 hW1 => by go_simp⟩) (Ys.nil)))))) (S0) (by rfl) (by rfl) ?_
  refine anyG_takes (is := [15, 16, 17]) (vs := [.int .i64 J, .pointer (some ⟨b, off + J * 5, none⟩), .agg (rowA x)]) (m := 2) (listed2 := #[true, true, true, true, true, true, true, true, true, true, true, true, true, true, true, true, true, true, false, false]) (a2 := ⟨#[_, _, _, _, _, _, _, _, _, _, _, _, _, _, _, _, _, _, _, _, _, _, _, _, _, _, _, _, _, _, _, _, _, _], _⟩) (by kernel_rfl) (fun j hj => by first | (simp at hj; done) | (simp at hj; simp; omega)) (by kernel_rfl) (fun _ _ _ _ _ h => h) (Ys.cons rfl (Or.inl ⟨by rfl, fun W1 hW1 => by have h0 : ¬ (n = 0) := (by omega); have hM := HM.out; go_simp⟩) (Ys.cons rfl (Or.inl ⟨by rfl, fun W1 hW1 => by first | (go_simp; done) | (go_simp; intro hh; omega)⟩) (Ys.cons rfl (Or.inl ⟨by rfl, fun W1 hW1 => by obtain ⟨q0, q1, q2, q3, q4⟩ := HC.out _ (HE.out.trans (hW1.mono (Nat.le_of_lt HR.out.lt))); go_simp⟩) (Ys.nil)))) (S0) (by rfl) (by rfl) ?_
  refine anyG_of_any _ _ _ _ (by kernel_rfl) ?_
  refine any_one (k := 18) (by kernel_rfl) rfl (by rfl) (fun Q2 hQ2 => ?_); go_wp2_with (refine wpList_store_row rfl 26 (.tmp 4) (.tmp 33) rfl g0 _ _ _ rfl rfl (HR.out.call S0) (by rfl) (by kernel_rfl) (by simp [Value.oneCell']) ?_; intro w9 hb9 hg9); (try refine hQ2 _ _ ?_); (try clear hQ2 Q2)
  refine wpAny_take (i := 19) (v := _) rfl (by kernel_rfl) (by kernel_rfl) (by kernel_rfl) (fun _ _ _ h => h) (Or.inl ⟨by rfl, fun W => by rfl⟩) ?_
  refine wpAny_done (by kernel_rfl) ?_ _
  have HE9 := Lib.hid ((HE.out.trans (S0.mono (Nat.le_of_lt HR.out.lt))).trans (Only.below hg9 (Nat.le_refl _) (Nat.le_trans (Nat.le_of_lt HR.out.lt) S0.size)))
  have HB9 := Lib.hid hb9
  clear hb9 hg9
  go_wp2
  refine bodyPost_ret (results_row_tmp rfl _ _ g0 _ _ _ rfl HB9.out Try.underlying26 rfl (by kernel_rfl)) rfl ⟨rfl, ?_⟩
  rw [HG0.out]; exact HE9.out
end Go.Proofs.Ytjodpffdlggjgaa
/- Package ring at api.Advice: Push. (fast region) -/
namespace Go.Proofs.Ytjodpffdlggjgaa
open Go.RowKit
set_option linter.unusedSimpArgs false
set_option linter.unusedVariables false
set_option maxHeartbeats 4000000
set_option maxRecDepth 100000
def RingPost (g : Nat) (v : Value) (ph : List Adv) (fr room : Nat) (w : World) (e : Ending) (w' : World) : Prop := ∃ v' y b, e = .returned (.tuple #[.agg y, .bool b]) ∧ RingAt w' g v' ph fr room ∧ Upd (foot g v) w w' ∧ ∀ k, foot g v' k → foot g v k ∨ w.heap.size ≤ k
theorem RingAt.put {w w' : World} {g : Nat} {v v' : Value} {ph ph' : List Adv} {fr room : Nat} (h : RingAt w g v ph fr room) (hu : Upd (fun k => v.ownBlock = some k) w w') (ho : OwnA w' 0 v' ph') (hw : v'.ownBlock = v.ownBlock ∨ ∃ k, v'.ownBlock = some k ∧ w.heap.size ≤ k) (hri : RI ph' fr room) :
    RingAt (w'.setCell ⟨g, 0, none⟩ v') g v' ph' fr room ∧ Upd (foot g v) w (w'.setCell ⟨g, 0, none⟩ v') ∧ (∀ k, foot g v' k → foot g v k ∨ w.heap.size ≤ k) ∧ w'.cell? ⟨g, 0, none⟩ = some v ∧ w'.frozen? ⟨g, 0, none⟩ = false := by
  have hne : v'.ownBlock ≠ some g := by
    rcases hw with e | ⟨k, e, hk⟩
    · rw [e]; exact h.2.2.1
    · rw [e]; intro e2; have := h.1.lt; cases e2; omega
  have hb : Blk w' g 154 #[v, .int .i64 fr, .int .i64 room] := h.1.upd hu (fun e => h.2.2.1 e)
  refine ⟨⟨hb.set_ 0 v', ho.far (fun k hk e => hne (by rw [hk, e])) _, hne, hri⟩, (hu.mono (fun k hk => .inr hk)).setCell (.inl (.inl rfl)) _, ?_, hb.cellv rfl, hb.frozen _⟩
  rintro k (rfl | hk)
  · exact .inl (.inl rfl)
  · rcases hw with e | ⟨j, e, hj⟩
    · exact .inl (.inr (by rw [← e]; exact hk))
    · rw [e] at hk; cases hk; exact .inr hj
/-- The three blocks that Push lays first. -/
abbrev push0 (w : World) (x : Adv) : World := ((w.alloc (.cells (rowA x) 26)).alloc (.cells zA 26)).alloc (.cells zA 26)
theorem push0_facts (w : World) (x : Adv) : Blk (push0 w x) w.heap.size 26 (rowA x) ∧ Blk (push0 w x) (w.heap.size + 1) 26 zA ∧ Blk (push0 w x) (w.heap.size + 2) 26 zA ∧ Below w.heap.size w (push0 w x) ∧ (push0 w x).heap.size = w.heap.size + 3 := by
  refine ⟨((Blk.new w _ _).alloc _).alloc _, (Blk.new2 w _ _ _).alloc _, ?_, by go_grown, by simp⟩
  have h := Blk.new ((w.alloc (.cells (rowA x) 26)).alloc (.cells zA 26)) 26 zA
  simpa using h
theorem ring_Push_nil (x : Adv) (w : World) :
    Calls Try.prog 91 #[.pointer none, .agg (rowA x)] w fun e w' => (e = .returned (.tuple #[.agg zA, .bool false])) ∧ Below w.heap.size w w' := by
  obtain ⟨f1, f2, f3, f4, f5⟩ := push0_facts w x
  have F2 := Lib.hid f2
  have F3 := Lib.hid f3
  have F4 := Lib.hid f4
  have F5 := Lib.hid f5
  clear f1 f2 f3 f4 f5
  go_enter Try.func91, Try.ntmps91
  go_upto_region 3 with (fail)
  go_wp2_with (first | (refine Blk.load rfl 26 (.tmp 6) rfl (w.heap.size + 2) _ _ _ rfl F3.out Try.underlying26 rfl (by kernel_rfl) ?_) | (refine wpList_store_row rfl 26 (.tmp 4) (.tmp 18) rfl (w.heap.size + 1) _ _ _ rfl rfl F2.out (by rfl) (by kernel_rfl) (by simp [Value.oneCell']) ?_; intro w9 hb9 hg9; have HB9 := Lib.hid hb9; have HG9 := Lib.hid hg9; clear hb9 hg9))
  refine bodyPost_ret (results_row_tmp rfl _ _ (w.heap.size + 1) _ _ _ rfl HB9.out Try.underlying26 rfl (by kernel_rfl)) rfl ⟨rfl, F4.out.trans (Only.below HG9.out (by omega) F4.out.size)⟩
theorem push_done {g : Nat} {v v' : Value} {ph' : List Adv} {fr' room : Nat} {w w2 w5 w9 : World} (F4 : Below w.heap.size w w2) (F5 : w2.heap.size = w.heap.size + 3) (HLt : ∀ k, foot g v k → k < w.heap.size) (P1 : RingAt w5 g v' ph' fr' room) (U5 : Upd (foot g v) w2 w5)
    (P3 : ∀ k, foot g v' k → foot g v k ∨ w2.heap.size ≤ k) (HG9 : w5.grownBy w9 (some (w.heap.size + 1))) : RingAt w9 g v' ph' fr' room ∧ Upd (foot g v) w w9 ∧ ∀ k, foot g v' k → foot g v k ∨ w.heap.size ≤ k := by
  have h1 : ∀ k, foot g v' k → k ≠ w.heap.size + 1 := fun k hk e => by
    rcases P3 k hk with h | h
    · have := HLt k h; omega
    · omega
  refine ⟨P1.upd (S := fun k => k = w.heap.size + 1) ((Upd.refl _ w5).grown HG9 (fun k e => by cases e; exact .inl rfl)) (fun k hk => h1 k hk), ?_, fun k hk => (P3 k hk).imp id (fun h => by omega)⟩
  exact ((Upd.of_below F4).trans U5 (fun k hk => .inl hk)).grown HG9 (fun k e => by cases e; exact .inr (by omega))
theorem ring_Push_room (g : Nat) (v : Value) (ph : List Adv) (fr room : Nat) (x : Adv) (w : World) (h : RingAt w g v ph fr room) (hroom : room ≤ 100000) (hl : ph.length < room) :
    Calls Try.prog 91 #[.pointer (some ⟨g, 0, none⟩), .agg (rowA x)] w (RingPost g v (ph ++ [x]) fr room w) := by
  obtain ⟨f1, f2, f3, f4, f5⟩ := push0_facts w x
  have HRI := Lib.hid (ring_room h.2.2.2 hl x).1
  have H0 := Lib.hid (h.call f4)
  have HLt := Lib.hid h.lt
  obtain ⟨A, n, c, rfl, hnl, -⟩ := h.2.1.shape adv_len
  subst hnl
  obtain ⟨c0, c1, c2⟩ := H0.out.cells
  have F1 := Lib.hid f1
  have F2 := Lib.hid f2
  have F3 := Lib.hid f3
  have F4 := Lib.hid f4
  have F5 := Lib.hid f5
  have d1 : ((room : Int) == 0) = false := by simp; omega
  have d2 : decide ((ph.length : Int) < (room : Int)) = true := by simp; omega
  have hlt2 : ph.length < room := hl
  have hroom0 : ¬ room = 0 := by omega
  have hlen : ph.length < 1000000 := by omega
  have HLen := Lib.hid hlen
  clear h f1 f2 f3 f4 f5 hl hlen
  go_enter Try.func91, Try.ntmps91
  go_upto_region 4 with (fail)
  go_quiet (fail)
  go_upto_region 5 with (fail)
  have F1 := Lib.hid (F1.out.drewN nq)
  have F2 := Lib.hid (F2.out.drewN nq)
  have F3 := Lib.hid (F3.out.drewN nq)
  have F4 := Lib.hid (below_drewN F4.out nq)
  have F5 := Lib.hid (show ((push0 w x).drewN nq).heap.size = w.heap.size + 3 from F5.out)
  have H0 := Lib.hid (H0.out.call (below_drewN (Below.refl _ _) nq))
  clear d1 d2 hlt2 c0 c1 c2
  generalize (push0 w x).drewN nq = w2 at *
  refine wp_region_any (by kernel_rfl) ?_; change wpAny _ _ _ _ _ _ _ (World.drew w2); refine any_of_anyG (late := fun j => [10].contains j) (S := fun wS => Upd (fun k => (Value.slice A ph.length c).ownBlock = some k) w2 wS) _ _ _ _ ?_
  have S0 := (Upd.refl (fun k => (Value.slice A ph.length c).ownBlock = some k) w2).drew
  refine anyG_takes (is := [0, 1, 2, 3, 4]) (vs := [_, _, _, _, .slice A ph.length c]) (m := 6) (listed2 := #[true, true, true, true, true, false, false, false, false, false, false]) (a2 := ⟨#[_, _, _, _, _, _, _, _, _, _, _, _, _, _, _, _, _, _, _, _, _, _, _, _, _, _, _, _, _, _, _, _, _, _, _, _, _, _, _, _, _, _, _, _, _, _, _, _, _, _, _, _, _, _, _, _, _, _, _, _, _, _, _, _, _, _, _, _, _, _, _, _, _, _, _], _⟩) (by kernel_rfl) (fun j hj => by first | (simp at hj; done) | (simp at hj; simp; omega)) (by kernel_rfl) (fun _ _ _ _ _ h => h) (Ys.cons rfl (Or.inl ⟨by rfl, fun W1 hW1 => by first | rfl | (go_simp; done) | (go_simp; with_reducible rfl)⟩) (Ys.cons rfl (Or.inl ⟨by rfl, fun W1 hW1 => by first | rfl | (go_simp; done) | (go_simp; with_reducible rfl)⟩) (Ys.cons rfl (Or.inl ⟨by rfl, fun W1 hW1 => by first | rfl | (go_simp; done) | (go_simp; with_reducible rfl)⟩) (Ys.cons rfl (Or.inl ⟨by rfl, fun W1 hW1 => by first | rfl | (go_simp; done) | (go_simp; with_reducible rfl)⟩) (Ys.cons rfl (Or.inl ⟨by rfl, fun W1 hW1 => by have c := (H0.out.1.upd hW1 (fun e => H0.out.2.2.1 e)).cellv (i := 0) (v := .slice A ph.length c) rfl; go_simp⟩) (Ys.nil)))))) (S0) (by rfl) (by rfl) ?_
  refine anyG_takes (is := [5]) (vs := [_]) (m := 5) (listed2 := #[true, true, true, true, true, true, false, false, false, false, false]) (a2 := ⟨#[_, _, _, _, _, _, _, _, _, _, _, _, _, _, _, _, _, _, _, _, _, _, _, _, _, _, _, _, _, _, _, _, _, _, _, _, _, _, _, _, _, _, _, _, _, _, _, _, _, _, _, _, _, _, _, _, _, _, _, _, _, _, _, _, _, _, _, _, _, _, _, _, _, _, _], _⟩) (by kernel_rfl) (fun j hj => by first | (simp at hj; done) | (simp at hj; simp; omega)) (by kernel_rfl) (fun _ _ _ _ _ h => h) (Ys.cons rfl (Or.inl ⟨by rfl, fun W1 hW1 => exec_load (ty := 26) (x := .tmp 3) rfl rfl (run_loadAt_blk _ _ _ _ _ _ (F1.out.upd hW1 (fun e => absurd (HLt.out _ (.inr e)) (by omega))) Try.underlying26 rfl (by first | kernel_rfl | exact info_num _))⟩) (Ys.nil)) (S0) (by rfl) (by rfl) ?_
  refine anyG_one (k := 6) (by kernel_rfl) rfl (by rfl) (fun Q2 hQ2 => ?_)
  have nG := new_atU (S := S0) (#[.int .i64 x.tick, .int .i64 x.load, .int .i64 x.want, .int .i64 x.repl, .int .i64 x.why]) 26
  obtain ⟨G, hG, bG, lG⟩ := nG
  go_wp2_with fail
  refine hQ2 _ _ (fun _ => S0.alloc _) ?_
  clear hQ2 Q2
  (try simp only [hG])
  clear hG
  have SG := S0.alloc (.cells (#[.int .i64 x.tick, .int .i64 x.load, .int .i64 x.want, .int .i64 x.repl, .int .i64 x.why]) 26)
  refine anyG_one (k := 7) (by kernel_rfl) rfl (by rfl) (fun Q2 hQ2 => ?_); go_wp2_with (refine wpList_push2 _ rfl (.tmp 34) (.tmp 36) 24 rfl 0 26 _ 5 40 _ Try.underlying24 info_adv (by rfl) (by decide) (fun _ => rfl) adv_one (.slice A ph.length c) ph rfl (H0.out.2.1.drew_.alloc _) ⟨G, 0, none⟩ 1 x rfl (blk_news (α := Adv) (vs := x.cells) bG rfl) HLen.out (by decide) (Nat.zero_le _) ?_; intro v' w3 ho3 hu3 hw3; obtain ⟨A', n', c', rfl, -, -⟩ := ho3.shape adv_len; obtain ⟨p1, p2, p3, p4, p5⟩ := RingAt.put (H0.out.call ((Below.refl _ _).drew.alloc (Nat.le_refl _) _)) hu3 ho3 (hw3.imp id (fun e => ⟨_, e, Nat.le_refl _⟩)) HRI.out; have P1 := Lib.hid p1; have P2 := Lib.hid p2; have P3 := Lib.hid p3; clear p1 p2 p3); refine hQ2 _ _ (fun _ => SG.trans hu3 (fun k hk => .inl hk)) ?_; clear hQ2 Q2
  have S3 := SG.trans hu3 (fun k hk => .inl hk)
  refine anyG_one (k := 8) (by kernel_rfl) rfl (by rfl) (fun Q2 hQ2 => ?_); go_wp2_with fail; refine hQ2 _ _ (fun _ => S3) ?_; clear hQ2 Q2
  refine anyG_takes (is := [9]) (vs := [_]) (m := 1) (listed2 := #[true, true, true, true, true, true, true, true, true, true, false]) (a2 := ⟨#[_, _, _, _, _, _, _, _, _, _, _, _, _, _, _, _, _, _, _, _, _, _, _, _, _, _, _, _, _, _, _, _, _, _, _, _, _, _, _, _, _, _, _, _, _, _, _, _, _, _, _, _, _, _, _, _, _, _, _, _, _, _, _, _, _, _, _, _, _, _, _, _, _, _, _], _⟩) (by kernel_rfl) (fun j hj => by first | (simp at hj; done) | (simp at hj; simp; omega)) (by kernel_rfl) (fun _ _ _ _ _ h => h) (Ys.cons rfl (Or.inl ⟨by rfl, fun W1 hW1 => by first | rfl | (go_simp; done) | (go_simp; with_reducible rfl)⟩) (Ys.nil)) (S3) (by rfl) (by rfl) ?_
  refine anyG_of_any _ _ _ _ (by kernel_rfl) ?_
  refine any_one (k := 10) (by kernel_rfl) rfl (by rfl) (fun Q2 hQ2 => ?_); go_wp2_with fail; (try refine hQ2 _ _ ?_); (try clear hQ2 Q2)
  refine wpAny_done (by kernel_rfl) ?_ _
  have U5 := Lib.hid ((Upd.of_below (S := foot g (Value.slice A ph.length c)) (show Below w2.heap.size w2 (w2.drew.alloc (.cells (rowA x) 26)) from (Below.refl _ w2).drew.alloc (Nat.le_refl _) _)).trans P2.out (fun k hk => .inl hk))
  have P4 := Lib.hid (fun k hk => (P3.out k hk).imp id (fun h => Nat.le_trans ((Below.refl w2.heap.size w2).drew.alloc (Nat.le_refl _) (.cells (rowA x) 26)).size h))
  have G2 := Lib.hid (F2.out.upd U5.out (fun hf => by have := HLt.out _ hf; omega))
  have G3 := Lib.hid (F3.out.upd U5.out (fun hf => by have := HLt.out _ hf; omega))
  clear P2 P3 hu3 hw3 ho3 p4 p5 SG S3 bG F1 F2 F3
  generalize w3.setCell ⟨g, 0, none⟩ (.slice A' n' c') = w5 at *
  go_wp2_with (first | (refine Blk.load rfl 26 (.tmp 6) rfl (w.heap.size + 2) _ _ _ rfl G3.out Try.underlying26 rfl (by kernel_rfl) ?_) | (refine wpList_store_row rfl 26 (.tmp 4) (.tmp 40) rfl (w.heap.size + 1) _ _ _ rfl rfl G2.out (by rfl) (by kernel_rfl) (by simp [Value.oneCell']) ?_; intro w9 hb9 hg9; have HB9 := Lib.hid hb9; have HG9 := Lib.hid hg9; clear hb9 hg9))
  refine bodyPost_ret (results_row_tmp rfl _ _ (w.heap.size + 1) _ _ _ rfl HB9.out Try.underlying26 rfl (by kernel_rfl)) rfl ⟨_, _, _, rfl, push_done F4.out F5.out HLt.out P1.out U5.out P4.out HG9.out⟩
end Go.Proofs.Ytjodpffdlggjgaa
/- Package ring at api.Advice: Push into a full ring. (fast region) -/
namespace Go.Proofs.Ytjodpffdlggjgaa
open Go.RowKit
set_option linter.unusedSimpArgs false
set_option linter.unusedVariables false
set_option maxHeartbeats 8000000
set_option maxRecDepth 100000
theorem ring_Push_full (g : Nat) (v : Value) (ph : List Adv) (fr room : Nat) (x : Adv) (w : World) (h : RingAt w g v ph fr room) (hroom : room ≤ 100000) (hl : ph.length = room) :
    Calls Try.prog 91 #[.pointer (some ⟨g, 0, none⟩), .agg (rowA x)] w (RingPost g v (ph.set fr x) ((fr + 1) % room) room w) := by
  obtain ⟨f1, f2, f3, f4, f5⟩ := push0_facts w x
  have HRI := Lib.hid (ring_full h.2.2.2 hl x).1
  have HRI0 := Lib.hid h.2.2.2
  have H0 := Lib.hid (h.call f4)
  have HLt := Lib.hid h.lt
  have hfr := h.2.2.2.2.2
  obtain ⟨A, n, c, rfl, hnl, hsl⟩ := h.2.1.shape adv_len
  obtain ⟨b, off, y, rfl, hy, hb, u0, u1, u2, u3, u4⟩ := AdvsAre.at_ hsl (show fr < n by omega)
  have h0 : off = 0 := by
    rcases h.2.1.2 with ⟨e, _⟩ | ⟨b', cap, cur, e, _⟩
    · cases e
    · cases e; rfl
  subst h0
  rw [Nat.zero_add] at u0 u1 u2 u3 u4
  subst hnl
  have HC := Lib.hid (fun W (hW : Below w.heap.size w W) => (⟨(hW.cell (p := ⟨b, fr * 5, none⟩) hb).trans u0, (hW.cell (p := ⟨b, fr * 5 + 1, none⟩) hb).trans u1, (hW.cell (p := ⟨b, fr * 5 + 2, none⟩) hb).trans u2, (hW.cell (p := ⟨b, fr * 5 + 3, none⟩) hb).trans u3, (hW.cell (p := ⟨b, fr * 5 + 4, none⟩) hb).trans u4⟩ :
    W.cell? ⟨b, fr * 5, none⟩ = some (.int .i64 y.tick) ∧ W.cell? ⟨b, fr * 5 + 1, none⟩ = some (.int .i64 y.load) ∧ W.cell? ⟨b, fr * 5 + 2, none⟩ = some (.int .i64 y.want) ∧ W.cell? ⟨b, fr * 5 + 3, none⟩ = some (.int .i64 y.repl) ∧ W.cell? ⟨b, fr * 5 + 4, none⟩ = some (.int .i64 y.why)))
  obtain ⟨c0, c1, c2⟩ := H0.out.cells
  have F1 := Lib.hid f1
  have F2 := Lib.hid f2
  have F3 := Lib.hid f3
  have F4 := Lib.hid f4
  have F5 := Lib.hid f5
  have d1 : ((room : Int) == 0) = false := by simp; omega
  have d2 : decide ((ph.length : Int) < (room : Int)) = false := by simp; omega
  have hlt2 : ¬ ph.length < room := by omega
  have hroom0 : ¬ room = 0 := by omega
  have hfl : fr < ph.length := by omega
  have HFl := Lib.hid hfl
  have hfi : (fr : Int) < (ph.length : Int) := by omega
  have HWr := Lib.hid (show IntKind.i64.wrap ((fr : Int) + 1) = (fr : Int) + 1 by rw [IntKind.wrap_i64]; omega)
  have HM := Lib.hid (show ((fr : Int) + 1).tmod (room : Int) = (((fr + 1) % room : Nat) : Int) by rw [← Int.natCast_one, ← Int.natCast_add, ← Int.ofNat_tmod])
  have HLn := Lib.hid hl
  clear h f1 f2 f3 f4 f5 hl hsl hy hb u0 u1 u2 u3 u4
  generalize (fr + 1) % room = fr2 at *
  go_enter Try.func91, Try.ntmps91
  go_upto_region 4 with (fail)
  go_quiet (fail)
  go_upto_region 7 with (fail)
  have F1 := Lib.hid (F1.out.drewN nq)
  have F2 := Lib.hid (F2.out.drewN nq)
  have F4 := Lib.hid (below_drewN F4.out nq)
  have F5 := Lib.hid (show ((push0 w x).drewN nq).heap.size = w.heap.size + 3 from F5.out)
  have H0 := Lib.hid (H0.out.call (below_drewN (Below.refl _ _) nq))
  clear d1 d2 hlt2 c0 c1 c2 F3
  generalize (push0 w x).drewN nq = w2 at *
  refine wp_region_any (by kernel_rfl) ?_; change wpAny _ _ _ _ _ _ _ (World.drew w2); refine any_of_anyG (late := fun _ => false) (S := fun wS => Below w2.heap.size w2 wS) _ _ _ _ ?_
  have S0 := (Below.refl w2.heap.size w2).drew
  refine anyG_takes (is := [0, 1, 2, 3, 4]) (vs := [_, _, _, .slice (some ⟨b, 0, none⟩) ph.length c, _]) (m := 7) (listed2 := #[true, true, true, true, true, false, false, false, false, false, false, false]) (a2 := ⟨#[_, _, _, _, _, _, _, _, _, _, _, _, _, _, _, _, _, _, _, _, _, _, _, _, _, _, _, _, _, _, _, _, _, _, _, _, _, _, _, _, _, _, _, _, _, _, _, _, _, _, _, _, _, _, _, _, _, _, _, _, _, _, _, _, _, _, _, _, _, _, _, _, _, _, _], _⟩) (by kernel_rfl) (fun j hj => by simp at hj) (by kernel_rfl) (fun _ _ _ _ _ h => h) (Ys.cons rfl (Or.inl ⟨by rfl, fun W1 hW1 => by first | rfl | (go_simp; done) | (go_simp; with_reducible rfl)⟩) (Ys.cons rfl (Or.inl ⟨by rfl, fun W1 hW1 => by first | rfl | (go_simp; done) | (go_simp; with_reducible rfl)⟩) (Ys.cons rfl (Or.inl ⟨by rfl, fun W1 hW1 => by first | rfl | (go_simp; done) | (go_simp; with_reducible rfl)⟩) (Ys.cons rfl (Or.inl ⟨by rfl, fun W1 hW1 => by have c := (H0.out.call hW1).cells.1; go_simp⟩) (Ys.cons rfl (Or.inl ⟨by rfl, fun W1 hW1 => by first | rfl | (go_simp; done) | (go_simp; with_reducible rfl)⟩) (Ys.nil)))))) (S0) (by rfl) (by rfl) ?_
  refine anyG_takes (is := [5, 6, 7, 8, 9]) (vs := [_, _, .int .i64 fr, .pointer (some ⟨b, fr * 5, none⟩), .agg (rowA y)]) (m := 2) (listed2 := #[true, true, true, true, true, true, true, true, true, true, false, false]) (a2 := ⟨#[_, _, _, _, _, _, _, _, _, _, _, _, _, _, _, _, _, _, _, _, _, _, _, _, _, _, _, _, _, _, _, _, _, _, _, _, _, _, _, _, _, _, _, _, _, _, _, _, _, _, _, _, _, _, _, _, _, _, _, _, _, _, _, _, _, _, _, _, _, _, _, _, _, _, _], _⟩) (by kernel_rfl) (fun j hj => by simp at hj) (by kernel_rfl) (fun _ _ _ _ _ h => h) (Ys.cons rfl (Or.inl ⟨by rfl, fun W1 hW1 => by first | rfl | (go_simp; done) | (go_simp; with_reducible rfl)⟩) (Ys.cons rfl (Or.inl ⟨by rfl, fun W1 hW1 => by first | rfl | (go_simp; done) | (go_simp; with_reducible rfl)⟩) (Ys.cons rfl (Or.inl ⟨by rfl, fun W1 hW1 => by have c := (H0.out.call hW1).cells.2.1; go_simp⟩) (Ys.cons rfl (Or.inl ⟨by rfl, fun W1 hW1 => by first | (go_simp; done) | (go_simp; intro hh; omega)⟩) (Ys.cons rfl (Or.inl ⟨by rfl, fun W1 hW1 => by obtain ⟨q0, q1, q2, q3, q4⟩ := HC.out _ (F4.out.trans (hW1.mono F4.out.size)); go_simp⟩) (Ys.nil)))))) (S0) (by rfl) (by rfl) ?_
  refine anyG_one (k := 10) (by kernel_rfl) rfl (by rfl) (fun Q2 hQ2 => ?_)
  have nG := new_at (S := S0) (zA) 26
  obtain ⟨G, hG, bG, lG⟩ := nG
  go_wp2_with fail
  refine hQ2 _ _ (fun _ => S0.alloc S0.size _) ?_
  clear hQ2 Q2
  (try simp only [hG])
  clear hG
  have SG := S0.alloc S0.size (.cells (zA) 26)
  refine anyG_one (k := 11) (by kernel_rfl) rfl (by rfl) (fun Q2 hQ2 => ?_); go_wp2_with (refine wpList_store_row rfl 26 (.tmp 7) _ rfl _ _ _ _ rfl rfl (bG) (by rfl) (by kernel_rfl) (by simp [Value.oneCell']) ?_; intro uG huG hwG); refine hQ2 _ _ (fun _ => SG.trans (Only.below hwG lG SG.size)) ?_; clear hQ2 Q2
  have SsG := SG.trans (Only.below hwG lG SG.size)
  refine anyG_done (by kernel_rfl) ?_ _
  have K1 := Lib.hid (F1.out.call SsG)
  have K2 := Lib.hid (F2.out.call SsG)
  have K4 := Lib.hid (F4.out.trans (SsG.mono F4.out.size))
  have K5 := Lib.hid SsG
  have KG := Lib.hid huG
  have KL := Lib.hid lG
  have K0 := Lib.hid (H0.out.call SsG)
  clear huG hwG SsG bG SG S0 H0 F1 F2 lG
  go_upto_region 8 with (fail)
  refine wp_region_any (by kernel_rfl) ?_; change wpAny _ _ _ _ _ _ _ (World.drew uG); refine any_of_anyG (late := fun j => [10].contains j) (S := fun wS => Below uG.heap.size uG wS) _ _ _ _ ?_
  have S0 := (Below.refl uG.heap.size uG).drew
  refine anyG_takes (is := [0, 1, 2, 3, 4]) (vs := [_, _, _, .slice (some ⟨b, 0, none⟩) ph.length c, _]) (m := 6) (listed2 := #[true, true, true, true, true, false, false, false, false, false, false]) (a2 := ⟨#[_, _, _, _, _, _, _, _, _, _, _, _, _, _, _, _, _, _, _, _, _, _, _, _, _, _, _, _, _, _, _, _, _, _, _, _, _, _, _, _, _, _, _, _, _, _, _, _, _, _, _, _, _, _, _, _, _, _, _, _, _, _, _, _, _, _, _, _, _, _, _, _, _, _, _], _⟩) (by kernel_rfl) (fun j hj => by first | (simp at hj; done) | (simp at hj; simp; omega)) (by kernel_rfl) (fun _ _ _ _ _ h => h) (Ys.cons rfl (Or.inl ⟨by rfl, fun W1 hW1 => by first | rfl | (go_simp; done) | (go_simp; with_reducible rfl)⟩) (Ys.cons rfl (Or.inl ⟨by rfl, fun W1 hW1 => by first | rfl | (go_simp; done) | (go_simp; with_reducible rfl)⟩) (Ys.cons rfl (Or.inl ⟨by rfl, fun W1 hW1 => by first | rfl | (go_simp; done) | (go_simp; with_reducible rfl)⟩) (Ys.cons rfl (Or.inl ⟨by rfl, fun W1 hW1 => by have c := (K0.out.call hW1).cells.1; go_simp⟩) (Ys.cons rfl (Or.inl ⟨by rfl, fun W1 hW1 => by first | rfl | (go_simp; done) | (go_simp; with_reducible rfl)⟩) (Ys.nil)))))) (S0) (by rfl) (by rfl) ?_
  refine anyG_takes (is := [5, 6, 7, 8, 9]) (vs := [_, _, .int .i64 fr, _, .pointer (some ⟨b, fr * 5, none⟩)]) (m := 1) (listed2 := #[true, true, true, true, true, true, true, true, true, true, false]) (a2 := ⟨#[_, _, _, _, _, _, _, _, _, _, _, _, _, _, _, _, _, _, _, _, _, _, _, _, _, _, _, _, _, _, _, _, _, _, _, _, _, _, _, _, _, _, _, _, _, _, _, _, _, _, _, _, _, _, _, _, _, _, _, _, _, _, _, _, _, _, _, _, _, _, _, _, _, _, _], _⟩) (by kernel_rfl) (fun j hj => by first | (simp at hj; done) | (simp at hj; simp; omega)) (by kernel_rfl) (fun _ _ _ _ _ h => h) (Ys.cons rfl (Or.inl ⟨by rfl, fun W1 hW1 => by first | rfl | (go_simp; done) | (go_simp; with_reducible rfl)⟩) (Ys.cons rfl (Or.inl ⟨by rfl, fun W1 hW1 => by first | rfl | (go_simp; done) | (go_simp; with_reducible rfl)⟩) (Ys.cons rfl (Or.inl ⟨by rfl, fun W1 hW1 => by have c := (K0.out.call hW1).cells.2.1; go_simp⟩) (Ys.cons rfl (Or.inl ⟨by rfl, fun W1 hW1 => exec_load (ty := 26) (x := .tmp 3) rfl rfl (run_loadAt_blk _ _ _ _ _ _ (K1.out.call hW1) Try.underlying26 rfl (by first | kernel_rfl | exact info_num _))⟩) (Ys.cons rfl (Or.inl ⟨by rfl, fun W1 hW1 => by first | (go_simp; done) | (go_simp; intro hh; omega)⟩) (Ys.nil)))))) (S0) (by rfl) (by rfl) ?_
  refine anyG_of_any _ _ _ _ (by kernel_rfl) ?_
  refine any_one (k := 10) (by kernel_rfl) rfl (by rfl) (fun Q2 hQ2 => ?_); go_wp2_with (refine wpList_store_mid rfl 26 (.tmp 60) (.tmp 59) rfl b (fr * 5) #[.int .i64 x.tick, .int .i64 x.load, .int .i64 x.want, .int .i64 x.repl, .int .i64 x.why] rfl rfl ((K0.out.call S0).2.1.set adv_len HFl.out x).2.2 (by kernel_rfl) (by simp [Value.oneCell']) ?_); (try refine hQ2 _ _ ?_); (try clear hQ2 Q2)
  refine wpAny_done (by kernel_rfl) ?_ _
  have D1 := Lib.hid (K0.out.call S0)
  have D2 := (D1.out.2.1.set adv_len HFl.out x)
  have hbg : g ≠ b := fun e => D1.out.2.2.1 (by rw [e]; rfl)
  have U8 := Lib.hid (((Upd.of_below (S := foot g (Value.slice (some ⟨b, 0, none⟩) ph.length c)) (K5.out.trans (S0.mono K5.out.size)))).grown D2.2.1 (fun k e => by cases e; exact .inl (.inr rfl)))
  have hbw := HLt.out b (.inr rfl)
  have M0 := Lib.hid (show RingAt (uG.drew.setCells b (fr * 5) [.int .i64 x.tick, .int .i64 x.load, .int .i64 x.want, .int .i64 x.repl, .int .i64 x.why]) g (.slice (some ⟨b, 0, none⟩) ph.length c) (ph.set fr x) fr room from
    ⟨D1.out.1.grown D2.2.1 (fun e => hbg (Option.some.inj e)), D2.1, D1.out.2.2.1, ⟨by rw [List.length_set]; exact HRI0.out.1, fun h => HRI0.out.2.1 (by rwa [List.length_set] at h), HRI0.out.2.2⟩⟩)
  have M2 := Lib.hid ((K2.out.call S0).grown D2.2.1 (fun e => by cases e; omega))
  have MG := Lib.hid ((KG.out.call S0).grown D2.2.1 (fun e => by cases e; have := KL.out; have := F5.out; omega))
  have e8 : uG.drew.setCells b (fr * 5) [.int .i64 x.tick, .int .i64 x.load, .int .i64 x.want, .int .i64 x.repl, .int .i64 x.why] = uG.drew.setCells b (fr * 5) x.cells := rfl
  rw [← e8] at U8 M2 MG
  clear D1 D2 e8 K0 K1 K2 K4 K5 KG
  generalize uG.drew.setCells b (fr * 5) [.int .i64 x.tick, .int .i64 x.load, .int .i64 x.want, .int .i64 x.repl, .int .i64 x.why] = w8 at *
  have q4 := M0.out.cells.2.1
  have q5 := M0.out.1.frozen 1
  go_upto_region 9 with (fail)
  refine wp_region_any (by kernel_rfl) ?_; change wpAny _ _ _ _ _ _ _ (World.drew w8); refine any_of_anyG (late := fun j => [13].contains j) (S := fun wS => Below w8.heap.size w8 wS) _ _ _ _ ?_
  have S0 := (Below.refl w8.heap.size w8).drew
  refine anyG_takes (is := [0, 1, 2, 3, 4]) (vs := [_, _, _, _, .int .i64 fr]) (m := 9) (listed2 := #[true, true, true, true, true, false, false, false, false, false, false, false, false, false]) (a2 := ⟨#[_, _, _, _, _, _, _, _, _, _, _, _, _, _, _, _, _, _, _, _, _, _, _, _, _, _, _, _, _, _, _, _, _, _, _, _, _, _, _, _, _, _, _, _, _, _, _, _, _, _, _, _, _, _, _, _, _, _, _, _, _, _, _, _, _, _, _, _, _, _, _, _, _, _, _], _⟩) (by kernel_rfl) (fun j hj => by first | (simp at hj; done) | (simp at hj; simp; omega)) (by kernel_rfl) (fun _ _ _ _ _ h => h) (Ys.cons rfl (Or.inl ⟨by rfl, fun W1 hW1 => by first | rfl | (go_simp; done) | (go_simp; with_reducible rfl)⟩) (Ys.cons rfl (Or.inl ⟨by rfl, fun W1 hW1 => by first | rfl | (go_simp; done) | (go_simp; with_reducible rfl)⟩) (Ys.cons rfl (Or.inl ⟨by rfl, fun W1 hW1 => by first | rfl | (go_simp; done) | (go_simp; with_reducible rfl)⟩) (Ys.cons rfl (Or.inl ⟨by rfl, fun W1 hW1 => by first | rfl | (go_simp; done) | (go_simp; with_reducible rfl)⟩) (Ys.cons rfl (Or.inl ⟨by rfl, fun W1 hW1 => by have c := (M0.out.call hW1).cells.2.1; go_simp⟩) (Ys.nil)))))) (S0) (by rfl) (by rfl) ?_
  refine anyG_takes (is := [5, 6, 7, 8, 9]) (vs := [.int .i64 ((fr : Int) + 1), _, _, _, .int .i64 room]) (m := 4) (listed2 := #[true, true, true, true, true, true, true, true, true, true, false, false, false, false]) (a2 := ⟨#[_, _, _, _, _, _, _, _, _, _, _, _, _, _, _, _, _, _, _, _, _, _, _, _, _, _, _, _, _, _, _, _, _, _, _, _, _, _, _, _, _, _, _, _, _, _, _, _, _, _, _, _, _, _, _, _, _, _, _, _, _, _, _, _, _, _, _, _, _, _, _, _, _, _, _], _⟩) (by kernel_rfl) (fun j hj => by first | (simp at hj; done) | (simp at hj; simp; omega)) (by kernel_rfl) (fun _ _ _ _ _ h => h) (Ys.cons rfl (Or.inl ⟨by rfl, fun W1 hW1 => by have hw := HWr.out; go_simp⟩) (Ys.cons rfl (Or.inl ⟨by rfl, fun W1 hW1 => by first | rfl | (go_simp; done) | (go_simp; with_reducible rfl)⟩) (Ys.cons rfl (Or.inl ⟨by rfl, fun W1 hW1 => by first | rfl | (go_simp; done) | (go_simp; with_reducible rfl)⟩) (Ys.cons rfl (Or.inl ⟨by rfl, fun W1 hW1 => by first | rfl | (go_simp; done) | (go_simp; with_reducible rfl)⟩) (Ys.cons rfl (Or.inl ⟨by rfl, fun W1 hW1 => by have c := (M0.out.call hW1).cells.2.2; go_simp⟩) (Ys.nil)))))) (S0) (by rfl) (by rfl) ?_
  refine anyG_takes (is := [10]) (vs := [.int .i64 fr2]) (m := 3) (listed2 := #[true, true, true, true, true, true, true, true, true, true, true, false, false, false]) (a2 := ⟨#[_, _, _, _, _, _, _, _, _, _, _, _, _, _, _, _, _, _, _, _, _, _, _, _, _, _, _, _, _, _, _, _, _, _, _, _, _, _, _, _, _, _, _, _, _, _, _, _, _, _, _, _, _, _, _, _, _, _, _, _, _, _, _, _, _, _, _, _, _, _, _, _, _, _, _], _⟩) (by kernel_rfl) (fun j hj => by first | (simp at hj; done) | (simp at hj; simp; omega)) (by kernel_rfl) (fun _ _ _ _ _ h => h) (Ys.cons rfl (Or.inl ⟨by rfl, fun W1 hW1 => by have hM := HM.out; go_simp⟩) (Ys.nil)) (S0) (by rfl) (by rfl) ?_
  refine anyG_one (k := 11) (by kernel_rfl) rfl (by rfl) (fun Q2 hQ2 => ?_); go_wp2_with fail; refine hQ2 _ _ (fun _ => S0) ?_; clear hQ2 Q2
  refine anyG_takes (is := [12]) (vs := [_]) (m := 1) (listed2 := #[true, true, true, true, true, true, true, true, true, true, true, true, true, false]) (a2 := ⟨#[_, _, _, _, _, _, _, _, _, _, _, _, _, _, _, _, _, _, _, _, _, _, _, _, _, _, _, _, _, _, _, _, _, _, _, _, _, _, _, _, _, _, _, _, _, _, _, _, _, _, _, _, _, _, _, _, _, _, _, _, _, _, _, _, _, _, _, _, _, _, _, _, _, _, _], _⟩) (by kernel_rfl) (fun j hj => by first | (simp at hj; done) | (simp at hj; simp; omega)) (by kernel_rfl) (fun _ _ _ _ _ h => h) (Ys.cons rfl (Or.inl ⟨by rfl, fun W1 hW1 => by first | rfl | (go_simp; done) | (go_simp; with_reducible rfl)⟩) (Ys.nil)) (S0) (by rfl) (by rfl) ?_
  refine anyG_of_any _ _ _ _ (by kernel_rfl) ?_
  refine any_one (k := 13) (by kernel_rfl) rfl (by rfl) (fun Q2 hQ2 => ?_); go_wp2_with fail; (try refine hQ2 _ _ ?_); (try clear hQ2 Q2)
  refine wpAny_done (by kernel_rfl) ?_ _
  have N0 := Lib.hid (show RingAt (w8.drew.setCell ⟨g, 1, none⟩ (.int .i64 fr2)) g (.slice (some ⟨b, 0, none⟩) ph.length c) (ph.set fr x) fr2 room from
    ⟨M0.out.1.drew.set_ 1 _, M0.out.2.1.drew_.far (fun k hk e => M0.out.2.2.1 (by rw [hk, e])) _, M0.out.2.2.1, HRI.out⟩)
  have U9 := Lib.hid ((U8.out.drew).setCell (p := ⟨g, 1, none⟩) (.inl (.inl rfl)) (.int .i64 fr2))
  have hgw := HLt.out g (.inl rfl)
  have N2 := Lib.hid (M2.out.drew.far (p := ⟨g, 1, none⟩) (by show w.heap.size + 1 ≠ g; omega) (.int .i64 fr2))
  have NG := Lib.hid (MG.out.drew.far (p := ⟨g, 1, none⟩) (by show G ≠ g; have := KL.out; have := F5.out; omega) (.int .i64 fr2))
  clear M0 U8 M2 MG q4 q5
  have e10 : w8.drew.setCell ⟨g, 1, none⟩ (.int .i64 fr2) = (w8.setCell ⟨g, 1, none⟩ (.int .i64 fr2)).drew := rfl
  rw [e10] at N0 U9 N2 NG
  clear e10
  generalize (w8.setCell ⟨g, 1, none⟩ (.int .i64 fr2)).drew = w10 at *
  go_wp2_with (first | (refine Blk.load rfl 26 (.tmp 7) rfl G _ _ _ rfl NG.out Try.underlying26 rfl (by kernel_rfl) ?_) | (refine wpList_store_row rfl 26 (.tmp 4) (.tmp 74) rfl (w.heap.size + 1) _ _ _ rfl rfl N2.out (by rfl) (by kernel_rfl) (by simp [Value.oneCell']) ?_; intro w9 hb9 hg9; have HB9 := Lib.hid hb9; have HG9 := Lib.hid hg9; clear hb9 hg9))
  refine bodyPost_ret (results_row_tmp rfl _ _ (w.heap.size + 1) _ _ _ rfl HB9.out Try.underlying26 rfl (by kernel_rfl)) rfl ⟨_, _, _, rfl, push_done F4.out F5.out HLt.out N0.out U9.out (fun k hk => .inl hk) HG9.out⟩
end Go.Proofs.Ytjodpffdlggjgaa
/- Package ring at api.Advice: All, List: a loop over an iterator. -/
namespace Go.Proofs.Ytjodpffdlggjgaa
open Go.RowKit Go.Shelf
set_option linter.unusedSimpArgs false
set_option linter.unusedVariables false
set_option maxHeartbeats 4000000
set_option maxRecDepth 100000
attribute [local go_sem] Oper.semAt_some
theorem RingAt.below {B : Nat} {w w' : World} {g : Nat} {v : Value} {ph : List Adv} {fr room : Nat} (h : RingAt w g v ph fr room) (hb : Below B w w') (hf : ∀ k, foot g v k → k < B) : RingAt w' g v ph fr room :=
  ⟨h.1.below hb (hf g (.inl rfl)), h.2.1.below hb (fun k hk => hf k (.inr hk)), h.2.2⟩
theorem grown_of_below {w w' : World} (h : Below w.heap.size w w') : w.grownBy w' none := ⟨h.os, h.tape, h.output, h.size, fun k hk _ => h.block k hk⟩
/-- What a round keeps: what lay below n₀, and the iterator's own box. -/
def KpR (Bn n₀ : Nat) (A B : World) : Prop := Below n₀ A B ∧ B.heap[Bn]? = A.heap[Bn]?
theorem KpR.trans {Bn n₀ : Nat} {A B C : World} (h : KpR Bn n₀ A B) (h' : KpR Bn n₀ B C) : KpR Bn n₀ A C := ⟨h.1.trans h'.1, h'.2.trans h.2⟩
theorem KpR.put {Bn n₀ : Nat} {w : World} (hB : Bn < w.heap.size) (hn : n₀ ≤ w.heap.size) (W : World) (l : Nat) (o o' : Obj) (hl : w.heap.size ≤ l) (h1 : W.heap[l]? = some o) (h2 : o.isCells = false) (h3 : o.isWalk = false) : KpR Bn n₀ W (W.putObj l o') :=
  ⟨belowK_b (w := w) hn W l o o' hl h1 h2 h3, (belowK_b (w := w) (Nat.le_refl _) W l o o' hl h1 h2 h3).block Bn hB⟩
theorem ring_All1 (n l Bn n₀ g : Nat) (v : Value) (ph : List Adv) (fr room : Nat) (J Jx : List Adv → World → Prop) (hn : 1 ≤ n) (hroom : room ≤ 1000000)
    (hY : ∀ pre x W, J pre W → pre.length < ph.length → YieldAt Fence.wide (n - 1) Try.prog l #[.agg (rowA x)] W fun e W' =>
      (e = .returned (.bool true) ∧ J (pre ++ [x]) W' ∧ KpR Bn n₀ W W') ∨ (e = .returned (.bool false) ∧ Jx (pre ++ [x]) W'))
    (W : World) (hJ : AbidesFrom W.heap.size J) (hBn : Boxed W Bn 124 (.pointer (some ⟨g, 0, none⟩))) (hn₀ : n₀ ≤ W.heap.size) (hR : RingAt W g v ph fr room) (hf : ∀ k, foot g v k → k < n₀) (h0 : J [] W) :
    CallsIn Fence.wide n Try.prog 130 #[.func (.yield l) #[] #[], .pointer (some ⟨Bn, 0, none⟩)] W fun e W' => (∃ v, e = .returned v) ∧
      ((∃ ys, ys = ringq ph fr ∧ J ys W') ∨ (∃ pre, pre <+: ringq ph fr ∧ Jx pre W')) := by
  have HY := Lib.hid hY
  have HB := Lib.hid hBn
  have HR := Lib.hid hR
  have HF := Lib.hid hf
  have HJ := Lib.hid hJ
  have hL := ringq_len ph fr room hR.2.2.2
  have HL := Lib.hid hL
  have c0 := hBn.cell
  have hlen : ph.length ≤ 1000000 := Nat.le_trans hR.2.2.2.1 hroom
  clear hY hBn hR hf hJ hL
  refine callsIn_of_wp Try.func130 rfl trivial ?_ rfl
  simp only [Try.ntmps130, List.size_toArray, List.length_cons, List.length_nil, Nat.reduceAdd, Nat.reduceSub, Array.replicate_succ, Array.replicate_zero, List.push_toArray, List.append_toArray, List.nil_append, List.cons_append]
  gi_wp2_with (refine ⟨trivial, ?_⟩; gi_at_call 92; refine (callsIn_wide.2 (ring_Len g v ph fr room _ HR.out)).mono ?_; rintro e w' ⟨rfl, rfl⟩)
  gi_loopw [8] (fun i wr => ∃ k : Nat, k ≤ ph.length ∧ i = .int .i64 k ∧ J ((ringq ph fr).take k) wr ∧ KpR Bn n₀ W wr) (fun i _ => ph.length - (intOf i).toNat)
  case atStart => exact ⟨0, Nat.zero_le _, rfl, h0, Below.refl _ _, rfl⟩
  case round =>
    obtain ⟨k, hk, rfl, hJs, hnx⟩ := hrel
    have HJs := Lib.hid hJs
    have HN := Lib.hid hnx
    clear hJs
    by_cases hlt : k < ph.length
    · obtain ⟨x, hx⟩ : ∃ x, (ringq ph fr)[k]? = some x := ⟨_, List.getElem?_eq_getElem (by rw [HL.out]; exact hlt)⟩
      have HX := Lib.hid hx
      have b1 : Boxed wr Bn 124 (.pointer (some ⟨g, 0, none⟩)) := hnx.2.trans HB.out
      have c1 := b1.cell
      have hBl := b1.lt
      clear b1
      have HA := Lib.hid (ring_At g v ph fr room k x wr (HR.out.below hnx.1 HF.out) hroom hx)
      have hki : (k : Int) < (ph.length : Int) := by omega
      clear hx hnx
      gi_wp2_with (refine ⟨trivial, ?_⟩; gi_at_call 131; refine (callsIn_wide.2 HA.out).mono ?_; rintro e wx ⟨rfl, hbx⟩; have hB2 : Below wr.heap.size wr (wx.alloc (.cells (rowA x) 26)) := hbx.alloc hbx.size _; have hJ2 := HJ.out _ _ _ none HJs.out (grown_of_below hB2) (fun r e => by cases e); obtain ⟨fn, tmps, assign, body, hy, hR⟩ := HY.out _ x _ hJ2 (by rw [List.length_take, HL.out]; omega); simp only [rowA] at hy; have HB2 := Lib.hid hB2; clear hB2 hJ2 hbx)
      refine hR.mono ?_
      have htk : (ringq ph fr).take k ++ [x] = (ringq ph fr).take (k + 1) := by rw [List.take_add_one, HX.out]; rfl
      rintro e W3 (⟨rfl, hJ3, hk3⟩ | ⟨rfl, hJx3⟩)
      · gi_wp2
        go_roundw
        case rel => exact ⟨k + 1, by omega, by simp, by rw [← htk]; exact hJ3, (HN.out.trans ⟨HB2.out.mono (Nat.le_trans hn₀ HN.out.1.size), HB2.out.block Bn hBl⟩).trans hk3⟩
        case measure => simp [intOf]; omega
      · gi_wp2
        refine bodyPost_ret (results_none rfl _ _ _) rfl ?_
        exact ⟨⟨_, rfl⟩, .inr ⟨_, by rw [htk]; exact List.take_prefix _ _, hJx3⟩⟩
    · have hkl : k = ph.length := by omega
      have hJe := HJs.out
      rw [List.take_of_length_le (by rw [HL.out]; omega)] at hJe
      subst hkl
      gi_wp2
      go_end0
      exact ⟨⟨_, rfl⟩, .inl ⟨_, rfl, hJe⟩⟩
theorem ring_All1_nil (n l Bn : Nat) (hn : 1 ≤ n) (J : List Adv → World → Prop) (W : World) (hBn : Boxed W Bn 124 (.pointer none)) (h0 : J [] W) :
    CallsIn Fence.wide n Try.prog 130 #[.func (.yield l) #[] #[], .pointer (some ⟨Bn, 0, none⟩)] W fun e W' => (∃ v, e = .returned v) ∧ J [] W' := by
  have c0 := hBn.cell
  refine callsIn_of_wp Try.func130 rfl trivial ?_ rfl
  simp only [Try.ntmps130, List.size_toArray, List.length_cons, List.length_nil, Nat.reduceAdd, Nat.reduceSub, Array.replicate_succ, Array.replicate_zero, List.push_toArray, List.append_toArray, List.nil_append, List.cons_append]
  gi_wp2_with (refine ⟨trivial, ?_⟩; gi_at_call 92; refine (callsIn_wide.2 (ring_Len_nil _)).mono ?_; rintro e w' ⟨rfl, rfl⟩)
  gi_loopw [8] (fun i wr => i = .int .i64 0 ∧ J [] wr) (fun _ _ => 0)
  case atStart => exact ⟨rfl, h0⟩
  case round =>
    obtain ⟨rfl, hJs⟩ := hrel
    gi_wp2
    go_end0
    exact ⟨⟨_, rfl⟩, hJs⟩
theorem ring_All (n : Nat) (p : Option Addr) (w : World) :
    CallsIn Fence.wide n Try.prog 115 #[.pointer p] w fun e w' => e = .returned (.func (.func 130) #[] #[.pointer (some ⟨w.heap.size, 0, none⟩)]) ∧ w' = w.alloc (.cells #[.pointer p] 124) := by
  refine callsIn_of_wp Try.func115 rfl trivial ?_ rfl
  simp only [Try.ntmps115, List.size_toArray, List.length_cons, List.length_nil, Nat.reduceAdd, Nat.reduceSub, Array.replicate_succ, Array.replicate_zero, List.push_toArray, List.append_toArray, List.nil_append, List.cons_append]
  gi_wp2
  go_ret
  exact ⟨rfl, rfl⟩
/-- A ring, or none. -/
def RingV (w : World) (p : Option Addr) (B : Nat) (xs : List Adv) : Prop := (p = none ∧ xs = []) ∨ ∃ g v ph fr room, p = some ⟨g, 0, none⟩ ∧ RingAt w g v ph fr room ∧ room ≤ 1000000 ∧ (∀ k, foot g v k → k < B) ∧ xs = ringq ph fr
theorem RingV.below {w w' : World} {p : Option Addr} {B : Nat} {xs : List Adv} (h : RingV w p B xs) (hb : Below B w w') : RingV w' p B xs := by
  rcases h with h | ⟨g, v, ph, fr, room, h1, h2, h3, h4, h5⟩
  · exact .inl h
  · exact .inr ⟨g, v, ph, fr, room, h1, h2.below hb h4, h3, h4, h5⟩
theorem RingV.len {w : World} {p : Option Addr} {B : Nat} {xs : List Adv} (h : RingV w p B xs) : xs.length ≤ 1000000 := by
  rcases h with ⟨-, rfl⟩ | ⟨g, v, ph, fr, room, h1, h2, h3, h4, rfl⟩
  · simp
  · rw [ringq_len ph fr room h2.2.2.2]; exact Nat.le_trans h2.2.2.2.1 h3
theorem ring_stops (n : Nat) (hn : 1 ≤ n) (Bn n₀ : Nat) (p : Option Addr) (xs : List Adv) (w : World) (hn₀ : n₀ ≤ w.heap.size) (hc : Boxed w Bn 124 (.pointer p)) (hR : RingV w p n₀ xs) :
    SeqStopsK Fence.wide n Try.prog 130 #[.pointer (some ⟨Bn, 0, none⟩)] (fun x : Adv => #[Value.agg (rowA x)]) (KpR Bn n₀) (fun ys => ys = xs) (fun pre => pre <+: xs) xs.length w := fun l J Jx W hW hJ _ hY h0 => by
  have hc' : Boxed W Bn 124 (.pointer p) := (hW.block Bn hc.lt).trans hc
  rcases hR.below (hW.mono (by omega)) with ⟨rfl, rfl⟩ | ⟨g, v, ph, fr, room, rfl, h2, h3, h4, rfl⟩
  · exact (ring_All1_nil n l Bn hn J W hc' h0).mono fun e W' ⟨he, hj⟩ => ⟨he, .inl ⟨_, rfl, hj⟩⟩
  · exact ring_All1 n l Bn n₀ g v ph fr room J Jx hn h3 (fun pre x W1 hp hlt => hY pre x W1 hp (by rw [ringq_len ph fr room h2.2.2.2]; exact hlt)) W hJ hc' (by have := hW.size; omega) h2 (fun k hk => by have := h4 k hk; omega) h0
theorem ring_List_in (n : Nat) (hn : 3 ≤ n) (p : Option Addr) (xs : List Adv) (w : World) (hR : RingV w p w.heap.size xs) :
    CallsIn Fence.wide n Try.prog 90 #[.pointer p] w fun e W' => ∃ v, e = .returned v ∧ OwnA W' w.heap.size v xs ∧ Below w.heap.size w W' := by
  have h1 : 1 ≤ n := by omega
  have hlen := hR.len
  obtain ⟨i0, hi, hz0, hz1, hz2⟩ := info_parts info_adv
  refine callsIn_of_wp_marks Try.func90 rfl trivial ?_ rfl
  simp only [Try.ntmps90, List.size_toArray, List.length_cons, List.length_nil, Nat.reduceAdd, Nat.reduceSub, Array.replicate_succ, Array.replicate_zero, List.push_toArray, List.append_toArray, List.nil_append, List.cons_append]
  gi_wp2_with (refine ⟨trivial, ?_⟩; gi_at_call 115; refine (ring_All (n - 1) _ _).mono ?_; rintro e w' ⟨rfl, rfl⟩)
  have bO := (Boxed.new w 24 (.slice none 0 0)).alloc (.cells #[.pointer p] 124)
  have bN := Boxed.new (w.alloc (.cells #[.slice none 0 0] 24)) 124 (.pointer p)
  rw [World.size_alloc] at bN
  have hB0 : Below w.heap.size w ((w.alloc (.cells #[.slice none 0 0] 24)).alloc (.cells #[.pointer p] 124)) := ((Below.refl _ w).alloc (Nat.le_refl _) _).alloc (by simp) _
  have hsz : ((w.alloc (.cells #[.slice none 0 0] 24)).alloc (.cells #[.pointer p] 124)).heap.size = w.heap.size + 2 := by simp
  obtain ⟨W0, hW0⟩ : ∃ W0, (w.alloc (.cells #[.slice none 0 0] 24)).alloc (.cells #[.pointer p] 124) = W0 := ⟨_, rfl⟩
  rw [hW0] at bN bO hB0 hsz ⊢
  clear hW0
  refine wpIn_rangeFunc_ownH rfl h1 (gf := 130) (lb := #[.pointer (some ⟨w.heap.size + 1, 0, none⟩)]) rfl trivial (enters_of Try.func130 (by kernel_rfl) rfl)
    (ring_stops (n - 1) (by omega) (w.heap.size + 1) w.heap.size p xs W0 (by omega) bN (hR.below hB0)) KpR.trans (KpR.put (w := W0) (by omega) (by omega)) (Below.refl _ _) (fun _ => rfl)
    (fun pre W => ((∃ v, Boxed W w.heap.size 24 v ∧ W.ownsRow w.heap.size 26 5 v pre.length (pre.flatMap Adv.cells) ∧ True) ∧ Boxed W (w.heap.size + 1) 124 (.pointer p)) ∧ Below w.heap.size w W)
    (fun _ _ _ => False)
    (OwnFrom.and (OwnFrom.and (Own.from (holdsRow_own w.heap.size w.heap.size 24 26 5 (fun pre : List Adv => pre.length) (fun pre : List Adv => pre.flatMap Adv.cells) (fun _ _ => True)) _) (Own.from (boxed_own _ _ _) _)) (ownFrom_below (Nat.le_refl _) (by omega)))
    (fun _ _ _ _ _ hs _ _ => hs)
    ⟨⟨⟨_, bO, World.ownsRow_nil _ _ _ _, trivial⟩, bN⟩, hB0⟩
    (fun x a' W => ∃ Bx, w.heap.size + 1 < Bx ∧ Blk W Bx 26 (rowA x) ∧ a' = { tmps := #[.pointer p, undef, .slice none 0 0, .pointer (some ⟨w.heap.size, 0, none⟩), .pointer (some ⟨Bx, 0, none⟩), .pointer p, .func (.func 130) #[] #[.pointer (some ⟨w.heap.size + 1, 0, none⟩)], .agg (rowA x), undef, undef, undef, undef, undef], defers := [] })
    (fun x a' _ X Y row hs hg hr => by
      obtain ⟨Bx, h1, h2, h3⟩ := hs
      refine ⟨Bx, h1, h2.grown hg (fun e => ?_), h3⟩
      obtain ⟨o, ho, hc⟩ := (hr Bx e.symm).2
      rw [show X.heap[Bx]? = _ from h2] at ho
      cases ho; cases hc)
    ?assign ?body ?done ?stop
  case assign =>
    rintro l pre x W K ⟨⟨⟨v, hv, hrow, -⟩, bN1⟩, hB⟩ hK
    gi_wp2
    exact hK _ _ ((KeepsOthers.alloc _ _).from _) ⟨(Below.refl _ W).alloc hB.size _, Below.heap_alloc W _ _ bN1.lt⟩ ⟨⟨⟨v, hv.alloc _, hrow.alloc _, trivial⟩, bN1.alloc _⟩, hB.alloc hB.size _⟩ ⟨W.heap.size, bN1.lt, Blk.new W _ _, rfl⟩
  case body =>
    rintro l pre x a' W hl ⟨r, hr⟩ ⟨⟨⟨v, hv, hrow, -⟩, bN1⟩, hB⟩ ⟨Bx, hBx, bX, rfl⟩ hlt
    have hc := hv.cell
    have x0 := bX.cellv (i := 0) rfl
    have x1 := bX.cellv (i := 1) rfl
    have x2 := bX.cellv (i := 2) rfl
    have x3 := bX.cellv (i := 3) rfl
    have x4 := bX.cellv (i := 4) rfl
    gi_wp2_with (gi_at_builtin; refine wpListIn_append_own _ rfl _ _ 24 rfl w.heap.size 26 i0 (.agg zA) 5 40 Try.underlying24 hi hz0 hz1 hz2 rfl (by decide) _ _ _ rfl (hrow.alloc _) ⟨W.heap.size, 0, none⟩ 1 1 x.cells rfl rfl (blk_news (α := Adv) (vs := x.cells) (Blk.new _ _ _) rfl) (adv_one x) (by unfold maxLen; omega) (by omega) (by have := hB.size; simp; omega) ?_; intro v' w1 hown' hgrow _; obtain ⟨g', cap', rfl⟩ := ownsRow_succ hown'; obtain ⟨hv1, hv2, hr2, hk2, hb2⟩ := hv.appended (by decide) hrow hB.size (Nat.le_refl _) hown' hgrow; have hn1 : Boxed w1 (w.heap.size + 1) 124 (.pointer p) := (bN1.alloc _).kept hgrow (bN1.not_row (by decide) hrow); have hn2 := hn1.other (B' := w.heap.size) (by omega) (Value.slice (some ⟨g', 0, none⟩) (pre.length + 1) cap'); have hc1 := hv1.cell; have hf1 := hv1.frozen)
    exact ⟨hk2.from _, ⟨hb2, hn2.trans bN1.symm⟩, ⟨⟨⟨_, hv2, by simpa using hr2, trivial⟩, hn2⟩, hB.trans hb2⟩⟩
  case done =>
    rintro D ys W hD rfl ⟨⟨⟨v, hv, hrow, -⟩, bN1⟩, hB⟩ hK
    have hc := hv.cell
    gi_wp2
    refine ⟨by simp, .inl ⟨_, _, rfl, run_takeDeferred hK, ?_⟩⟩
    exact ⟨_, results_tmp rfl _ _ _, v, rfl, ownsRow_putObj hrow _ hK rfl, hB.trans (belowK_b (w := w) (Nat.le_refl _) W D _ _ (by omega) hK rfl rfl)⟩
  case stop =>
    rintro D c pre W _ _ h _
    exact h.elim
theorem ring_List (p : Option Addr) (xs : List Adv) (w : World) (hR : RingV w p w.heap.size xs) :
    Calls Try.prog 90 #[.pointer p] w fun e W' => ∃ v, e = .returned v ∧ OwnA W' w.heap.size v xs ∧ Below w.heap.size w W' :=
  callsIn_wide.1 (ring_List_in 3 (Nat.le_refl _) p xs w hR)
end Go.Proofs.Ytjodpffdlggjgaa
