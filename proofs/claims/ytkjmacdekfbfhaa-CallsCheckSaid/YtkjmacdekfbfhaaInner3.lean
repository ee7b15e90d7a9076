/- calls.inner at kind 3: the walk. (fast region) -/
import Derived.Test.YtkjmacdekfbfhaaInner
import Derived.Deep.Cut
namespace Go.Proofs.Ytkjmacdekfbfhaa
open Go.RowKit
set_option linter.unusedSimpArgs false
set_option linter.unusedVariables false
set_option maxHeartbeats 8000000
set_option maxRecDepth 100000
theorem inner_3 (c : Cfg) (k : Int) (s : ByteArray) (t v h : Int) (p : Pol) (n : Nat) (w : World) (hn : c.str = n) (h64 : n ≤ 64) (H : Int) (hk : k = 3) :
    Calls Try.prog 61 #[.agg c.row, .agg (callRow k s t v h p)] w (OwnedC w (inq H n k)) := by
  have HA := Lib.hid (fun W => calls_all c 2 n W hn h64)
  have HB := Lib.hid (fun W => calls_all c 5 n W hn h64)
  have HC := Lib.hid (fun W => calls_Cuts c W)
  have HO := Lib.hid (fun W => calls_one 3 c.str W)
  have HQ := Lib.hid (show inq H n k = allq n 2 ++ oneq 3 c.str ++ allq n 5 from by unfold inq; rw [if_neg (by omega), if_neg (by omega), if_pos hk, hn])
  have X := Lib.hid (And.intro ((Blk.new w 23 c.row).alloc (.cells (callRow k s t v h p) 27)) (show Below w.heap.size w ((w.alloc (.cells c.row 23)).alloc (.cells (callRow k s t v h p) 27)) by go_grown))
  have HN := Lib.hid (And.intro (allq_len n 2) (And.intro (allq_len n 5) (And.intro h64 (show (oneq 3 c.str).length = 3 from rfl))))
  generalize inq H n k = R at *
  generalize allq n 2 = L3 at *
  generalize allq n 5 = L5 at *
  obtain ⟨CS, hCS⟩ : ∃ CS, CS = c.str := ⟨_, rfl⟩
  rw [← hCS] at HC HO HQ HN
  generalize oneq 3 CS = LO at *
  have d1 : (k == 1) = false := by subst hk; rfl
  have d6 : (k == 6) = false := by subst hk; rfl
  have d2 : (k == 2) = false := by subst hk; rfl
  have d3 : (k == 3) = true := by subst hk; rfl
  clear hn h64 hk hCS
  go_enter Try.func61, Try.ntmps61
  focus (go_upto_region 8 with (fail))
  obtain ⟨w0, hw0⟩ : ∃ w0, w0 = (w.alloc (.cells c.row 23)).alloc (.cells (callRow k s t v h p) 27) := ⟨_, rfl⟩
  rw [← hw0] at X ⊢
  clear hw0
  refine wp_region_any (by kernel_rfl) ?_; change wpAny _ _ _ _ _ _ _ (World.drew w0); refine any_of_anyG (late := fun _ => false) (S := fun wS => Below w0.heap.size w0 wS) _ _ _ _ ?_
  have S0 := (Below.refl w0.heap.size w0).drew
  refine anyG_takes (is := [0, 2, 6]) (vs := [_, _, _]) (m := 7) (listed2 := #[true, false, true, false, false, false, true, false, false, false]) (a2 := ⟨#[_, _, _, _, _, _, _, _, _, _, _, _, _, _, _, _, _, _, _, _, _, _, _, _, _, _, _, _, _, _, _, _, _, _, _, _, _, _, _, _, _, _, _, _, _, _, _, _, _, _, _, _, _, _, _, _, _, _, _, _, _, _, _, _, _], _⟩) (by kernel_rfl) (fun j hj => by simp at hj) (by kernel_rfl) (fun _ _ _ _ _ h => h) (Ys.cons rfl (Or.inl ⟨by rfl, fun W1 hW1 => exec_load (ty := 23) (x := .tmp 2) rfl rfl (run_loadAt_blk _ _ _ _ _ _ (X.out.1.call hW1) Try.underlying23 rfl (by first | kernel_rfl | exact info_num _))⟩) (Ys.cons rfl (Or.inl ⟨by rfl, fun W1 hW1 => exec_load (ty := 23) (x := .tmp 2) rfl rfl (run_loadAt_blk _ _ _ _ _ _ (X.out.1.call hW1) Try.underlying23 rfl (by first | kernel_rfl | exact info_num _))⟩) (Ys.cons rfl (Or.inl ⟨by rfl, fun W1 hW1 => exec_load (ty := 23) (x := .tmp 2) rfl rfl (run_loadAt_blk _ _ _ _ _ _ (X.out.1.call hW1) Try.underlying23 rfl (by first | kernel_rfl | exact info_num _))⟩) (Ys.nil)))) (S0) (by rfl) (by rfl) ?_
  refine anyG_one (k := 1) (by kernel_rfl) rfl (by rfl) (fun Q2 hQ2 => ?_); go_wp2_with (go_at_call 102; refine (HA.out _).mono ?_; rintro e v1 ⟨V, rfl, oA, hb1⟩; obtain ⟨A1, n1, c1, rfl, -, -⟩ := oA.shape cop_len; (try have nAB := own_apart' oB oA); have oA := oA.mono (S0).size; (try have oB := oB.call hb1); (try have oO := oO.call hb1)); refine hQ2 _ _ (fun _ => S0.trans (hb1.mono S0.size)) ?_; clear hQ2 Q2
  have S1 := S0.trans (hb1.mono S0.size)
  refine anyG_one (k := 3) (by kernel_rfl) rfl (by rfl) (fun Q2 hQ2 => ?_); go_wp2_with (go_at_call 58; refine (HC.out _).mono ?_; rintro e v3 ⟨rfl, hb3⟩; (try have oA := oA.call hb3); (try have oB := oB.call hb3)); refine hQ2 _ _ (fun _ => S1.trans (hb3.mono S1.size)) ?_; clear hQ2 Q2
  have S3 := S1.trans (hb3.mono S1.size)
  refine anyG_one (k := 4) (by kernel_rfl) rfl (by rfl) (fun Q2 hQ2 => ?_); go_wp2_with (go_at_call 101; refine (HO.out _).mono ?_; rintro e v4 ⟨VO, rfl, oO, hb4⟩; obtain ⟨A2, n2, c2, rfl, hn2, -⟩ := oO.shape cop_len; have N2 := Lib.hid hn2; clear hn2; (try have oA := oA.call hb4); (try have oB := oB.call hb4)); refine hQ2 _ _ (fun _ => S3.trans (hb4.mono S3.size)) ?_; clear hQ2 Q2
  have S4 := S3.trans (hb4.mono S3.size)
  refine anyG_one (k := 5) (by kernel_rfl) rfl (by rfl) (fun Q2 hQ2 => ?_); go_wp2_with (refine cat_c _ rfl (.tmp 37) (.tmp 40) rfl w0.heap.size (.slice A1 n1 c1) _ rfl oA A2 n2 c2 LO rfl (by obtain ⟨A9, n9, c9, e9, -, h9⟩ := oO.shape cop_len; cases e9; exact h9) (by have := HN.out; have := N2.out; omega) (S4).size ?_; intro v4 w4 ho4 hb4 hg4; obtain ⟨A4, n4, c4, rfl, -, -⟩ := ho4.shape cop_len; (try have oB := own_kept oB hg4 nAB)); refine hQ2 _ _ (fun _ => S4.trans hb4) ?_; clear hQ2 Q2
  have S4 := S4.trans hb4
  refine anyG_one (k := 7) (by kernel_rfl) rfl (by rfl) (fun Q2 hQ2 => ?_); go_wp2_with (go_at_call 102; refine (HB.out _).mono ?_; rintro e v6 ⟨VB, rfl, oB, hb6⟩; obtain ⟨A6, n6, c6, rfl, hn6, -⟩ := oB.shape cop_len; have N6 := Lib.hid hn6; clear hn6; (try have nAB := own_apart oA oB); have oB := oB.mono (S4).size; (try have ho4 := ho4.call hb6); (try have oA := oA.call hb6); (try have oO := oO.call hb6)); refine hQ2 _ _ (fun _ => S4.trans (hb6.mono S4.size)) ?_; clear hQ2 Q2
  have S6 := S4.trans (hb6.mono S4.size)
  refine anyG_one (k := 8) (by kernel_rfl) rfl (by rfl) (fun Q2 hQ2 => ?_); go_wp2_with (refine cat_c _ rfl (.tmp 41) (.tmp 43) rfl w0.heap.size (.slice A4 n4 c4) _ rfl ho4 A6 n6 c6 L5 rfl (by obtain ⟨A9, n9, c9, e9, -, h9⟩ := oB.shape cop_len; cases e9; exact h9) (by have := HN.out; have := N6.out; simp; omega) (S6).size ?_; intro v7 w7 ho7 hb7 hg7; obtain ⟨A7, n7, c7, rfl, -, -⟩ := ho7.shape cop_len); refine hQ2 _ _ (fun _ => S6.trans hb7) ?_; clear hQ2 Q2
  have S7 := S6.trans hb7
  refine anyG_takes (is := [9]) (vs := [.slice A7 n7 c7]) (m := 0) (listed2 := #[true, true, true, true, true, true, true, true, true, true]) (a2 := ⟨#[_, _, _, _, _, _, _, _, _, _, _, _, _, _, _, _, _, _, _, _, _, _, _, _, _, _, _, _, _, _, _, _, _, _, _, _, _, _, _, _, _, _, _, _, _, _, _, _, _, _, _, _, _, _, _, _, _, _, _, _, _, _, _, _, _], _⟩) (by kernel_rfl) (fun j hj => by simp at hj) (by kernel_rfl) (fun _ _ _ _ _ h => h) (Ys.cons rfl (Or.inl ⟨by rfl, fun W1 hW1 => by rfl⟩) (Ys.nil)) (S7) (by rfl) (by rfl) ?_
  refine anyG_done (by kernel_rfl) ?_ _
  have O7 := Lib.hid ho7
  have E7 := Lib.hid S7
  go_wp2
  go_ret
  exact ⟨_, rfl, by rw [HQ.out]; exact O7.out.mono X.out.2.size, X.out.2.trans (E7.out.mono X.out.2.size)⟩
end Go.Proofs.Ytkjmacdekfbfhaa
