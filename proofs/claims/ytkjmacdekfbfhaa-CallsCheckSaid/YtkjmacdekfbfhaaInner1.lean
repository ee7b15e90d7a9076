/- calls.inner at kind 1: the walk. (fast region) -/
import Derived.Test.YtkjmacdekfbfhaaInner
import Derived.Deep.Cut
namespace Go.Proofs.Ytkjmacdekfbfhaa
open Go.RowKit
set_option linter.unusedSimpArgs false
set_option linter.unusedVariables false
set_option maxHeartbeats 8000000
set_option maxRecDepth 100000
theorem inner_1 (c : Cfg) (k : Int) (s : ByteArray) (t v h : Int) (p : Pol) (n : Nat) (w : World) (hs : s.size ≤ maxLen) (hc : c.fit) (hn : c.str = n) (h64 : n ≤ 64) (hk : k = 1) :
    Calls Try.prog 61 #[.agg c.row, .agg (callRow k s t v h p)] w (OwnedC w (inq (homeq c s) n k)) := by
  have HH := Lib.hid (fun W => calls_Home c s W hs hc)
  have HO := Lib.hid (fun W => calls_one 3 (homeq c s) W)
  have HL := Lib.hid (fun W => calls_Line c W (by omega) (by omega))
  have HQ := Lib.hid (show inq (homeq c s) n k = oneq 3 (homeq c s) ++ [⟨3, c.str + 1⟩, ⟨6, 0⟩, ⟨5, c.str + 1⟩] from by unfold inq; rw [if_pos (by omega), hn])
  have X := Lib.hid (And.intro ((Blk.new w 23 c.row).alloc (.cells (callRow k s t v h p) 27)) (And.intro (Blk.new2 w (.cells c.row 23) 27 (callRow k s t v h p)) (show Below w.heap.size w ((w.alloc (.cells c.row 23)).alloc (.cells (callRow k s t v h p) 27)) by go_grown)))
  generalize homeq c s = H at *
  generalize inq H n k = R at *
  obtain ⟨L, hL⟩ : ∃ L, L = c.str + 1 := ⟨_, rfl⟩
  rw [← hL] at HL HQ
  have d1 : (k == 1) = true := by subst hk; rfl
  clear hc hn h64 hL hk
  go_enter Try.func61, Try.ntmps61
  focus (go_upto_region 4 with (fail))
  obtain ⟨w0, hw0⟩ : ∃ w0, w0 = (w.alloc (.cells c.row 23)).alloc (.cells (callRow k s t v h p) 27) := ⟨_, rfl⟩
  rw [← hw0] at X ⊢
  clear hw0
  refine wp_region_any (by kernel_rfl) ?_; change wpAny _ _ _ _ _ _ _ (World.drew w0); refine any_of_anyG (late := fun _ => false) (S := fun wS => Below w0.heap.size w0 wS) _ _ _ _ ?_
  have S0 := (Below.refl w0.heap.size w0).drew
  refine anyG_takes (is := [0, 1, 2, 5, 8]) (vs := [_, _, .string s, _, _]) (m := 10) (listed2 := #[true, true, true, false, false, true, false, false, true, false, false, false, false, false, false]) (a2 := ⟨#[_, _, _, _, _, _, _, _, _, _, _, _, _, _, _, _, _, _, _, _, _, _, _, _, _, _, _, _, _, _, _, _, _, _, _, _, _, _, _, _, _, _, _, _, _, _, _, _, _, _, _, _, _, _, _, _, _, _, _, _, _, _, _, _, _], _⟩) (by kernel_rfl) (fun j hj => by simp at hj) (by kernel_rfl) (fun _ _ _ _ _ h => h) (Ys.cons rfl (Or.inl ⟨by rfl, fun W1 hW1 => exec_load (ty := 23) (x := .tmp 2) rfl rfl (run_loadAt_blk _ _ _ _ _ _ (X.out.1.call hW1) Try.underlying23 rfl (by first | kernel_rfl | exact info_num _))⟩) (Ys.cons rfl (Or.inl ⟨by rfl, fun W1 hW1 => by first | rfl | (go_simp; done) | (go_simp; with_reducible rfl)⟩) (Ys.cons rfl (Or.inl ⟨by rfl, fun W1 hW1 => by have c := (X.out.2.1.call hW1).cellv (i := 1) (v := .string s) rfl; go_simp⟩) (Ys.cons rfl (Or.inl ⟨by rfl, fun W1 hW1 => exec_load (ty := 23) (x := .tmp 2) rfl rfl (run_loadAt_blk _ _ _ _ _ _ (X.out.1.call hW1) Try.underlying23 rfl (by first | kernel_rfl | exact info_num _))⟩) (Ys.cons rfl (Or.inl ⟨by rfl, fun W1 hW1 => by first | rfl | (go_simp; done) | (go_simp; with_reducible rfl)⟩) (Ys.nil)))))) (S0) (by rfl) (by rfl) ?_
  refine anyG_takes (is := [9]) (vs := [_]) (m := 9) (listed2 := #[true, true, true, false, false, true, false, false, true, true, false, false, false, false, false]) (a2 := ⟨#[_, _, _, _, _, _, _, _, _, _, _, _, _, _, _, _, _, _, _, _, _, _, _, _, _, _, _, _, _, _, _, _, _, _, _, _, _, _, _, _, _, _, _, _, _, _, _, _, _, _, _, _, _, _, _, _, _, _, _, _, _, _, _, _, _], _⟩) (by kernel_rfl) (fun j hj => by simp at hj) (by kernel_rfl) (fun _ _ _ _ _ h => h) (Ys.cons rfl (Or.inl ⟨by rfl, fun W1 hW1 => exec_load (ty := 23) (x := .tmp 2) rfl rfl (run_loadAt_blk _ _ _ _ _ _ (X.out.1.call hW1) Try.underlying23 rfl (by first | kernel_rfl | exact info_num _))⟩) (Ys.nil)) (S0) (by rfl) (by rfl) ?_
  refine anyG_one (k := 3) (by kernel_rfl) rfl (by rfl) (fun Q2 hQ2 => ?_); go_wp2_with (go_at_call 17; refine (HH.out _).mono ?_; rintro e v3 ⟨rfl, hb3⟩); refine hQ2 _ _ (fun _ => S0.trans (hb3.mono S0.size)) ?_; clear hQ2 Q2
  have S3 := S0.trans (hb3.mono S0.size)
  refine anyG_one (k := 4) (by kernel_rfl) rfl (by rfl) (fun Q2 hQ2 => ?_); go_wp2_with (go_at_call 101; refine (HO.out _).mono ?_; rintro e v4 ⟨V, rfl, oV, hb4⟩; obtain ⟨A4, n4, c4, rfl, -, -⟩ := oV.shape cop_len; have oV := oV.mono (S3).size); refine hQ2 _ _ (fun _ => S3.trans (hb4.mono S3.size)) ?_; clear hQ2 Q2
  have S4 := S3.trans (hb4.mono S3.size)
  refine anyG_one (k := 6) (by kernel_rfl) rfl (by rfl) (fun Q2 hQ2 => ?_); go_wp2_with (go_at_call 57; refine (HL.out _).mono ?_; rintro e v6 ⟨rfl, hb6⟩; (try have oV := (by first | exact oV.call hb6 | exact (oV.alloc _).call hb6))); refine hQ2 _ _ (fun _ => S4.trans (hb6.mono S4.size)) ?_; clear hQ2 Q2
  have S6 := S4.trans (hb6.mono S4.size)
  refine anyG_takes (is := [7]) (vs := [_]) (m := 5) (listed2 := #[true, true, true, true, true, true, true, true, true, true, false, false, false, false, false]) (a2 := ⟨#[_, _, _, _, _, _, _, _, _, _, _, _, _, _, _, _, _, _, _, _, _, _, _, _, _, _, _, _, _, _, _, _, _, _, _, _, _, _, _, _, _, _, _, _, _, _, _, _, _, _, _, _, _, _, _, _, _, _, _, _, _, _, _, _, _], _⟩) (by kernel_rfl) (fun j hj => by simp at hj) (by kernel_rfl) (fun _ _ _ _ _ h => h) (Ys.cons rfl (Or.inl ⟨by rfl, fun W1 hW1 => by first | rfl | (go_simp; done) | (go_simp; with_reducible rfl)⟩) (Ys.nil)) (S6) (by rfl) (by rfl) ?_
  refine anyG_one (k := 10) (by kernel_rfl) rfl (by rfl) (fun Q2 hQ2 => ?_); go_wp2_with (go_at_call 57; refine (HL.out _).mono ?_; rintro e v10 ⟨rfl, hb10⟩; (try have oV := (by first | exact oV.call hb10 | exact (oV.alloc _).call hb10))); refine hQ2 _ _ (fun _ => S6.trans (hb10.mono S6.size)) ?_; clear hQ2 Q2
  have S10 := S6.trans (hb10.mono S6.size)
  refine anyG_takes (is := [11]) (vs := [_]) (m := 3) (listed2 := #[true, true, true, true, true, true, true, true, true, true, true, true, false, false, false]) (a2 := ⟨#[_, _, _, _, _, _, _, _, _, _, _, _, _, _, _, _, _, _, _, _, _, _, _, _, _, _, _, _, _, _, _, _, _, _, _, _, _, _, _, _, _, _, _, _, _, _, _, _, _, _, _, _, _, _, _, _, _, _, _, _, _, _, _, _, _], _⟩) (by kernel_rfl) (fun j hj => by simp at hj) (by kernel_rfl) (fun _ _ _ _ _ h => h) (Ys.cons rfl (Or.inl ⟨by rfl, fun W1 hW1 => by first | rfl | (go_simp; done) | (go_simp; with_reducible rfl)⟩) (Ys.nil)) (S10) (by rfl) (by rfl) ?_
  refine anyG_one (k := 12) (by kernel_rfl) rfl (by rfl) (fun Q2 hQ2 => ?_)
  have nG := new_at (S := S10) (#[.int .i64 3, .int .i64 L, .int .i64 6, .int .i64 0, .int .i64 5, .int .i64 L]) 35
  obtain ⟨G, hG, bG, lG⟩ := nG
  go_wp2_with fail
  refine hQ2 _ _ (fun _ => S10.alloc S10.size _) ?_
  clear hQ2 Q2
  (try simp only [hG])
  clear hG
  have SG := S10.alloc S10.size (.cells (#[.int .i64 3, .int .i64 L, .int .i64 6, .int .i64 0, .int .i64 5, .int .i64 L]) 35)
  refine anyG_one (k := 13) (by kernel_rfl) rfl (by rfl) (fun Q2 hQ2 => ?_); go_wp2_with (refine cat_c _ rfl (.tmp 14) (.tmp 22) rfl w0.heap.size (.slice A4 n4 c4) _ rfl (by first | exact oV | exact oV.alloc _) (some ⟨G, 0, none⟩) 3 3 [⟨3, L⟩, ⟨6, 0⟩, ⟨5, L⟩] rfl (slice_blk (l := [(⟨3, L⟩ : COp), ⟨6, 0⟩, ⟨5, L⟩]) cop_len (bG) rfl (by unfold maxLen; simp)) (by simp [oneq]) (SG).size ?_; intro v5 w5 ho5 hb5 hg5; obtain ⟨A5, n5, c5, rfl, -, -⟩ := ho5.shape cop_len); refine hQ2 _ _ (fun _ => SG.trans hb5) ?_; clear hQ2 Q2
  have S5 := SG.trans hb5
  refine anyG_takes (is := [14]) (vs := [.slice A5 n5 c5]) (m := 0) (listed2 := #[true, true, true, true, true, true, true, true, true, true, true, true, true, true, true]) (a2 := ⟨#[_, _, _, _, _, _, _, _, _, _, _, _, _, _, _, _, _, _, _, _, _, _, _, _, _, _, _, _, _, _, _, _, _, _, _, _, _, _, _, _, _, _, _, _, _, _, _, _, _, _, _, _, _, _, _, _, _, _, _, _, _, _, _, _, _], _⟩) (by kernel_rfl) (fun j hj => by simp at hj) (by kernel_rfl) (fun _ _ _ _ _ h => h) (Ys.cons rfl (Or.inl ⟨by rfl, fun W1 hW1 => by rfl⟩) (Ys.nil)) (S5) (by rfl) (by rfl) ?_
  refine anyG_done (by kernel_rfl) ?_ _
  have O5 := Lib.hid ho5
  have E5 := Lib.hid S5
  go_wp2
  go_ret
  exact ⟨_, rfl, by rw [HQ.out]; exact O5.out.mono X.out.2.2.size, X.out.2.2.trans (E5.out.mono X.out.2.2.size)⟩
end Go.Proofs.Ytkjmacdekfbfhaa
