/- Package ring at api.Advice: Push. (fast region) -/
import Derived.Test.YtfeccjjheiillaaRing
namespace Go.Proofs.Ytfeccjjheiillaa
open Go.RowKit
set_option linter.unusedSimpArgs false
set_option linter.unusedVariables false
set_option maxHeartbeats 4000000
set_option maxRecDepth 100000
def RingPost (g : Nat) (v : Value) (ph : List Adv) (fr room : Nat) (w : World) (e : Ending) (w' : World) : Prop := ∃ v' y b, e = .returned (.tuple #[.agg y, .bool b]) ∧ RingAt w' g v' ph fr room ∧ Upd (foot g v) w w' ∧ ∀ k, foot g v' k → foot g v k ∨ w.heap.size ≤ k
theorem RingAt.put {w w' : World} {g : Nat} {v v' : Value} {ph ph' : List Adv} {fr room : Nat} (h : RingAt w g v ph fr room) (hu : Upd (fun k => v.ownBlock = some k) w w') (ho : OwnA w' 0 v' ph') (hw : v'.ownBlock = v.ownBlock ∨ ∃ k, v'.ownBlock = some k ∧ w.heap.size ≤ k) (hri : RI ph' fr room) :
    RingAt (w'.setCell ⟨g, 0, none⟩ v') g v' ph' fr room ∧ Upd (foot g v) w (w'.setCell ⟨g, 0, none⟩ v') ∧ (∀ k, foot g v' k → foot g v k ∨ w.heap.size ≤ k) ∧ w'.cell? ⟨g, 0, none⟩ = some v ∧ w'.frozen? ⟨g, 0, none⟩ = false := by
  have hne : v'.ownBlock ≠ some g := by
    rcases hw with e | ⟨k, e, hk⟩
    · rw [e]; exact h.2.2.1
    · rw [e]; intro e2; have := h.1.lt; cases e2; omega
  have hb : Blk w' g 163 #[v, .int .i64 fr, .int .i64 room] := h.1.upd hu (fun e => h.2.2.1 e)
  refine ⟨⟨hb.set_ 0 v', ho.far (fun k hk e => hne (by rw [hk, e])) _, hne, hri⟩, (hu.mono (fun k hk => .inr hk)).setCell (.inl (.inl rfl)) _, ?_, hb.cellv rfl, hb.frozen _⟩
  rintro k (rfl | hk)
  · exact .inl (.inl rfl)
  · rcases hw with e | ⟨j, e, hj⟩
    · exact .inl (.inr (by rw [← e]; exact hk))
    · rw [e] at hk; cases hk; exact .inr hj
/-- The three blocks that Push lays first. -/
abbrev push0 (w : World) (x : Adv) : World := ((w.alloc (.cells (rowA x) 66)).alloc (.cells zA 66)).alloc (.cells zA 66)
theorem push0_facts (w : World) (x : Adv) : Blk (push0 w x) w.heap.size 66 (rowA x) ∧ Blk (push0 w x) (w.heap.size + 1) 66 zA ∧ Blk (push0 w x) (w.heap.size + 2) 66 zA ∧ Below w.heap.size w (push0 w x) ∧ (push0 w x).heap.size = w.heap.size + 3 := by
  refine ⟨((Blk.new w _ _).alloc _).alloc _, (Blk.new2 w _ _ _).alloc _, ?_, by go_grown, by simp⟩
  have h := Blk.new ((w.alloc (.cells (rowA x) 66)).alloc (.cells zA 66)) 66 zA
  simpa using h
theorem ring_Push_nil (x : Adv) (w : World) :
    Calls Try.prog 120 #[.pointer none, .agg (rowA x)] w fun e w' => (e = .returned (.tuple #[.agg zA, .bool false])) ∧ Below w.heap.size w w' := by
  obtain ⟨f1, f2, f3, f4, f5⟩ := push0_facts w x
  have F2 := Lib.hid f2
  have F3 := Lib.hid f3
  have F4 := Lib.hid f4
  have F5 := Lib.hid f5
  clear f1 f2 f3 f4 f5
  go_enter Try.func120, Try.ntmps120
  go_upto_region 3 with (fail)
  go_wp2_with (first | (refine Blk.load rfl 66 (.tmp 6) rfl (w.heap.size + 2) _ _ _ rfl F3.out Try.underlying66 rfl (by kernel_rfl) ?_) | (refine wpList_store_row rfl 66 (.tmp 4) (.tmp 18) rfl (w.heap.size + 1) _ _ _ rfl rfl F2.out (by rfl) (by kernel_rfl) (by simp [Value.oneCell']) ?_; intro w9 hb9 hg9; have HB9 := Lib.hid hb9; have HG9 := Lib.hid hg9; clear hb9 hg9))
  refine bodyPost_ret (results_row_tmp rfl _ _ (w.heap.size + 1) _ _ _ rfl HB9.out Try.underlying66 rfl (by kernel_rfl)) rfl ⟨rfl, F4.out.trans (Only.below HG9.out (by omega) F4.out.size)⟩
theorem push_done {g : Nat} {v v' : Value} {ph' : List Adv} {fr' room : Nat} {w w2 w5 w9 : World} (F4 : Below w.heap.size w w2) (F5 : w2.heap.size = w.heap.size + 3) (HLt : ∀ k, foot g v k → k < w.heap.size) (P1 : RingAt w5 g v' ph' fr' room) (U5 : Upd (foot g v) w2 w5)
    (P3 : ∀ k, foot g v' k → foot g v k ∨ w2.heap.size ≤ k) (HG9 : w5.grownBy w9 (some (w.heap.size + 1))) : RingAt w9 g v' ph' fr' room ∧ Upd (foot g v) w w9 ∧ ∀ k, foot g v' k → foot g v k ∨ w.heap.size ≤ k := by
  have h1 : ∀ k, foot g v' k → k ≠ w.heap.size + 1 := fun k hk e => by
    rcases P3 k hk with h | h
    · have := HLt k h; omega
    · omega
  refine ⟨P1.upd (S := fun k => k = w.heap.size + 1) ((Upd.refl _ w5).grown HG9 (fun k e => by cases e; exact .inl rfl)) (fun k hk => h1 k hk), ?_, fun k hk => (P3 k hk).imp id (fun h => by omega)⟩
  exact ((Upd.of_below F4).trans U5 (fun k hk => .inl hk)).grown HG9 (fun k e => by cases e; exact .inr (by omega))
theorem ring_Push_room (g : Nat) (v : Value) (ph : List Adv) (fr room : Nat) (x : Adv) (w : World) (h : RingAt w g v ph fr room) (hroom : room ≤ 100000) (hl : ph.length < room) :
    Calls Try.prog 120 #[.pointer (some ⟨g, 0, none⟩), .agg (rowA x)] w (RingPost g v (ph ++ [x]) fr room w) := by
  obtain ⟨f1, f2, f3, f4, f5⟩ := push0_facts w x
  have HRI := Lib.hid (ring_room h.2.2.2 hl x).1
  have H0 := Lib.hid (h.call f4)
  have HLt := Lib.hid h.lt
  obtain ⟨A, n, c, rfl, hnl, -⟩ := h.2.1.shape adv_len
  subst hnl
  obtain ⟨c0, c1, c2⟩ := H0.out.cells
  have F1 := Lib.hid f1
  have F2 := Lib.hid f2
  have F3 := Lib.hid f3
  have F4 := Lib.hid f4
  have F5 := Lib.hid f5
  have d1 : ((room : Int) == 0) = false := by simp; omega
  have d2 : decide ((ph.length : Int) < (room : Int)) = true := by simp; omega
  have hlt2 : ph.length < room := hl
  have hroom0 : ¬ room = 0 := by omega
  have hlen : ph.length < 1000000 := by omega
  have HLen := Lib.hid hlen
  clear h f1 f2 f3 f4 f5 hl hlen
  go_enter Try.func120, Try.ntmps120
  go_upto_region 4 with (fail)
  go_quiet (fail)
  go_upto_region 5 with (fail)
  have F1 := Lib.hid (F1.out.drewN nq)
  have F2 := Lib.hid (F2.out.drewN nq)
  have F3 := Lib.hid (F3.out.drewN nq)
  have F4 := Lib.hid (below_drewN F4.out nq)
  have F5 := Lib.hid (show ((push0 w x).drewN nq).heap.size = w.heap.size + 3 from F5.out)
  have H0 := Lib.hid (H0.out.call (below_drewN (Below.refl _ _) nq))
  clear d1 d2 hlt2 c0 c1 c2
  generalize (push0 w x).drewN nq = w2 at *
  refine wp_region_any (by kernel_rfl) ?_; change wpAny _ _ _ _ _ _ _ (World.drew w2); refine any_of_anyG (late := fun j => [10].contains j) (S := fun wS => Upd (fun k => (Value.slice A ph.length c).ownBlock = some k) w2 wS) _ _ _ _ ?_
  have S0 := (Upd.refl (fun k => (Value.slice A ph.length c).ownBlock = some k) w2).drew
  refine anyG_takes (is := [0, 1, 2, 3, 4]) (vs := [_, _, _, _, .slice A ph.length c]) (m := 6) (listed2 := #[true, true, true, true, true, false, false, false, false, false, false]) (a2 := ⟨#[_, _, _, _, _, _, _, _, _, _, _, _, _, _, _, _, _, _, _, _, _, _, _, _, _, _, _, _, _, _, _, _, _, _, _, _, _, _, _, _, _, _, _, _, _, _, _, _, _, _, _, _, _, _, _, _, _, _, _, _, _, _, _, _, _, _, _, _, _, _, _, _, _, _, _], _⟩) (by kernel_rfl) (fun j hj => by first | (simp at hj; done) | (simp at hj; simp; omega)) (by kernel_rfl) (fun _ _ _ _ _ h => h) (Ys.cons rfl (Or.inl ⟨by rfl, fun W1 hW1 => by first | rfl | (go_simp; done) | (go_simp; with_reducible rfl)⟩) (Ys.cons rfl (Or.inl ⟨by rfl, fun W1 hW1 => by first | rfl | (go_simp; done) | (go_simp; with_reducible rfl)⟩) (Ys.cons rfl (Or.inl ⟨by rfl, fun W1 hW1 => by first | rfl | (go_simp; done) | (go_simp; with_reducible rfl)⟩) (Ys.cons rfl (Or.inl ⟨by rfl, fun W1 hW1 => by first | rfl | (go_simp; done) | (go_simp; with_reducible rfl)⟩) (Ys.cons rfl (Or.inl ⟨by rfl, fun W1 hW1 => by have c := (H0.out.1.upd hW1 (fun e => H0.out.2.2.1 e)).cellv (i := 0) (v := .slice A ph.length c) rfl; go_simp⟩) (Ys.nil)))))) (S0) (by rfl) (by rfl) ?_
  refine anyG_takes (is := [5]) (vs := [_]) (m := 5) (listed2 := #[true, true, true, true, true, true, false, false, false, false, false]) (a2 := ⟨#[_, _, _, _, _, _, _, _, _, _, _, _, _, _, _, _, _, _, _, _, _, _, _, _, _, _, _, _, _, _, _, _, _, _, _, _, _, _, _, _, _, _, _, _, _, _, _, _, _, _, _, _, _, _, _, _, _, _, _, _, _, _, _, _, _, _, _, _, _, _, _, _, _, _, _], _⟩) (by kernel_rfl) (fun j hj => by first | (simp at hj; done) | (simp at hj; simp; omega)) (by kernel_rfl) (fun _ _ _ _ _ h => h) (Ys.cons rfl (Or.inl ⟨by rfl, fun W1 hW1 => exec_load (ty := 66) (x := .tmp 3) rfl rfl (run_loadAt_blk _ _ _ _ _ _ (F1.out.upd hW1 (fun e => absurd (HLt.out _ (.inr e)) (by omega))) Try.underlying66 rfl (by first | kernel_rfl | exact info_num _))⟩) (Ys.nil)) (S0) (by rfl) (by rfl) ?_
  refine anyG_one (k := 6) (by kernel_rfl) rfl (by rfl) (fun Q2 hQ2 => ?_)
  have nG := new_atU (S := S0) (#[.int .i64 x.tick, .int .i64 x.load, .int .i64 x.want, .int .i64 x.repl, .int .i64 x.why]) 66
  obtain ⟨G, hG, bG, lG⟩ := nG
  go_wp2_with fail
  refine hQ2 _ _ (fun _ => S0.alloc _) ?_
  clear hQ2 Q2
  (try simp only [hG])
  clear hG
  have SG := S0.alloc (.cells (#[.int .i64 x.tick, .int .i64 x.load, .int .i64 x.want, .int .i64 x.repl, .int .i64 x.why]) 66)
  refine anyG_one (k := 7) (by kernel_rfl) rfl (by rfl) (fun Q2 hQ2 => ?_); go_wp2_with (refine wpList_push2 _ rfl (.tmp 34) (.tmp 36) 60 rfl 0 66 _ 5 40 _ Try.underlying60 info_adv (by rfl) (by decide) (fun _ => rfl) adv_one (.slice A ph.length c) ph rfl (H0.out.2.1.drew_.alloc _) ⟨G, 0, none⟩ 1 x rfl (blk_news (α := Adv) (vs := x.cells) bG rfl) HLen.out (by decide) (Nat.zero_le _) ?_; intro v' w3 ho3 hu3 hw3; obtain ⟨A', n', c', rfl, -, -⟩ := ho3.shape adv_len; obtain ⟨p1, p2, p3, p4, p5⟩ := RingAt.put (H0.out.call ((Below.refl _ _).drew.alloc (Nat.le_refl _) _)) hu3 ho3 (hw3.imp id (fun e => ⟨_, e, Nat.le_refl _⟩)) HRI.out; have P1 := Lib.hid p1; have P2 := Lib.hid p2; have P3 := Lib.hid p3; clear p1 p2 p3); refine hQ2 _ _ (fun _ => SG.trans hu3 (fun k hk => .inl hk)) ?_; clear hQ2 Q2
  have S3 := SG.trans hu3 (fun k hk => .inl hk)
  refine anyG_one (k := 8) (by kernel_rfl) rfl (by rfl) (fun Q2 hQ2 => ?_); go_wp2_with fail; refine hQ2 _ _ (fun _ => S3) ?_; clear hQ2 Q2
  refine anyG_takes (is := [9]) (vs := [_]) (m := 1) (listed2 := #[true, true, true, true, true, true, true, true, true, true, false]) (a2 := ⟨#[_, _, _, _, _, _, _, _, _, _, _, _, _, _, _, _, _, _, _, _, _, _, _, _, _, _, _, _, _, _, _, _, _, _, _, _, _, _, _, _, _, _, _, _, _, _, _, _, _, _, _, _, _, _, _, _, _, _, _, _, _, _, _, _, _, _, _, _, _, _, _, _, _, _, _], _⟩) (by kernel_rfl) (fun j hj => by first | (simp at hj; done) | (simp at hj; simp; omega)) (by kernel_rfl) (fun _ _ _ _ _ h => h) (Ys.cons rfl (Or.inl ⟨by rfl, fun W1 hW1 => by first | rfl | (go_simp; done) | (go_simp; with_reducible rfl)⟩) (Ys.nil)) (S3) (by rfl) (by rfl) ?_
  refine anyG_of_any _ _ _ _ (by kernel_rfl) ?_
  refine any_one (k := 10) (by kernel_rfl) rfl (by rfl) (fun Q2 hQ2 => ?_); go_wp2_with fail; (try refine hQ2 _ _ ?_); (try clear hQ2 Q2)
  refine wpAny_done (by kernel_rfl) ?_ _
  have U5 := Lib.hid ((Upd.of_below (S := foot g (Value.slice A ph.length c)) (show Below w2.heap.size w2 (w2.drew.alloc (.cells (rowA x) 66)) from (Below.refl _ w2).drew.alloc (Nat.le_refl _) _)).trans P2.out (fun k hk => .inl hk))
  have P4 := Lib.hid (fun k hk => (P3.out k hk).imp id (fun h => Nat.le_trans ((Below.refl w2.heap.size w2).drew.alloc (Nat.le_refl _) (.cells (rowA x) 66)).size h))
  have G2 := Lib.hid (F2.out.upd U5.out (fun hf => by have := HLt.out _ hf; omega))
  have G3 := Lib.hid (F3.out.upd U5.out (fun hf => by have := HLt.out _ hf; omega))
  clear P2 P3 hu3 hw3 ho3 p4 p5 SG S3 bG F1 F2 F3
  generalize w3.setCell ⟨g, 0, none⟩ (.slice A' n' c') = w5 at *
  go_wp2_with (first | (refine Blk.load rfl 66 (.tmp 6) rfl (w.heap.size + 2) _ _ _ rfl G3.out Try.underlying66 rfl (by kernel_rfl) ?_) | (refine wpList_store_row rfl 66 (.tmp 4) (.tmp 40) rfl (w.heap.size + 1) _ _ _ rfl rfl G2.out (by rfl) (by kernel_rfl) (by simp [Value.oneCell']) ?_; intro w9 hb9 hg9; have HB9 := Lib.hid hb9; have HG9 := Lib.hid hg9; clear hb9 hg9))
  refine bodyPost_ret (results_row_tmp rfl _ _ (w.heap.size + 1) _ _ _ rfl HB9.out Try.underlying66 rfl (by kernel_rfl)) rfl ⟨_, _, _, rfl, push_done F4.out F5.out HLt.out P1.out U5.out P4.out HG9.out⟩
end Go.Proofs.Ytfeccjjheiillaa
