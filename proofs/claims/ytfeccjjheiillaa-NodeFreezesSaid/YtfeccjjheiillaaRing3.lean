/- Package ring at api.Advice: Push into a full ring. (fast region) -/
import Derived.Test.YtfeccjjheiillaaRing2
namespace Go.Proofs.Ytfeccjjheiillaa
open Go.RowKit
set_option linter.unusedSimpArgs false
set_option linter.unusedVariables false
set_option maxHeartbeats 8000000
set_option maxRecDepth 100000
theorem ring_Push_full (g : Nat) (v : Value) (ph : List Adv) (fr room : Nat) (x : Adv) (w : World) (h : RingAt w g v ph fr room) (hroom : room ≤ 100000) (hl : ph.length = room) :
    Calls Try.prog 120 #[.pointer (some ⟨g, 0, none⟩), .agg (rowA x)] w (RingPost g v (ph.set fr x) ((fr + 1) % room) room w) := by
  obtain ⟨f1, f2, f3, f4, f5⟩ := push0_facts w x
  have HRI := Lib.hid (ring_full h.2.2.2 hl x).1
  have HRI0 := Lib.hid h.2.2.2
  have H0 := Lib.hid (h.call f4)
  have HLt := Lib.hid h.lt
  have hfr := h.2.2.2.2.2
  obtain ⟨A, n, c, rfl, hnl, hsl⟩ := h.2.1.shape adv_len
  obtain ⟨b, off, y, rfl, hy, hb, u0, u1, u2, u3, u4⟩ := AdvsAre.at_ hsl (show fr < n by omega)
  have h0 : off = 0 := by
    rcases h.2.1.2 with ⟨e, _⟩ | ⟨b', cap, cur, e, _⟩
    · cases e
    · cases e; rfl
  subst h0
  rw [Nat.zero_add] at u0 u1 u2 u3 u4
  subst hnl
  have HC := Lib.hid (fun W (hW : Below w.heap.size w W) => (⟨(hW.cell (p := ⟨b, fr * 5, none⟩) hb).trans u0, (hW.cell (p := ⟨b, fr * 5 + 1, none⟩) hb).trans u1, (hW.cell (p := ⟨b, fr * 5 + 2, none⟩) hb).trans u2, (hW.cell (p := ⟨b, fr * 5 + 3, none⟩) hb).trans u3, (hW.cell (p := ⟨b, fr * 5 + 4, none⟩) hb).trans u4⟩ :
    W.cell? ⟨b, fr * 5, none⟩ = some (.int .i64 y.tick) ∧ W.cell? ⟨b, fr * 5 + 1, none⟩ = some (.int .i64 y.load) ∧ W.cell? ⟨b, fr * 5 + 2, none⟩ = some (.int .i64 y.want) ∧ W.cell? ⟨b, fr * 5 + 3, none⟩ = some (.int .i64 y.repl) ∧ W.cell? ⟨b, fr * 5 + 4, none⟩ = some (.int .i64 y.why)))
  obtain ⟨c0, c1, c2⟩ := H0.out.cells
  have F1 := Lib.hid f1
  have F2 := Lib.hid f2
  have F3 := Lib.hid f3
  have F4 := Lib.hid f4
  have F5 := Lib.hid f5
  have d1 : ((room : Int) == 0) = false := by simp; omega
  have d2 : decide ((ph.length : Int) < (room : Int)) = false := by simp; omega
  have hlt2 : ¬ ph.length < room := by omega
  have hroom0 : ¬ room = 0 := by omega
  have hfl : fr < ph.length := by omega
  have HFl := Lib.hid hfl
  have hfi : (fr : Int) < (ph.length : Int) := by omega
  have HWr := Lib.hid (show IntKind.i64.wrap ((fr : Int) + 1) = (fr : Int) + 1 by rw [IntKind.wrap_i64]; omega)
  have HM := Lib.hid (show ((fr : Int) + 1).tmod (room : Int) = (((fr + 1) % room : Nat) : Int) by rw [← Int.natCast_one, ← Int.natCast_add, ← Int.ofNat_tmod])
  have HLn := Lib.hid hl
  clear h f1 f2 f3 f4 f5 hl hsl hy hb u0 u1 u2 u3 u4
  generalize (fr + 1) % room = fr2 at *
  go_enter Try.func120, Try.ntmps120
  go_upto_region 4 with (fail)
  go_quiet (fail)
  go_upto_region 7 with (fail)
  have F1 := Lib.hid (F1.out.drewN nq)
  have F2 := Lib.hid (F2.out.drewN nq)
  have F4 := Lib.hid (below_drewN F4.out nq)
  have F5 := Lib.hid (show ((push0 w x).drewN nq).heap.size = w.heap.size + 3 from F5.out)
  have H0 := Lib.hid (H0.out.call (below_drewN (Below.refl _ _) nq))
  clear d1 d2 hlt2 c0 c1 c2 F3
  generalize (push0 w x).drewN nq = w2 at *
  refine wp_region_any (by kernel_rfl) ?_; change wpAny _ _ _ _ _ _ _ (World.drew w2); refine any_of_anyG (late := fun _ => false) (S := fun wS => Below w2.heap.size w2 wS) _ _ _ _ ?_
  have S0 := (Below.refl w2.heap.size w2).drew
  refine anyG_takes (is := [0, 1, 2, 3, 4]) (vs := [_, _, _, .slice (some ⟨b, 0, none⟩) ph.length c, _]) (m := 7) (listed2 := #[true, true, true, true, true, false, false, false, false, false, false, false]) (a2 := ⟨#[_, _, _, _, _, _, _, _, _, _, _, _, _, _, _, _, _, _, _, _, _, _, _, _, _, _, _, _, _, _, _, _, _, _, _, _, _, _, _, _, _, _, _, _, _, _, _, _, _, _, _, _, _, _, _, _, _, _, _, _, _, _, _, _, _, _, _, _, _, _, _, _, _, _, _], _⟩) (by kernel_rfl) (fun j hj => by simp at hj) (by kernel_rfl) (fun _ _ _ _ _ h => h) (Ys.cons rfl (Or.inl ⟨by rfl, fun W1 hW1 => by first | rfl | (go_simp; done) | (go_simp; with_reducible rfl)⟩) (Ys.cons rfl (Or.inl ⟨by rfl, fun W1 hW1 => by first | rfl | (go_simp; done) | (go_simp; with_reducible rfl)⟩) (Ys.cons rfl (Or.inl ⟨by rfl, fun W1 hW1 => by first | rfl | (go_simp; done) | (go_simp; with_reducible rfl)⟩) (Ys.cons rfl (Or.inl ⟨by rfl, fun W1 hW1 => by have c := (H0.out.call hW1).cells.1; go_simp⟩) (Ys.cons rfl (Or.inl ⟨by rfl, fun W1 hW1 => by first | rfl | (go_simp; done) | (go_simp; with_reducible rfl)⟩) (Ys.nil)))))) (S0) (by rfl) (by rfl) ?_
  refine anyG_takes (is := [5, 6, 7, 8, 9]) (vs := [_, _, .int .i64 fr, .pointer (some ⟨b, fr * 5, none⟩), .agg (rowA y)]) (m := 2) (listed2 := #[true, true, true, true, true, true, true, true, true, true, false, false]) (a2 := ⟨#[_, _, _, _, _, _, _, _, _, _, _, _, _, _, _, _, _, _, _, _, _, _, _, _, _, _, _, _, _, _, _, _, _, _, _, _, _, _, _, _, _, _, _, _, _, _, _, _, _, _, _, _, _, _, _, _, _, _, _, _, _, _, _, _, _, _, _, _, _, _, _, _, _, _, _], _⟩) (by kernel_rfl) (fun j hj => by simp at hj) (by kernel_rfl) (fun _ _ _ _ _ h => h) (Ys.cons rfl (Or.inl ⟨by rfl, fun W1 hW1 => by first | rfl | (go_simp; done) | (go_simp; with_reducible rfl)⟩) (Ys.cons rfl (Or.inl ⟨by rfl, fun W1 hW1 => by first | rfl | (go_simp; done) | (go_simp; with_reducible rfl)⟩) (Ys.cons rfl (Or.inl ⟨by rfl, fun W1 hW1 => by have c := (H0.out.call hW1).cells.2.1; go_simp⟩) (Ys.cons rfl (Or.inl ⟨by rfl, fun W1 hW1 => by first | (go_simp; done) | (go_simp; intro hh; omega)⟩) (Ys.cons rfl (Or.inl ⟨by rfl, fun W1 hW1 => by obtain ⟨q0, q1, q2, q3, q4⟩ := HC.out _ (F4.out.trans (hW1.mono F4.out.size)); go_simp⟩) (Ys.nil)))))) (S0) (by rfl) (by rfl) ?_
  refine anyG_one (k := 10) (by kernel_rfl) rfl (by rfl) (fun Q2 hQ2 => ?_)
  have nG := new_at (S := S0) (zA) 66
  obtain ⟨G, hG, bG, lG⟩ := nG
  go_wp2_with fail
  refine hQ2 _ _ (fun _ => S0.alloc S0.size _) ?_
  clear hQ2 Q2
  (try simp only [hG])
  clear hG
  have SG := S0.alloc S0.size (.cells (zA) 66)
  refine anyG_one (k := 11) (by kernel_rfl) rfl (by rfl) (fun Q2 hQ2 => ?_); go_wp2_with (refine wpList_store_row rfl 66 (.tmp 7) _ rfl _ _ _ _ rfl rfl (bG) (by rfl) (by kernel_rfl) (by simp [Value.oneCell']) ?_; intro uG huG hwG); refine hQ2 _ _ (fun _ => SG.trans (Only.below hwG lG SG.size)) ?_; clear hQ2 Q2
  have SsG := SG.trans (Only.below hwG lG SG.size)
  refine anyG_done (by kernel_rfl) ?_ _
  have K1 := Lib.hid (F1.out.call SsG)
  have K2 := Lib.hid (F2.out.call SsG)
  have K4 := Lib.hid (F4.out.trans (SsG.mono F4.out.size))
  have K5 := Lib.hid SsG
  have KG := Lib.hid huG
  have KL := Lib.hid lG
  have K0 := Lib.hid (H0.out.call SsG)
  clear huG hwG SsG bG SG S0 H0 F1 F2 lG
  go_upto_region 8 with (fail)
  refine wp_region_any (by kernel_rfl) ?_; change wpAny _ _ _ _ _ _ _ (World.drew uG); refine any_of_anyG (late := fun j => [10].contains j) (S := fun wS => Below uG.heap.size uG wS) _ _ _ _ ?_
  have S0 := (Below.refl uG.heap.size uG).drew
  refine anyG_takes (is := [0, 1, 2, 3, 4]) (vs := [_, _, _, .slice (some ⟨b, 0, none⟩) ph.length c, _]) (m := 6) (listed2 := #[true, true, true, true, true, false, false, false, false, false, false]) (a2 := ⟨#[_, _, _, _, _, _, _, _, _, _, _, _, _, _, _, _, _, _, _, _, _, _, _, _, _, _, _, _, _, _, _, _, _, _, _, _, _, _, _, _, _, _, _, _, _, _, _, _, _, _, _, _, _, _, _, _, _, _, _, _, _, _, _, _, _, _, _, _, _, _, _, _, _, _, _], _⟩) (by kernel_rfl) (fun j hj => by first | (simp at hj; done) | (simp at hj; simp; omega)) (by kernel_rfl) (fun _ _ _ _ _ h => h) (Ys.cons rfl (Or.inl ⟨by rfl, fun W1 hW1 => by first | rfl | (go_simp; done) | (go_simp; with_reducible rfl)⟩) (Ys.cons rfl (Or.inl ⟨by rfl, fun W1 hW1 => by first | rfl | (go_simp; done) | (go_simp; with_reducible rfl)⟩) (Ys.cons rfl (Or.inl ⟨by rfl, fun W1 hW1 => by first | rfl | (go_simp; done) | (go_simp; with_reducible rfl)⟩) (Ys.cons rfl (Or.inl ⟨by rfl, fun W1 hW1 => by have c := (K0.out.call hW1).cells.1; go_simp⟩) (Ys.cons rfl (Or.inl ⟨by rfl, fun W1 hW1 => by first | rfl | (go_simp; done) | (go_simp; with_reducible rfl)⟩) (Ys.nil)))))) (S0) (by rfl) (by rfl) ?_
  refine anyG_takes (is := [5, 6, 7, 8, 9]) (vs := [_, _, .int .i64 fr, _, .pointer (some ⟨b, fr * 5, none⟩)]) (m := 1) (listed2 := #[true, true, true, true, true, true, true, true, true, true, false]) (a2 := ⟨#[_, _, _, _, _, _, _, _, _, _, _, _, _, _, _, _, _, _, _, _, _, _, _, _, _, _, _, _, _, _, _, _, _, _, _, _, _, _, _, _, _, _, _, _, _, _, _, _, _, _, _, _, _, _, _, _, _, _, _, _, _, _, _, _, _, _, _, _, _, _, _, _, _, _, _], _⟩) (by kernel_rfl) (fun j hj => by first | (simp at hj; done) | (simp at hj; simp; omega)) (by kernel_rfl) (fun _ _ _ _ _ h => h) (Ys.cons rfl (Or.inl ⟨by rfl, fun W1 hW1 => by first | rfl | (go_simp; done) | (go_simp; with_reducible rfl)⟩) (Ys.cons rfl (Or.inl ⟨by rfl, fun W1 hW1 => by first | rfl | (go_simp; done) | (go_simp; with_reducible rfl)⟩) (Ys.cons rfl (Or.inl ⟨by rfl, fun W1 hW1 => by have c := (K0.out.call hW1).cells.2.1; go_simp⟩) (Ys.cons rfl (Or.inl ⟨by rfl, fun W1 hW1 => exec_load (ty := 66) (x := .tmp 3) rfl rfl (run_loadAt_blk _ _ _ _ _ _ (K1.out.call hW1) Try.underlying66 rfl (by first | kernel_rfl | exact info_num _))⟩) (Ys.cons rfl (Or.inl ⟨by rfl, fun W1 hW1 => by first | (go_simp; done) | (go_simp; intro hh; omega)⟩) (Ys.nil)))))) (S0) (by rfl) (by rfl) ?_
  refine anyG_of_any _ _ _ _ (by kernel_rfl) ?_
  refine any_one (k := 10) (by kernel_rfl) rfl (by rfl) (fun Q2 hQ2 => ?_); go_wp2_with (refine wpList_store_mid rfl 66 (.tmp 60) (.tmp 59) rfl b (fr * 5) #[.int .i64 x.tick, .int .i64 x.load, .int .i64 x.want, .int .i64 x.repl, .int .i64 x.why] rfl rfl ((K0.out.call S0).2.1.set adv_len HFl.out x).2.2 (by kernel_rfl) (by simp [Value.oneCell']) ?_); (try refine hQ2 _ _ ?_); (try clear hQ2 Q2)
  refine wpAny_done (by kernel_rfl) ?_ _
  have D1 := Lib.hid (K0.out.call S0)
  have D2 := (D1.out.2.1.set adv_len HFl.out x)
  have hbg : g ≠ b := fun e => D1.out.2.2.1 (by rw [e]; rfl)
  have U8 := Lib.hid (((Upd.of_below (S := foot g (Value.slice (some ⟨b, 0, none⟩) ph.length c)) (K5.out.trans (S0.mono K5.out.size)))).grown D2.2.1 (fun k e => by cases e; exact .inl (.inr rfl)))
  have hbw := HLt.out b (.inr rfl)
  have M0 := Lib.hid (show RingAt (uG.drew.setCells b (fr * 5) [.int .i64 x.tick, .int .i64 x.load, .int .i64 x.want, .int .i64 x.repl, .int .i64 x.why]) g (.slice (some ⟨b, 0, none⟩) ph.length c) (ph.set fr x) fr room from
    ⟨D1.out.1.grown D2.2.1 (fun e => hbg (Option.some.inj e)), D2.1, D1.out.2.2.1, ⟨by rw [List.length_set]; exact HRI0.out.1, fun h => HRI0.out.2.1 (by rwa [List.length_set] at h), HRI0.out.2.2⟩⟩)
  have M2 := Lib.hid ((K2.out.call S0).grown D2.2.1 (fun e => by cases e; omega))
  have MG := Lib.hid ((KG.out.call S0).grown D2.2.1 (fun e => by cases e; have := KL.out; have := F5.out; omega))
  have e8 : uG.drew.setCells b (fr * 5) [.int .i64 x.tick, .int .i64 x.load, .int .i64 x.want, .int .i64 x.repl, .int .i64 x.why] = uG.drew.setCells b (fr * 5) x.cells := rfl
  rw [← e8] at U8 M2 MG
  clear D1 D2 e8 K0 K1 K2 K4 K5 KG
  generalize uG.drew.setCells b (fr * 5) [.int .i64 x.tick, .int .i64 x.load, .int .i64 x.want, .int .i64 x.repl, .int .i64 x.why] = w8 at *
  have q4 := M0.out.cells.2.1
  have q5 := M0.out.1.frozen 1
  go_upto_region 9 with (fail)
  refine wp_region_any (by kernel_rfl) ?_; change wpAny _ _ _ _ _ _ _ (World.drew w8); refine any_of_anyG (late := fun j => [13].contains j) (S := fun wS => Below w8.heap.size w8 wS) _ _ _ _ ?_
  have S0 := (Below.refl w8.heap.size w8).drew
  refine anyG_takes (is := [0, 1, 2, 3, 4]) (vs := [_, _, _, _, .int .i64 fr]) (m := 9) (listed2 := #[true, true, true, true, true, false, false, false, false, false, false, false, false, false]) (a2 := ⟨#[_, _, _, _, _, _, _, _, _, _, _, _, _, _, _, _, _, _, _, _, _, _, _, _, _, _, _, _, _, _, _, _, _, _, _, _, _, _, _, _, _, _, _, _, _, _, _, _, _, _, _, _, _, _, _, _, _, _, _, _, _, _, _, _, _, _, _, _, _, _, _, _, _, _, _], _⟩) (by kernel_rfl) (fun j hj => by first | (simp at hj; done) | (simp at hj; simp; omega)) (by kernel_rfl) (fun _ _ _ _ _ h => h) (Ys.cons rfl (Or.inl ⟨by rfl, fun W1 hW1 => by first | rfl | (go_simp; done) | (go_simp; with_reducible rfl)⟩) (Ys.cons rfl (Or.inl ⟨by rfl, fun W1 hW1 => by first | rfl | (go_simp; done) | (go_simp; with_reducible rfl)⟩) (Ys.cons rfl (Or.inl ⟨by rfl, fun W1 hW1 => by first | rfl | (go_simp; done) | (go_simp; with_reducible rfl)⟩) (Ys.cons rfl (Or.inl ⟨by rfl, fun W1 hW1 => by first | rfl | (go_simp; done) | (go_simp; with_reducible rfl)⟩) (Ys.cons rfl (Or.inl ⟨by rfl, fun W1 hW1 => by have c := (M0.out.call hW1).cells.2.1; go_simp⟩) (Ys.nil)))))) (S0) (by rfl) (by rfl) ?_
  refine anyG_takes (is := [5, 6, 7, 8, 9]) (vs := [.int .i64 ((fr : Int) + 1), _, _, _, .int .i64 room]) (m := 4) (listed2 := #[true, true, true, true, true, true, true, true, true, true, false, false, false, false]) (a2 := ⟨#[_, _, _, _, _, _, _, _, _, _, _, _, _, _, _, _, _, _, _, _, _, _, _, _, _, _, _, _, _, _, _, _, _, _, _, _, _, _, _, _, _, _, _, _, _, _, _, _, _, _, _, _, _, _, _, _, _, _, _, _, _, _, _, _, _, _, _, _, _, _, _, _, _, _, _], _⟩) (by kernel_rfl) (fun j hj => by first | (simp at hj; done) | (simp at hj; simp; omega)) (by kernel_rfl) (fun _ _ _ _ _ h => h) (Ys.cons rfl (Or.inl ⟨by rfl, fun W1 hW1 => by have hw := HWr.out; go_simp⟩) (Ys.cons rfl (Or.inl ⟨by rfl, fun W1 hW1 => by first | rfl | (go_simp; done) | (go_simp; with_reducible rfl)⟩) (Ys.cons rfl (Or.inl ⟨by rfl, fun W1 hW1 => by first | rfl | (go_simp; done) | (go_simp; with_reducible rfl)⟩) (Ys.cons rfl (Or.inl ⟨by rfl, fun W1 hW1 => by first | rfl | (go_simp; done) | (go_simp; with_reducible rfl)⟩) (Ys.cons rfl (Or.inl ⟨by rfl, fun W1 hW1 => by have c := (M0.out.call hW1).cells.2.2; go_simp⟩) (Ys.nil)))))) (S0) (by rfl) (by rfl) ?_
  refine anyG_takes (is := [10]) (vs := [.int .i64 fr2]) (m := 3) (listed2 := #[true, true, true, true, true, true, true, true, true, true, true, false, false, false]) (a2 := ⟨#[_, _, _, _, _, _, _, _, _, _, _, _, _, _, _, _, _, _, _, _, _, _, _, _, _, _, _, _, _, _, _, _, _, _, _, _, _, _, _, _, _, _, _, _, _, _, _, _, _, _, _, _, _, _, _, _, _, _, _, _, _, _, _, _, _, _, _, _, _, _, _, _, _, _, _], _⟩) (by kernel_rfl) (fun j hj => by first | (simp at hj; done) | (simp at hj; simp; omega)) (by kernel_rfl) (fun _ _ _ _ _ h => h) (Ys.cons rfl (Or.inl ⟨by rfl, fun W1 hW1 => by have hM := HM.out; go_simp⟩) (Ys.nil)) (S0) (by rfl) (by rfl) ?_
  refine anyG_one (k := 11) (by kernel_rfl) rfl (by rfl) (fun Q2 hQ2 => ?_); go_wp2_with fail; refine hQ2 _ _ (fun _ => S0) ?_; clear hQ2 Q2
  refine anyG_takes (is := [12]) (vs := [_]) (m := 1) (listed2 := #[true, true, true, true, true, true, true, true, true, true, true, true, true, false]) (a2 := ⟨#[_, _, _, _, _, _, _, _, _, _, _, _, _, _, _, _, _, _, _, _, _, _, _, _, _, _, _, _, _, _, _, _, _, _, _, _, _, _, _, _, _, _, _, _, _, _, _, _, _, _, _, _, _, _, _, _, _, _, _, _, _, _, _, _, _, _, _, _, _, _, _, _, _, _, _], _⟩) (by kernel_rfl) (fun j hj => by first | (simp at hj; done) | (simp at hj; simp; omega)) (by kernel_rfl) (fun _ _ _ _ _ h => h) (Ys.cons rfl (Or.inl ⟨by rfl, fun W1 hW1 => by first | rfl | (go_simp; done) | (go_simp; with_reducible rfl)⟩) (Ys.nil)) (S0) (by rfl) (by rfl) ?_
  refine anyG_of_any _ _ _ _ (by kernel_rfl) ?_
  refine any_one (k := 13) (by kernel_rfl) rfl (by rfl) (fun Q2 hQ2 => ?_); go_wp2_with fail; (try refine hQ2 _ _ ?_); (try clear hQ2 Q2)
  refine wpAny_done (by kernel_rfl) ?_ _
  have N0 := Lib.hid (show RingAt (w8.drew.setCell ⟨g, 1, none⟩ (.int .i64 fr2)) g (.slice (some ⟨b, 0, none⟩) ph.length c) (ph.set fr x) fr2 room from
    ⟨M0.out.1.drew.set_ 1 _, M0.out.2.1.drew_.far (fun k hk e => M0.out.2.2.1 (by rw [hk, e])) _, M0.out.2.2.1, HRI.out⟩)
  have U9 := Lib.hid ((U8.out.drew).setCell (p := ⟨g, 1, none⟩) (.inl (.inl rfl)) (.int .i64 fr2))
  have hgw := HLt.out g (.inl rfl)
  have N2 := Lib.hid (M2.out.drew.far (p := ⟨g, 1, none⟩) (by show w.heap.size + 1 ≠ g; omega) (.int .i64 fr2))
  have NG := Lib.hid (MG.out.drew.far (p := ⟨g, 1, none⟩) (by show G ≠ g; have := KL.out; have := F5.out; omega) (.int .i64 fr2))
  clear M0 U8 M2 MG q4 q5
  have e10 : w8.drew.setCell ⟨g, 1, none⟩ (.int .i64 fr2) = (w8.setCell ⟨g, 1, none⟩ (.int .i64 fr2)).drew := rfl
  rw [e10] at N0 U9 N2 NG
  clear e10
  generalize (w8.setCell ⟨g, 1, none⟩ (.int .i64 fr2)).drew = w10 at *
  go_wp2_with (first | (refine Blk.load rfl 66 (.tmp 7) rfl G _ _ _ rfl NG.out Try.underlying66 rfl (by kernel_rfl) ?_) | (refine wpList_store_row rfl 66 (.tmp 4) (.tmp 74) rfl (w.heap.size + 1) _ _ _ rfl rfl N2.out (by rfl) (by kernel_rfl) (by simp [Value.oneCell']) ?_; intro w9 hb9 hg9; have HB9 := Lib.hid hb9; have HG9 := Lib.hid hg9; clear hb9 hg9))
  refine bodyPost_ret (results_row_tmp rfl _ _ (w.heap.size + 1) _ _ _ rfl HB9.out Try.underlying66 rfl (by kernel_rfl)) rfl ⟨_, _, _, rfl, push_done F4.out F5.out HLt.out N0.out U9.out (fun k hk => .inl hk) HG9.out⟩
end Go.Proofs.Ytfeccjjheiillaa
