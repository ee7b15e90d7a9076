/- The laws of chapter 16: DecideWindow. -/
import Derived.Test.YtanphcdggmbomaaW16
namespace Go.Proofs.Ytanphcdggmbomaa
open Go.RowKit
set_option linter.unusedSimpArgs false
set_option linter.unusedVariables false
set_option maxHeartbeats 8000000
set_option maxRecDepth 100000
theorem fold_max (l : List Int) : ∀ m : Int, (l.foldl max m = m ∨ l.foldl max m ∈ l) ∧ m ≤ l.foldl max m ∧ ∀ x ∈ l, x ≤ l.foldl max m := by
  induction l with
  | nil => intro m; exact ⟨.inl rfl, Int.le_refl _, fun x hx => by simp at hx⟩
  | cons a l ih =>
    intro m
    obtain ⟨h1, h2, h3⟩ := ih (max m a)
    rw [List.foldl_cons]
    refine ⟨?_, by omega, fun x hx => ?_⟩
    · rcases h1 with h | h
      · rw [h]
        by_cases k : a ≤ m
        · left; omega
        · right
          have : max m a = a := by omega
          rw [this]; simp
      · right; simp [h]
    · rcases List.mem_cons.1 hx with rfl | hx
      · omega
      · exact h3 x hx
theorem latestq_mem (l : List Smp) (h : l.length ≠ 0) : (∃ x ∈ l, x.tick = latestq l) ∧ ∀ x ∈ l, x.tick ≤ latestq l := by
  cases l with
  | nil => simp at h
  | cons a l =>
    show (∃ x ∈ a :: l, x.tick = (l.map Smp.tick).foldl max a.tick) ∧ ∀ x ∈ a :: l, x.tick ≤ (l.map Smp.tick).foldl max a.tick
    obtain ⟨h1, h2, h3⟩ := fold_max (l.map Smp.tick) a.tick
    refine ⟨?_, fun x hx => ?_⟩
    · rcases h1 with h | h
      · exact ⟨a, by simp, h.symm⟩
      · obtain ⟨x, hx, hx2⟩ := List.mem_map.1 h
        exact ⟨x, by simp [hx], hx2⟩
    · rcases List.mem_cons.1 hx with rfl | hx
      · exact h2
      · exact h3 _ (List.mem_map.2 ⟨x, hx, rfl⟩)
theorem cut_latest (l : List Smp) (f : Int) (h : l.length ≠ 0) (hf : f ≤ latestq l) : (cutq l f (latestq l)).length ≠ 0 ∧ latestq (cutq l f (latestq l)) = latestq l := by
  obtain ⟨⟨x, hx, hx2⟩, h2⟩ := latestq_mem l h
  have hm : x ∈ cutq l f (latestq l) := by
    unfold cutq
    rw [List.mem_filter]
    refine ⟨hx, ?_⟩
    unfold inq
    simp [hx2, hf]
  have hn : (cutq l f (latestq l)).length ≠ 0 := by
    intro e
    rw [List.eq_nil_of_length_eq_zero e] at hm
    simp at hm
  obtain ⟨⟨y, hy, hy2⟩, h3⟩ := latestq_mem _ hn
  have a1 := h3 x hm
  have a2 := h2 y (List.mem_filter.1 hy).1
  exact ⟨hn, by omega⟩
theorem cut_cut (l : List Smp) (f t : Int) : cutq (cutq l f t) f t = cutq l f t := by
  unfold cutq
  rw [List.filter_filter]
  simp
theorem of_cut (p : Pol) (l : List Smp) (past : List Adv) (hk : p.okP) (h : l.length ≠ 0) (hf : fromq (latestq l) p.window ≤ latestq l) :
    ofq p (cutq l (fromq (latestq l) p.window) (latestq l)) past = ofq p l past ∧ ofe p (cutq l (fromq (latestq l) p.window) (latestq l)) = 0 ∧ ofe p l = 0 := by
  obtain ⟨h1, h2⟩ := cut_latest l _ h hf
  obtain ⟨b1, b2⟩ := ofq_ok (past := past) hk h1
  obtain ⟨c1, c2⟩ := ofq_ok (past := past) hk h
  refine ⟨?_, b2, c2⟩
  rw [b1, c1]
  unfold decq
  dsimp only
  rw [h2, cut_cut]
theorem walk_DecideWindow (a0 a1 a2 a3 a4 a5 : Int) (A : Option Addr) (len cap : Nat) (l : List Smp) (B : Option Addr) (len2 cap2 : Nat) (past : List Adv) (w : World) (h0 : I64 a0) (h1 : I64 a1) (h2 : I64 a2) (h3 : I64 a3) (h4 : I64 a4) (h5 : I64 a5) (hs : SmpsAre w A len cap l) (hg : ∀ x ∈ l, x.good) (hs2 : AdvsAre w B len2 cap2 past) (hg2 : ∀ x ∈ past, x.good) :
    Calls Try.prog 4 #[.agg #[.int .i64 a0, .int .i64 a1, .int .i64 a2, .int .i64 a3, .int .i64 a4, .int .i64 a5], .slice A len cap, .slice B len2 cap2] w fun e w' => e = .returned (.bool true) ∧ Below w.heap.size w w' := by
  obtain ⟨p, rfl, rfl, rfl, rfl, rfl, rfl⟩ : ∃ p : Pol, a0 = p.min ∧ a1 = p.max ∧ a2 = p.target ∧ a3 = p.tol ∧ a4 = p.window ∧ a5 = p.hold := ⟨⟨a0, a1, a2, a3, a4, a5⟩, rfl, rfl, rfl, rfl, rfl, rfl⟩
  have HP := Lib.hid (show p.fit from ⟨h0, h1, h2, h3, h4, h5⟩)
  have HS := Lib.hid hs
  have HL := Lib.hid hs.1
  have HS2 := Lib.hid hs2
  have HG := Lib.hid hg
  have hle : len ≤ cap := hs.2.1
  have hm : cap ≤ 9223372036854775807 := by have := hs.2.2.1; unfold maxLen at this; omega
  have hle2 : len2 ≤ cap2 := hs2.2.1
  have hm2 : cap2 ≤ 9223372036854775807 := by have := hs2.2.2.1; unfold maxLen at this; omega
  clear h0 h1 h2 h3 h4 h5 hs hg hs2 hg2
  go_enter Try.func4, Try.ntmps4
  go_wp2_with fail
  refine (awake16 _).mono ?_
  rintro e v1 ⟨rfl, hb1⟩
  have E0 := (show Below w.heap.size w (w.alloc (.cells p.row 23)) by go_grown)
  have B0 := Lib.hid ((Blk.new w 23 p.row).call hb1)
  have E1 := Lib.hid (E0.trans (hb1.mono E0.size))
  clear hb1 E0
  by_cases hl : 40 < len
  · go_wp2
    go_ret
    exact ⟨rfl, E1.out⟩
  by_cases hl2 : 40 < len2
  · go_wp2
    go_ret
    exact ⟨rfl, E1.out⟩
  by_cases h0 : len = 0
  · have d0 : ((len : Int) == 0) = true := by simp; omega
    go_wp2
    go_ret
    exact ⟨rfl, E1.out⟩
  have d0 : ((len : Int) == 0) = false := by simp; omega
  have h1 : 1 ≤ len := by omega
  have dl : decide (40 < (len : Int)) = false := by simp; omega
  have dl2 : decide (40 < (len2 : Int)) = false := by simp; omega
  have HC := Lib.hid (fun W => ref_Right p W)
  have k0 := B0.out.cellv (i := 0) (v := .int .i64 p.min) rfl
  have k1 := B0.out.cellv (i := 1) (v := .int .i64 p.max) rfl
  have k2 := B0.out.cellv (i := 2) (v := .int .i64 p.target) rfl
  have k3 := B0.out.cellv (i := 3) (v := .int .i64 p.tol) rfl
  have k4 := B0.out.cellv (i := 4) (v := .int .i64 p.window) rfl
  have k5 := B0.out.cellv (i := 5) (v := .int .i64 p.hold) rfl
  go_wp2_with fail
  refine (HC.out _).mono ?_
  rintro e v2 ⟨rfl, hb2⟩
  have E2 := Lib.hid (E1.out.trans (hb2.mono E1.out.size))
  have B2 := Lib.hid (B0.out.call hb2)
  clear hb2 E1 B0 HC k0 k1 k2 k3 k4 k5
  by_cases hk : p.okP
  · rw [polOk_true hk]
    have HT := latestq_I64 HG.out
    have HLa := Lib.hid (fun W hW => ref16_Latest A len cap l W hW h1 (by omega))
    have HQ := Lib.hid (of_cut p l past hk (show l.length ≠ 0 by rw [HL.out]; exact h0))
    have HO := Lib.hid (fun W hW hW2 => (show Calls Try.prog 11 #[(.agg #[.int .i64 p.min, .int .i64 p.max, .int .i64 p.target, .int .i64 p.tol, .int .i64 p.window, .int .i64 p.hold]), .slice A len cap, .slice B len2 cap2] W fun e w' => e = .returned (.tuple #[.agg #[.int .i64 (ofq p l past).tick, .int .i64 (ofq p l past).load, .int .i64 (ofq p l past).want, .int .i64 (ofq p l past).repl, .int .i64 (ofq p l past).why], .int .i64 (ofe p l)]) ∧ Below W.heap.size W w' from decide_Of p A len cap l B len2 cap2 past W HP.out hW HG.out (by omega) hW2 (by omega)))
    generalize latestq l = T at *
    have HFr := Lib.hid (fun W => ref09_From T p.window W HT HP.out.2.2.2.2.1)
    have HCu := Lib.hid (fun W hW => ref09_Cut A len cap l (fromq T p.window) T W hW (by omega))
    have HCl := Lib.hid (show (cutq l (fromq T p.window) T).length ≤ 40 by have := cutq_len l (fromq T p.window) T; have := HL.out; omega)
    have HO2 := Lib.hid (fun W C n c hW hW2 hn => (show Calls Try.prog 11 #[(.agg #[.int .i64 p.min, .int .i64 p.max, .int .i64 p.target, .int .i64 p.tol, .int .i64 p.window, .int .i64 p.hold]), .slice C n c, .slice B len2 cap2] W fun e w' => e = .returned (.tuple #[.agg #[.int .i64 (ofq p (cutq l (fromq T p.window) T) past).tick, .int .i64 (ofq p (cutq l (fromq T p.window) T) past).load, .int .i64 (ofq p (cutq l (fromq T p.window) T) past).want, .int .i64 (ofq p (cutq l (fromq T p.window) T) past).repl, .int .i64 (ofq p (cutq l (fromq T p.window) T) past).why], .int .i64 (ofe p (cutq l (fromq T p.window) T))]) ∧ Below W.heap.size W w' from decide_Of p C n c (cutq l (fromq T p.window) T) B len2 cap2 past W HP.out hW (cutq_good HG.out _ _) hn hW2 (by omega)))
    have c4 := B2.out.cellv (i := 4) (v := .int .i64 p.window) rfl
    generalize fromq T p.window = FR at *
    go_wp2_with fail
    refine (HLa.out _ (slice_keep HS.out E2.out)).mono ?_
    rintro e v2 ⟨rfl, rfl⟩
    go_wp2_with fail
    refine (HFr.out _).mono ?_
    rintro e v2 ⟨rfl, rfl⟩
    by_cases hf : T < FR
    · go_wp2
      all_goals first | (exfalso; omega) | (go_ret; exact ⟨rfl, E2.out⟩)
    have HQ2 := HQ.out (by omega)
    rw [HQ2.1, HQ2.2.1] at HO2
    rw [HQ2.2.2] at HO
    clear HQ HQ2 c4 HLa
    generalize ofq p l past = X at *
    obtain ⟨q1, q2, q3⟩ := eq_advN X.tick X.load X.want X.repl X.why X.tick X.load X.want X.repl X.why true (by simp)
    clear q3
    go_wp2_with (refine Blk.load rfl 23 (.tmp 3) rfl w.heap.size _ _ _ rfl B2.out Try.underlying23 rfl (by kernel_rfl) ?_)
    all_goals first | (exfalso; omega) | skip
    refine (HO.out _ (slice_keep HS.out E2.out) (slice_keep HS2.out E2.out)).mono ?_
    rintro e v3 ⟨rfl, hb3⟩
    have e3 := E2.out.trans (hb3.mono E2.out.size)
    have E3 := Lib.hid (e3.alloc e3.size (.cells #[.int .i64 X.tick, .int .i64 X.load, .int .i64 X.want, .int .i64 X.repl, .int .i64 X.why] 28))
    have B3 := Lib.hid ((B2.out.call hb3).alloc (.cells #[.int .i64 X.tick, .int .i64 X.load, .int .i64 X.want, .int .i64 X.repl, .int .i64 X.why] 28))
    have X3 := Lib.hid (Blk.new v3 28 #[.int .i64 X.tick, .int .i64 X.load, .int .i64 X.want, .int .i64 X.repl, .int .i64 X.why])
    clear hb3 e3 E2 B2
    go_upto_region 9 with (fail)
    generalize v3.heap.size = g8 at *
    generalize v3.alloc (.cells #[.int .i64 X.tick, .int .i64 X.load, .int .i64 X.want, .int .i64 X.repl, .int .i64 X.why] 28) = v4 at *
    refine wp_region_any (by kernel_rfl) ?_; change wpAny _ _ _ _ _ _ _ (World.drew v4); refine any_of_anyG (late := fun _ => false) (S := fun wS => Below v4.heap.size v4 wS) _ _ _ _ ?_
    have S0 := (Below.refl v4.heap.size v4).drew
    refine anyG_take (i := 0) (v := _) rfl (by kernel_rfl) (by kernel_rfl) (by kernel_rfl) (by kernel_rfl) rfl (by kernel_rfl) (fun j hj => by first | (simp at hj; done) | (simp at hj; simp; omega)) (fun _ _ _ h => h) (Or.inl ⟨by rfl, fun W1 hW1 => exec_load (ty := 23) (x := .tmp 3) rfl rfl (run_loadAt_blk _ _ _ _ _ _ (B3.out.call hW1) Try.underlying23 rfl (by first | kernel_rfl | exact info_num _))⟩) (S0) ?_
    refine anyG_take (i := 1) (v := _) rfl (by kernel_rfl) (by kernel_rfl) (by kernel_rfl) (by kernel_rfl) rfl (by kernel_rfl) (fun j hj => by first | (simp at hj; done) | (simp at hj; simp; omega)) (fun _ _ _ h => h) (Or.inl ⟨by rfl, fun W1 hW1 => by first | rfl | (go_simp; done) | (go_simp; with_reducible rfl)⟩) (S0) ?_
    refine anyG_take (i := 2) (v := _) rfl (by kernel_rfl) (by kernel_rfl) (by kernel_rfl) (by kernel_rfl) rfl (by kernel_rfl) (fun j hj => by first | (simp at hj; done) | (simp at hj; simp; omega)) (fun _ _ _ h => h) (Or.inl ⟨by rfl, fun W1 hW1 => by first | rfl | (go_simp; done) | (go_simp; with_reducible rfl)⟩) (S0) ?_
    refine anyG_take (i := 3) (v := _) rfl (by kernel_rfl) (by kernel_rfl) (by kernel_rfl) (by kernel_rfl) rfl (by kernel_rfl) (fun j hj => by first | (simp at hj; done) | (simp at hj; simp; omega)) (fun _ _ _ h => h) (Or.inl ⟨by rfl, fun W1 hW1 => by first | rfl | (go_simp; done) | (go_simp; with_reducible rfl)⟩) (S0) ?_
    refine anyG_take (i := 4) (v := .int .i64 p.window) rfl (by kernel_rfl) (by kernel_rfl) (by kernel_rfl) (by kernel_rfl) rfl (by kernel_rfl) (fun j hj => by first | (simp at hj; done) | (simp at hj; simp; omega)) (fun _ _ _ h => h) (Or.inl ⟨by rfl, fun W1 hW1 => by have c := (B3.out.call hW1).cellv (i := 4) (v := .int .i64 p.window) rfl; go_simp⟩) (S0) ?_
    refine anyG_take (i := 6) (v := _) rfl (by kernel_rfl) (by kernel_rfl) (by kernel_rfl) (by kernel_rfl) rfl (by kernel_rfl) (fun j hj => by first | (simp at hj; done) | (simp at hj; simp; omega)) (fun _ _ _ h => h) (Or.inl ⟨by rfl, fun W1 hW1 => by first | rfl | (go_simp; done) | (go_simp; with_reducible rfl)⟩) (S0) ?_
    refine anyG_take (i := 8) (v := _) rfl (by kernel_rfl) (by kernel_rfl) (by kernel_rfl) (by kernel_rfl) rfl (by kernel_rfl) (fun j hj => by first | (simp at hj; done) | (simp at hj; simp; omega)) (fun _ _ _ h => h) (Or.inl ⟨by rfl, fun W1 hW1 => by first | rfl | (go_simp; done) | (go_simp; with_reducible rfl)⟩) (S0) ?_
    refine anyG_two (i := 5) (j := 13) (by kernel_rfl) rfl (by rfl) rfl (by rfl) (fun Q2 hQ2 => ?_) (fun Q2 hQ2 => ?_)
    ·
      go_wp2_with (go_at_call 17; refine (HFr.out _).mono ?_; rintro e v5 ⟨rfl, rfl⟩)
      refine hQ2 _ _ (fun _ => S0) ?_
      clear hQ2 Q2
      refine anyG_two (i := 7) (j := 13) (by kernel_rfl) rfl (by rfl) rfl (by rfl) (fun Q2 hQ2 => ?_) (fun Q2 hQ2 => ?_)
      ·
        go_wp2_with (go_at_call 18; refine (HCu.out _ (slice_keep HS.out (E3.out.trans (S0.mono E3.out.size)))).mono ?_; rintro e v7 ⟨x7, rfl, ho, hb7⟩; obtain ⟨A7, n7, c7, rfl, hn7, hs7⟩ := ho.shape (fun _ => rfl); have hn7b : n7 ≤ 40 := (by rw [hn7]; exact HCl.out); have L7 := Lib.hid hs7; clear ho hs7 hn7; (try have bG := bG.call hb7))
        refine hQ2 _ _ (fun _ => S0.trans (hb7.mono S0.size)) ?_
        clear hQ2 Q2
        have S7 := S0.trans (hb7.mono S0.size)
        refine anyG_two (i := 9) (j := 13) (by kernel_rfl) rfl (by rfl) rfl (by rfl) (fun Q2 hQ2 => ?_) (fun Q2 hQ2 => ?_)
        ·
          go_wp2_with (go_at_call 11; refine (HO2.out _ A7 n7 c7 (by first | exact L7.out | exact slice_keep L7.out (by go_grown)) (slice_keep HS2.out (E3.out.trans (S7.mono E3.out.size))) (by omega)).mono ?_; rintro e v9 ⟨rfl, hb9⟩; (try have bG := bG.call hb9))
          refine hQ2 _ _ (fun _ => S7.trans (hb9.mono S7.size)) ?_
          clear hQ2 Q2
          have S9 := S7.trans (hb9.mono S7.size)
          refine anyG_take (i := 10) (v := _) rfl (by kernel_rfl) (by kernel_rfl) (by kernel_rfl) (by kernel_rfl) rfl (by kernel_rfl) (fun j hj => by first | (simp at hj; done) | (simp at hj; simp; omega)) (fun _ _ _ h => h) (Or.inl ⟨by rfl, fun W1 hW1 => by first | rfl | (go_simp; done) | (go_simp; with_reducible rfl)⟩) (S9) ?_
          refine anyG_take (i := 11) (v := _) rfl (by kernel_rfl) (by kernel_rfl) (by kernel_rfl) (by kernel_rfl) rfl (by kernel_rfl) (fun j hj => by first | (simp at hj; done) | (simp at hj; simp; omega)) (fun _ _ _ h => h) (Or.inl ⟨by rfl, fun W1 hW1 => by first | rfl | (go_simp; done) | (go_simp; with_reducible rfl)⟩) (S9) ?_
          refine anyG_take (i := 12) (v := _) rfl (by kernel_rfl) (by kernel_rfl) (by kernel_rfl) (by kernel_rfl) rfl (by kernel_rfl) (fun j hj => by first | (simp at hj; done) | (simp at hj; simp; omega)) (fun _ _ _ h => h) (Or.inl ⟨by rfl, fun W1 hW1 => by first | rfl | (go_simp; done) | (go_simp; with_reducible rfl)⟩) (S9) ?_
          refine anyG_one (k := 13) (by kernel_rfl) rfl (by rfl) (fun Q2 hQ2 => ?_)
          have nG := new_at (S := S9) (z28) 28
          obtain ⟨G, hG, bG, lG⟩ := nG
          go_wp2_with fail
          refine hQ2 _ _ (fun _ => S9.alloc S9.size _) ?_
          clear hQ2 Q2
          (try simp only [hG])
          clear hG
          have SG := S9.alloc S9.size (.cells (z28) 28)
          refine anyG_one (k := 14) (by kernel_rfl) rfl (by rfl) (fun Q2 hQ2 => ?_); go_wp2_with (refine wpList_store_row rfl 28 (.tmp 10) _ rfl _ _ _ _ rfl rfl (bG) (by rfl) (by kernel_rfl) (by simp [Value.oneCell']) ?_; intro uG huG hwG); refine hQ2 _ _ (fun _ => SG.trans (Only.below hwG lG SG.size)) ?_; clear hQ2 Q2
          have SsG := SG.trans (Only.below hwG lG SG.size)
          refine anyG_one (k := 15) (by kernel_rfl) rfl (by rfl) (fun Q2 hQ2 => ?_); go_wp2_with fail; refine hQ2 _ _ (fun _ => SsG) ?_; clear hQ2 Q2
          refine anyG_done (by kernel_rfl) ?_ _
          go_wp2_with (first | (refine Blk.load rfl 28 (.tmp 8) rfl g8 _ _ _ rfl (X3.out.call SsG) Try.underlying28 rfl (by kernel_rfl) ?_) | (refine Blk.load rfl 28 (.tmp 10) rfl _ _ _ _ rfl huG Try.underlying28 rfl (by kernel_rfl) ?_))
          go_ret
          exact ⟨rfl, E3.out.trans (SsG.mono E3.out.size)⟩
        ·
          skip
          have nG := new_at (S := S7) (z28) 28
          obtain ⟨G, hG, bG, lG⟩ := nG
          go_wp2_with fail
          refine hQ2 _ _ (fun _ => S7.alloc S7.size _) ?_
          clear hQ2 Q2
          (try simp only [hG])
          clear hG
          have SG := S7.alloc S7.size (.cells (z28) 28)
          refine anyG_one (k := 9) (by kernel_rfl) rfl (by rfl) (fun Q2 hQ2 => ?_); go_wp2_with (go_at_call 11; refine (HO2.out _ A7 n7 c7 (by first | exact L7.out | exact slice_keep L7.out (by go_grown)) (slice_keep HS2.out (E3.out.trans (SG.mono E3.out.size))) (by omega)).mono ?_; rintro e v9 ⟨rfl, hb9⟩; (try have bG := bG.call hb9)); refine hQ2 _ _ (fun _ => SG.trans (hb9.mono SG.size)) ?_; clear hQ2 Q2
          have S9 := SG.trans (hb9.mono SG.size)
          refine anyG_one (k := 10) (by kernel_rfl) rfl (by rfl) (fun Q2 hQ2 => ?_); go_wp2_with fail; refine hQ2 _ _ (fun _ => S9) ?_; clear hQ2 Q2
          refine anyG_take (i := 11) (v := _) rfl (by kernel_rfl) (by kernel_rfl) (by kernel_rfl) (by kernel_rfl) rfl (by kernel_rfl) (fun j hj => by first | (simp at hj; done) | (simp at hj; simp; omega)) (fun _ _ _ h => h) (Or.inl ⟨by rfl, fun W1 hW1 => by first | rfl | (go_simp; done) | (go_simp; with_reducible rfl)⟩) (S9) ?_
          refine anyG_take (i := 12) (v := _) rfl (by kernel_rfl) (by kernel_rfl) (by kernel_rfl) (by kernel_rfl) rfl (by kernel_rfl) (fun j hj => by first | (simp at hj; done) | (simp at hj; simp; omega)) (fun _ _ _ h => h) (Or.inl ⟨by rfl, fun W1 hW1 => by first | rfl | (go_simp; done) | (go_simp; with_reducible rfl)⟩) (S9) ?_
          refine anyG_one (k := 14) (by kernel_rfl) rfl (by rfl) (fun Q2 hQ2 => ?_); go_wp2_with (refine wpList_store_row rfl 28 (.tmp 10) _ rfl _ _ _ _ rfl rfl (bG) (by rfl) (by kernel_rfl) (by simp [Value.oneCell']) ?_; intro uG huG hwG); refine hQ2 _ _ (fun _ => S9.trans (Only.below hwG lG S9.size)) ?_; clear hQ2 Q2
          have SsG := S9.trans (Only.below hwG lG S9.size)
          refine anyG_one (k := 15) (by kernel_rfl) rfl (by rfl) (fun Q2 hQ2 => ?_); go_wp2_with fail; refine hQ2 _ _ (fun _ => SsG) ?_; clear hQ2 Q2
          refine anyG_done (by kernel_rfl) ?_ _
          go_wp2_with (first | (refine Blk.load rfl 28 (.tmp 8) rfl g8 _ _ _ rfl (X3.out.call SsG) Try.underlying28 rfl (by kernel_rfl) ?_) | (refine Blk.load rfl 28 (.tmp 10) rfl _ _ _ _ rfl huG Try.underlying28 rfl (by kernel_rfl) ?_))
          go_ret
          exact ⟨rfl, E3.out.trans (SsG.mono E3.out.size)⟩
      ·
        skip
        have nG := new_at (S := S0) (z28) 28
        obtain ⟨G, hG, bG, lG⟩ := nG
        go_wp2_with fail
        refine hQ2 _ _ (fun _ => S0.alloc S0.size _) ?_
        clear hQ2 Q2
        (try simp only [hG])
        clear hG
        have SG := S0.alloc S0.size (.cells (z28) 28)
        refine anyG_one (k := 7) (by kernel_rfl) rfl (by rfl) (fun Q2 hQ2 => ?_); go_wp2_with (go_at_call 18; refine (HCu.out _ (slice_keep HS.out (E3.out.trans (SG.mono E3.out.size)))).mono ?_; rintro e v7 ⟨x7, rfl, ho, hb7⟩; obtain ⟨A7, n7, c7, rfl, hn7, hs7⟩ := ho.shape (fun _ => rfl); have hn7b : n7 ≤ 40 := (by rw [hn7]; exact HCl.out); have L7 := Lib.hid hs7; clear ho hs7 hn7; (try have bG := bG.call hb7)); refine hQ2 _ _ (fun _ => SG.trans (hb7.mono SG.size)) ?_; clear hQ2 Q2
        have S7 := SG.trans (hb7.mono SG.size)
        refine anyG_one (k := 9) (by kernel_rfl) rfl (by rfl) (fun Q2 hQ2 => ?_); go_wp2_with (go_at_call 11; refine (HO2.out _ A7 n7 c7 (by first | exact L7.out | exact slice_keep L7.out (by go_grown)) (slice_keep HS2.out (E3.out.trans (S7.mono E3.out.size))) (by omega)).mono ?_; rintro e v9 ⟨rfl, hb9⟩; (try have bG := bG.call hb9)); refine hQ2 _ _ (fun _ => S7.trans (hb9.mono S7.size)) ?_; clear hQ2 Q2
        have S9 := S7.trans (hb9.mono S7.size)
        refine anyG_one (k := 10) (by kernel_rfl) rfl (by rfl) (fun Q2 hQ2 => ?_); go_wp2_with fail; refine hQ2 _ _ (fun _ => S9) ?_; clear hQ2 Q2
        refine anyG_take (i := 11) (v := _) rfl (by kernel_rfl) (by kernel_rfl) (by kernel_rfl) (by kernel_rfl) rfl (by kernel_rfl) (fun j hj => by first | (simp at hj; done) | (simp at hj; simp; omega)) (fun _ _ _ h => h) (Or.inl ⟨by rfl, fun W1 hW1 => by first | rfl | (go_simp; done) | (go_simp; with_reducible rfl)⟩) (S9) ?_
        refine anyG_take (i := 12) (v := _) rfl (by kernel_rfl) (by kernel_rfl) (by kernel_rfl) (by kernel_rfl) rfl (by kernel_rfl) (fun j hj => by first | (simp at hj; done) | (simp at hj; simp; omega)) (fun _ _ _ h => h) (Or.inl ⟨by rfl, fun W1 hW1 => by first | rfl | (go_simp; done) | (go_simp; with_reducible rfl)⟩) (S9) ?_
        refine anyG_one (k := 14) (by kernel_rfl) rfl (by rfl) (fun Q2 hQ2 => ?_); go_wp2_with (refine wpList_store_row rfl 28 (.tmp 10) _ rfl _ _ _ _ rfl rfl (bG) (by rfl) (by kernel_rfl) (by simp [Value.oneCell']) ?_; intro uG huG hwG); refine hQ2 _ _ (fun _ => S9.trans (Only.below hwG lG S9.size)) ?_; clear hQ2 Q2
        have SsG := S9.trans (Only.below hwG lG S9.size)
        refine anyG_one (k := 15) (by kernel_rfl) rfl (by rfl) (fun Q2 hQ2 => ?_); go_wp2_with fail; refine hQ2 _ _ (fun _ => SsG) ?_; clear hQ2 Q2
        refine anyG_done (by kernel_rfl) ?_ _
        go_wp2_with (first | (refine Blk.load rfl 28 (.tmp 8) rfl g8 _ _ _ rfl (X3.out.call SsG) Try.underlying28 rfl (by kernel_rfl) ?_) | (refine Blk.load rfl 28 (.tmp 10) rfl _ _ _ _ rfl huG Try.underlying28 rfl (by kernel_rfl) ?_))
        go_ret
        exact ⟨rfl, E3.out.trans (SsG.mono E3.out.size)⟩
    ·
      skip
      have nG := new_at (S := S0) (z28) 28
      obtain ⟨G, hG, bG, lG⟩ := nG
      go_wp2_with fail
      refine hQ2 _ _ (fun _ => S0.alloc S0.size _) ?_
      clear hQ2 Q2
      (try simp only [hG])
      clear hG
      have SG := S0.alloc S0.size (.cells (z28) 28)
      refine anyG_one (k := 5) (by kernel_rfl) rfl (by rfl) (fun Q2 hQ2 => ?_); go_wp2_with (go_at_call 17; refine (HFr.out _).mono ?_; rintro e v5 ⟨rfl, rfl⟩); refine hQ2 _ _ (fun _ => SG) ?_; clear hQ2 Q2
      refine anyG_one (k := 7) (by kernel_rfl) rfl (by rfl) (fun Q2 hQ2 => ?_); go_wp2_with (go_at_call 18; refine (HCu.out _ (slice_keep HS.out (E3.out.trans (SG.mono E3.out.size)))).mono ?_; rintro e v7 ⟨x7, rfl, ho, hb7⟩; obtain ⟨A7, n7, c7, rfl, hn7, hs7⟩ := ho.shape (fun _ => rfl); have hn7b : n7 ≤ 40 := (by rw [hn7]; exact HCl.out); have L7 := Lib.hid hs7; clear ho hs7 hn7; (try have bG := bG.call hb7)); refine hQ2 _ _ (fun _ => SG.trans (hb7.mono SG.size)) ?_; clear hQ2 Q2
      have S7 := SG.trans (hb7.mono SG.size)
      refine anyG_one (k := 9) (by kernel_rfl) rfl (by rfl) (fun Q2 hQ2 => ?_); go_wp2_with (go_at_call 11; refine (HO2.out _ A7 n7 c7 (by first | exact L7.out | exact slice_keep L7.out (by go_grown)) (slice_keep HS2.out (E3.out.trans (S7.mono E3.out.size))) (by omega)).mono ?_; rintro e v9 ⟨rfl, hb9⟩; (try have bG := bG.call hb9)); refine hQ2 _ _ (fun _ => S7.trans (hb9.mono S7.size)) ?_; clear hQ2 Q2
      have S9 := S7.trans (hb9.mono S7.size)
      refine anyG_one (k := 10) (by kernel_rfl) rfl (by rfl) (fun Q2 hQ2 => ?_); go_wp2_with fail; refine hQ2 _ _ (fun _ => S9) ?_; clear hQ2 Q2
      refine anyG_take (i := 11) (v := _) rfl (by kernel_rfl) (by kernel_rfl) (by kernel_rfl) (by kernel_rfl) rfl (by kernel_rfl) (fun j hj => by first | (simp at hj; done) | (simp at hj; simp; omega)) (fun _ _ _ h => h) (Or.inl ⟨by rfl, fun W1 hW1 => by first | rfl | (go_simp; done) | (go_simp; with_reducible rfl)⟩) (S9) ?_
      refine anyG_take (i := 12) (v := _) rfl (by kernel_rfl) (by kernel_rfl) (by kernel_rfl) (by kernel_rfl) rfl (by kernel_rfl) (fun j hj => by first | (simp at hj; done) | (simp at hj; simp; omega)) (fun _ _ _ h => h) (Or.inl ⟨by rfl, fun W1 hW1 => by first | rfl | (go_simp; done) | (go_simp; with_reducible rfl)⟩) (S9) ?_
      refine anyG_one (k := 14) (by kernel_rfl) rfl (by rfl) (fun Q2 hQ2 => ?_); go_wp2_with (refine wpList_store_row rfl 28 (.tmp 10) _ rfl _ _ _ _ rfl rfl (bG) (by rfl) (by kernel_rfl) (by simp [Value.oneCell']) ?_; intro uG huG hwG); refine hQ2 _ _ (fun _ => S9.trans (Only.below hwG lG S9.size)) ?_; clear hQ2 Q2
      have SsG := S9.trans (Only.below hwG lG S9.size)
      refine anyG_one (k := 15) (by kernel_rfl) rfl (by rfl) (fun Q2 hQ2 => ?_); go_wp2_with fail; refine hQ2 _ _ (fun _ => SsG) ?_; clear hQ2 Q2
      refine anyG_done (by kernel_rfl) ?_ _
      go_wp2_with (first | (refine Blk.load rfl 28 (.tmp 8) rfl g8 _ _ _ rfl (X3.out.call SsG) Try.underlying28 rfl (by kernel_rfl) ?_) | (refine Blk.load rfl 28 (.tmp 10) rfl _ _ _ _ rfl huG Try.underlying28 rfl (by kernel_rfl) ?_))
      go_ret
      exact ⟨rfl, E3.out.trans (SsG.mono E3.out.size)⟩
  · rw [polOk_false hk]
    go_wp2
    go_ret
    exact ⟨rfl, E2.out⟩
end Go.Proofs.Ytanphcdggmbomaa
