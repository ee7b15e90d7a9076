/- decide.Of: the walk. -/
import Derived.Test.YtanphcdggmbomaaDec4
namespace Go.Proofs.Ytanphcdggmbomaa
open Go.RowKit
set_option linter.unusedSimpArgs false
set_option linter.unusedVariables false
set_option maxHeartbeats 8000000
set_option maxRecDepth 100000
theorem decide_Of (p : Pol) (A : Option Addr) (len cap : Nat) (l : List Smp) (B : Option Addr) (len2 cap2 : Nat) (past : List Adv) (w : World) (hp : p.fit) (hs : SmpsAre w A len cap l) (hg : ∀ x ∈ l, x.good) (hn : len ≤ 200) (hs2 : AdvsAre w B len2 cap2 past) (hn2 : len2 ≤ 1000) :
    Calls Try.prog 11 #[(.agg #[.int .i64 p.min, .int .i64 p.max, .int .i64 p.target, .int .i64 p.tol, .int .i64 p.window, .int .i64 p.hold]), .slice A len cap, .slice B len2 cap2] w fun e w' => e = .returned (.tuple #[.agg (ofq p l past).cells.toArray, .int .i64 (ofe p l)]) ∧ Below w.heap.size w w' := by
  have HS := Lib.hid hs
  have HS2 := Lib.hid hs2
  have HL := Lib.hid hs.1
  have HG := Lib.hid hg
  have HP := Lib.hid hp
  have HT := latestq_I64 hg
  have D0 := Lib.hid (DI.start w p)
  clear hs hs2 hg hp
  by_cases hk : p.okP
  · have HC := Lib.hid (fun W => policy_Check p W)
    rw [polErr_ok hk] at HC
    by_cases h0 : len = 0
    · have HQ := Lib.hid (ofq_nil (past := past) hk (show l.length = 0 by rw [HL.out]; exact h0))
      subst h0
      clear hk
      go_enter Try.func11, Try.ntmps11
      go_wp2_with fail
      refine (HC.out _).mono ?_
      rintro e v1 ⟨rfl, hb1⟩
      have D1 := Lib.hid (D0.out.call hb1)
      clear hb1
      go_wp2_with fail
      refine (decide_latest_no cap A _).mono ?_
      rintro e v2 ⟨rfl, rfl⟩
      go_wp2_with (refine wpList_store_row rfl 28 (.tmp 6) (.tmp 31) rfl (w.heap.size + 1) _ _ _ rfl rfl D1.out.2.1 (by rfl) (by kernel_rfl) (by simp [Value.oneCell']) ?_; intro w9 hb9 hg9)
      refine bodyPost_ret (results_row_tmp rfl _ _ (w.heap.size + 1) _ _ _ rfl hb9 Try.underlying28 rfl (by kernel_rfl)) rfl ⟨by rw [HQ.out.1, HQ.out.2]; rfl, D1.out.2.2.trans (Only.below hg9 (by omega) D1.out.2.2.size)⟩
    · have HQ := Lib.hid (ofq_ok (past := past) hk (show l.length ≠ 0 by rw [HL.out]; exact h0))
      have h1 : 1 ≤ len := by omega
      have HDq := Lib.hid (show decq p l past = (let tick := latestq l; let load := meanq (valq (cutq l (fromq tick p.window) tick)); let now := nowq p past; let op := openq p load now; let want := boundq p op; let th := boundq p (steadyq p tick want past).1; (⟨tick, load, want, th, whyq p (steadyq p tick want past).2 op now th⟩ : Adv)) from rfl)
      have HLa := Lib.hid (fun W hW => decide_latest A len cap l W hW h1 (by omega))
      have HAt := Lib.hid (fun W hW => window_At A len cap l (latestq l) p.window W hW HG.out hn HT HP.out.2.2.2.2.1)
      have hM := statq_mean (cutq l (fromq (latestq l) p.window) (latestq l))
      have hMI : I64 (meanq (valq (cutq l (fromq (latestq l) p.window) (latestq l)))) := by
        have := mean_least (l := valq (cutq l (fromq (latestq l) p.window) (latestq l))) (fun x hx => by have := valq_bd (cutq_good HG.out _ _) x hx; unfold I64; omega) (fun x hx => (valq_bd (cutq_good HG.out _ _) x hx).1) 0
        unfold I64; omega
      dsimp only at HDq
      rw [← hM] at HDq hMI
      generalize statq (cutq l (fromq (latestq l) p.window) (latestq l)) = ST at *
      generalize latestq l = T at *
      have HNo := Lib.hid (fun W hW => decide_Now p B len2 cap2 past W hW hn2)
      generalize nowq p past = NW at *
      have HWa := Lib.hid (fun W => control_Want p ST.mean W HP.out hMI)
      have HNe := Lib.hid (fun W => control_Near p ST.mean NW W HP.out hMI)
      have HRa := Lib.hid (fun W => control_Raw p ST.mean NW W HP.out hMI)
      rw [raw_open2] at HRa
      have HOp := Lib.hid (show openq p ST.mean NW = if nearq p ST.mean NW then NW else wantq p ST.mean from rfl)
      generalize openq p ST.mean NW = OP at *
      generalize boundq p OP = WT at *
      have HSt := Lib.hid (fun W hW => steady_Of p T WT B len2 cap2 past W HP.out hW hn2 HT)
      generalize steadyq p T WT past = SQ at *
      obtain ⟨sn, sh⟩ := SQ
      dsimp only at HSt HDq
      have HBo := Lib.hid (fun W => control_Bound p sn W)
      generalize boundq p sn = TH at *
      have HWh := Lib.hid (fun W => decide_why p sh OP NW TH W)
      generalize whyq p sh OP NW TH = WY at *
      clear hM h0 hk HT hMI
      go_enter Try.func11, Try.ntmps11
      go_wp2_with fail
      refine (HC.out _).mono ?_
      rintro e v1 ⟨rfl, hb1⟩
      have D1 := Lib.hid (D0.out.call hb1)
      clear hb1
      go_wp2_with fail
      refine (HLa.out _ (slice_keep HS.out D1.out.2.2)).mono ?_
      rintro e v2 ⟨rfl, hb2⟩
      have D2 := Lib.hid (D1.out.call hb2)
      clear hb2
      go_wp2
      refine wp_region_any (by kernel_rfl) ?_; change wpAny _ _ _ _ _ _ _ (World.drew v2); refine any_of_anyG (late := fun _ => false) (S := fun wS => Below v2.heap.size v2 wS) _ _ _ _ ?_
      have S0 := (Below.refl v2.heap.size v2).drew
      refine anyG_take (i := 0) (v := _) rfl (by kernel_rfl) (by kernel_rfl) (by kernel_rfl) (by kernel_rfl) rfl (by kernel_rfl) (fun j hj => by first | (simp at hj; done) | (simp at hj; simp; omega)) (fun _ _ _ h => h) (Or.inl ⟨by rfl, fun W1 hW1 => by first | rfl | (go_simp; done) | (go_simp; with_reducible rfl)⟩) (S0) ?_
      refine anyG_take (i := 1) (v := _) rfl (by kernel_rfl) (by kernel_rfl) (by kernel_rfl) (by kernel_rfl) rfl (by kernel_rfl) (fun j hj => by first | (simp at hj; done) | (simp at hj; simp; omega)) (fun _ _ _ h => h) (Or.inl ⟨by rfl, fun W1 hW1 => by first | rfl | (go_simp; done) | (go_simp; with_reducible rfl)⟩) (S0) ?_
      refine anyG_take (i := 2) (v := _) rfl (by kernel_rfl) (by kernel_rfl) (by kernel_rfl) (by kernel_rfl) rfl (by kernel_rfl) (fun j hj => by first | (simp at hj; done) | (simp at hj; simp; omega)) (fun _ _ _ h => h) (Or.inl ⟨by rfl, fun W1 hW1 => by first | rfl | (go_simp; done) | (go_simp; with_reducible rfl)⟩) (S0) ?_
      refine anyG_take (i := 3) (v := .int .i64 p.window) rfl (by kernel_rfl) (by kernel_rfl) (by kernel_rfl) (by kernel_rfl) rfl (by kernel_rfl) (fun j hj => by first | (simp at hj; done) | (simp at hj; simp; omega)) (fun _ _ _ h => h) (Or.inl ⟨by rfl, fun W1 hW1 => by have c := (D2.out.1.call hW1).cellv (i := 4) (v := .int .i64 p.window) rfl; go_simp⟩) (S0) ?_
      refine anyG_take (i := 6) (v := _) rfl (by kernel_rfl) (by kernel_rfl) (by kernel_rfl) (by kernel_rfl) rfl (by kernel_rfl) (fun j hj => by first | (simp at hj; done) | (simp at hj; simp; omega)) (fun _ _ _ h => h) (Or.inl ⟨by rfl, fun W1 hW1 => exec_load (ty := 23) (x := .tmp 3) rfl rfl (run_loadAt_blk _ _ _ _ _ _ (D2.out.1.call hW1) Try.underlying23 rfl (by first | kernel_rfl | exact info_num _))⟩) (S0) ?_
      refine anyG_take (i := 7) (v := _) rfl (by kernel_rfl) (by kernel_rfl) (by kernel_rfl) (by kernel_rfl) rfl (by kernel_rfl) (fun j hj => by first | (simp at hj; done) | (simp at hj; simp; omega)) (fun _ _ _ h => h) (Or.inl ⟨by rfl, fun W1 hW1 => by first | rfl | (go_simp; done) | (go_simp; with_reducible rfl)⟩) (S0) ?_
      refine anyG_one (k := 4) (by kernel_rfl) rfl (by rfl) (fun Q2 hQ2 => ?_); go_wp2_with (go_at_call 36; refine (HAt.out _ (slice_keep HS.out (D2.out.call S0).2.2)).mono ?_; rintro e v3 ⟨rfl, hb3⟩); refine hQ2 _ _ (fun _ => S0.trans (hb3.mono S0.size)) ?_; clear hQ2 Q2
      have S3 := S0.trans (hb3.mono S0.size)
      refine anyG_take (i := 5) (v := .int .i64 ST.mean) rfl (by kernel_rfl) (by kernel_rfl) (by kernel_rfl) (by kernel_rfl) rfl (by kernel_rfl) (fun j hj => by first | (simp at hj; done) | (simp at hj; simp; omega)) (fun _ _ _ h => h) (Or.inl ⟨by rfl, fun W1 hW1 => by first | kernel_rfl | (go_simp; done)⟩) (S3) ?_
      refine anyG_one (k := 8) (by kernel_rfl) rfl (by rfl) (fun Q2 hQ2 => ?_); go_wp2_with (go_at_call 13; refine (HNo.out _ (slice_keep HS2.out (D2.out.call S3).2.2)).mono ?_; rintro e v4 ⟨rfl, hb4⟩); refine hQ2 _ _ (fun _ => S3.trans (hb4.mono S3.size)) ?_; clear hQ2 Q2
      have S4 := S3.trans (hb4.mono S3.size)
      refine anyG_one (k := 9) (by kernel_rfl) rfl (by rfl) (fun Q2 hQ2 => ?_); go_wp2_with fail; refine hQ2 _ _ (fun _ => S4) ?_; clear hQ2 Q2
      refine anyG_one (k := 10) (by kernel_rfl) rfl (by rfl) (fun Q2 hQ2 => ?_); go_wp2_with fail; refine hQ2 _ _ (fun _ => S4) ?_; clear hQ2 Q2
      refine anyG_done (by kernel_rfl) ?_ _
      have D4 := Lib.hid (D2.out.call S4)
      go_wp2_with (refine Blk.load rfl 23 (.tmp 3) rfl w.heap.size _ _ _ rfl D4.out.1 Try.underlying23 rfl (by kernel_rfl) ?_)
      refine (HWa.out _).mono ?_
      rintro e v5 ⟨rfl, hb5⟩
      have D5 := Lib.hid (D4.out.call hb5)
      clear hb5
      go_wp2_with (refine Blk.load rfl 23 (.tmp 3) rfl w.heap.size _ _ _ rfl D5.out.1 Try.underlying23 rfl (by kernel_rfl) ?_)
      refine (HNe.out _).mono ?_
      rintro e v6 ⟨rfl, hb6⟩
      have D6 := Lib.hid (D5.out.call hb6)
      clear hb6
      cases hnr : nearq p ST.mean NW
      all_goals
        rw [hnr] at HOp
        clear hnr
        simp only [Bool.false_eq_true, if_false, if_true] at HOp
        go_wp2_with (refine Blk.load rfl 23 (.tmp 3) rfl w.heap.size _ _ _ rfl D6.out.1 Try.underlying23 rfl (by kernel_rfl) ?_)
        refine (HRa.out _).mono ?_
        rintro e v7 ⟨rfl, hb7⟩
        have D7 := Lib.hid (D6.out.call hb7)
        clear hb7
        go_wp2_with (refine Blk.load rfl 23 (.tmp 3) rfl w.heap.size _ _ _ rfl D7.out.1 Try.underlying23 rfl (by kernel_rfl) ?_)
        refine (HSt.out _ (slice_keep HS2.out D7.out.2.2)).mono ?_
        rintro e v8 ⟨rfl, hb8⟩
        have D8 := Lib.hid (D7.out.call hb8)
        clear hb8
        go_wp2_with (refine Blk.load rfl 23 (.tmp 3) rfl w.heap.size _ _ _ rfl D8.out.1 Try.underlying23 rfl (by kernel_rfl) ?_)
        refine (HBo.out _).mono ?_
        rintro e v9 ⟨rfl, hb9⟩
        have D9 := Lib.hid (D8.out.call hb9)
        clear hb9
        first | (rw [HOp.out] at HWh) | skip
        go_wp2_with (refine Blk.load rfl 23 (.tmp 3) rfl w.heap.size _ _ _ rfl D9.out.1 Try.underlying23 rfl (by kernel_rfl) ?_)
        refine (HWh.out _).mono ?_
        rintro e v10 ⟨rfl, hb10⟩
        have D10 := Lib.hid (D9.out.call hb10)
        clear hb10
        go_wp2_with (refine wpList_store_row rfl 28 (.tmp 6) (.tmp 74) rfl (w.heap.size + 1) _ _ _ rfl rfl D10.out.2.1 (by rfl) (by kernel_rfl) (by simp [Value.oneCell']) ?_; intro w9 hb9 hg9)
        refine bodyPost_ret (results_row_tmp rfl _ _ (w.heap.size + 1) _ _ _ rfl hb9 Try.underlying28 rfl (by kernel_rfl)) rfl ⟨by rw [HQ.out.1, HQ.out.2, HDq.out]; rfl, D10.out.2.2.trans (Only.below hg9 (by omega) D10.out.2.2.size)⟩
  · have HC := Lib.hid (fun W => policy_Check p W)
    rw [polErr_no hk] at HC
    have HQ := Lib.hid (ofq_no (l := l) (past := past) hk)
    clear hk HT
    go_enter Try.func11, Try.ntmps11
    go_wp2_with fail
    refine (HC.out _).mono ?_
    rintro e v1 ⟨rfl, hb1⟩
    have D1 := Lib.hid (D0.out.call hb1)
    clear hb1
    go_wp2_with (refine wpList_store_row rfl 28 (.tmp 6) (.tmp 22) rfl (w.heap.size + 1) _ _ _ rfl rfl D1.out.2.1 (by rfl) (by kernel_rfl) (by simp [Value.oneCell']) ?_; intro w9 hb9 hg9)
    refine bodyPost_ret (results_row_tmp rfl _ _ (w.heap.size + 1) _ _ _ rfl hb9 Try.underlying28 rfl (by kernel_rfl)) rfl ⟨by rw [HQ.out.1, HQ.out.2]; rfl, D1.out.2.2.trans (Only.below hg9 (by omega) D1.out.2.2.size)⟩
end Go.Proofs.Ytanphcdggmbomaa
