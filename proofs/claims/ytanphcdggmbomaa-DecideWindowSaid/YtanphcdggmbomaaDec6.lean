/- flywheelref16.Of: the walk. -/
import Derived.Test.YtanphcdggmbomaaDec4
namespace Go.Proofs.Ytanphcdggmbomaa
open Go.RowKit
set_option linter.unusedSimpArgs false
set_option linter.unusedVariables false
set_option maxHeartbeats 8000000
set_option maxRecDepth 100000
theorem ref16_Of (p : Pol) (A : Option Addr) (len cap : Nat) (l : List Smp) (B : Option Addr) (len2 cap2 : Nat) (past : List Adv) (w : World) (hp : p.fit) (hs : SmpsAre w A len cap l) (hg : ∀ x ∈ l, x.good) (hn : len ≤ 200) (hs2 : AdvsAre w B len2 cap2 past) (hn2 : len2 ≤ 1000) :
    Calls Try.prog 12 #[(.agg #[.int .i64 p.min, .int .i64 p.max, .int .i64 p.target, .int .i64 p.tol, .int .i64 p.window, .int .i64 p.hold]), .slice A len cap, .slice B len2 cap2] w fun e w' => e = .returned (.tuple #[.agg (ofq p l past).cells.toArray, .int .i64 (ofe p l)]) ∧ Below w.heap.size w w' := by
  have HS := Lib.hid hs
  have HS2 := Lib.hid hs2
  have HL := Lib.hid hs.1
  have HG := Lib.hid hg
  have HP := Lib.hid hp
  have HT := latestq_I64 hg
  have D0 := Lib.hid (DI.start w p)
  clear hs hs2 hg hp
  by_cases hk : p.okP
  · have HC := Lib.hid (fun W => ref_Right p W)
    rw [polOk_true hk] at HC
    by_cases h0 : len = 0
    · have HQ := Lib.hid (ofq_nil (past := past) hk (show l.length = 0 by rw [HL.out]; exact h0))
      have d0 : ((len : Int) == 0) = true := by simp; omega
      clear hk h0
      go_enter Try.func12, Try.ntmps12
      go_wp2_with fail
      refine (HC.out _).mono ?_
      rintro e v1 ⟨rfl, hb1⟩
      have D1 := Lib.hid (D0.out.call hb1)
      clear hb1
      go_wp2_with (refine wpList_store_row rfl 28 (.tmp 6) (.tmp 23) rfl (w.heap.size + 1) _ _ _ rfl rfl D1.out.2.1 (by rfl) (by kernel_rfl) (by simp [Value.oneCell']) ?_; intro w9 hb9 hg9)
      refine bodyPost_ret (results_row_tmp rfl _ _ (w.heap.size + 1) _ _ _ rfl hb9 Try.underlying28 rfl (by kernel_rfl)) rfl ⟨by rw [HQ.out.1, HQ.out.2]; rfl, D1.out.2.2.trans (Only.below hg9 (by omega) D1.out.2.2.size)⟩
    · have HQ := Lib.hid (ofq_ok (past := past) hk (show l.length ≠ 0 by rw [HL.out]; exact h0))
      have d0 : ((len : Int) == 0) = false := by simp; omega
      have h1 : 1 ≤ len := by omega
      have HDq := Lib.hid (show decq p l past = (let tick := latestq l; let load := meanq (valq (cutq l (fromq tick p.window) tick)); let now := nowq p past; let op := openq p load now; let want := boundq p op; let th := boundq p (steadyq p tick want past).1; (⟨tick, load, want, th, whyq p (steadyq p tick want past).2 op now th⟩ : Adv)) from rfl)
      have HLa := Lib.hid (fun W hW => ref16_Latest A len cap l W hW h1 (by omega))
      have hMI : I64 (meanq (valq (cutq l (fromq (latestq l) p.window) (latestq l)))) := by
        have := mean_least (l := valq (cutq l (fromq (latestq l) p.window) (latestq l))) (fun x hx => by have := valq_bd (cutq_good HG.out _ _) x hx; unfold I64; omega) (fun x hx => (valq_bd (cutq_good HG.out _ _) x hx).1) 0
        unfold I64; omega
      dsimp only at HDq
      generalize latestq l = T at *
      have HFr := Lib.hid (fun W => ref09_From T p.window W HT HP.out.2.2.2.2.1)
      have HCu := Lib.hid (fun W hW => ref09_Cut A len cap l (fromq T p.window) T W hW (by omega))
      have HMe := Lib.hid (fun W A n c hW hn => ref16_Mean A n c (cutq l (fromq T p.window) T) W hW (cutq_good HG.out _ _) hn)
      have HCl := Lib.hid (show (cutq l (fromq T p.window) T).length ≤ 200 by have := cutq_len l (fromq T p.window) T; have := HL.out; omega)
      generalize fromq T p.window = FR at *
      generalize meanq (valq (cutq l FR T)) = LD at *
      have HNo := Lib.hid (fun W hW => ref16_Now p B len2 cap2 past W hW hn2)
      generalize nowq p past = NW at *
      have HOp := Lib.hid (fun W => ref_Open p LD NW W HP.out hMI)
      generalize openq p LD NW = OP at *
      have HB1 := Lib.hid (fun W => ref_Bound p OP W)
      generalize boundq p OP = WT at *
      have HSt := Lib.hid (fun W hW => ref15_Of p T WT B len2 cap2 past W HP.out hW hn2 HT)
      generalize steadyq p T WT past = SQ at *
      obtain ⟨sn, sh⟩ := SQ
      dsimp only at HSt HDq
      have HBo := Lib.hid (fun W => ref_Bound p sn W)
      generalize boundq p sn = TH at *
      have HWh := Lib.hid (fun W => ref16_Why p sh OP NW TH W)
      generalize whyq p sh OP NW TH = WY at *
      clear h0 hk HT hMI
      go_enter Try.func12, Try.ntmps12
      go_wp2_with fail
      refine (HC.out _).mono ?_
      rintro e v1 ⟨rfl, hb1⟩
      have D1 := Lib.hid (D0.out.call hb1)
      clear hb1
      have c4 := D1.out.1.cellv (i := 4) (v := .int .i64 p.window) rfl
      go_wp2_with fail
      refine (HLa.out _ (slice_keep HS.out D1.out.2.2)).mono ?_
      rintro e v2 ⟨rfl, rfl⟩
      go_wp2_with fail
      refine (HFr.out _).mono ?_
      rintro e v2 ⟨rfl, rfl⟩
      clear c4
      go_wp2_with fail
      refine (HCu.out _ (slice_keep HS.out D1.out.2.2)).mono ?_
      rintro e v2 ⟨x2, rfl, ho, hb2⟩
      obtain ⟨A2, n2, c2, rfl, hn2', hsl2⟩ := ho.shape (fun _ => rfl)
      have hn2b : n2 ≤ 200 := by rw [hn2']; exact HCl.out
      have S2 := Lib.hid hsl2
      have D2 := Lib.hid (D1.out.call hb2)
      clear ho hsl2 hb2 hn2'
      go_wp2_with fail
      refine (HMe.out _ A2 n2 c2 S2.out hn2b).mono ?_
      rintro e v3 ⟨rfl, hb3⟩
      have D3 := Lib.hid (D2.out.call hb3)
      clear hb3
      go_wp2_with (refine Blk.load rfl 23 (.tmp 3) rfl w.heap.size _ _ _ rfl D3.out.1 Try.underlying23 rfl (by kernel_rfl) ?_)
      refine (HNo.out _ (slice_keep HS2.out D3.out.2.2)).mono ?_
      rintro e v4 ⟨rfl, hb4⟩
      have D4 := Lib.hid (D3.out.call hb4)
      clear hb4
      go_wp2_with (refine Blk.load rfl 23 (.tmp 3) rfl w.heap.size _ _ _ rfl D4.out.1 Try.underlying23 rfl (by kernel_rfl) ?_)
      refine (HOp.out _).mono ?_
      rintro e v5 ⟨rfl, hb5⟩
      have D5 := Lib.hid (D4.out.call hb5)
      clear hb5
      go_wp2_with (refine Blk.load rfl 23 (.tmp 3) rfl w.heap.size _ _ _ rfl D5.out.1 Try.underlying23 rfl (by kernel_rfl) ?_)
      refine (HB1.out _).mono ?_
      rintro e v6 ⟨rfl, hb6⟩
      have D6 := Lib.hid (D5.out.call hb6)
      clear hb6
      go_wp2_with (refine Blk.load rfl 23 (.tmp 3) rfl w.heap.size _ _ _ rfl D6.out.1 Try.underlying23 rfl (by kernel_rfl) ?_)
      refine (HSt.out _ (slice_keep HS2.out D6.out.2.2)).mono ?_
      rintro e v7 ⟨rfl, hb7⟩
      have D7 := Lib.hid (D6.out.call hb7)
      clear hb7
      go_wp2_with (refine Blk.load rfl 23 (.tmp 3) rfl w.heap.size _ _ _ rfl D7.out.1 Try.underlying23 rfl (by kernel_rfl) ?_)
      refine (HBo.out _).mono ?_
      rintro e v8 ⟨rfl, hb8⟩
      have D8 := Lib.hid (D7.out.call hb8)
      clear hb8
      go_wp2_with (refine Blk.load rfl 23 (.tmp 3) rfl w.heap.size _ _ _ rfl D8.out.1 Try.underlying23 rfl (by kernel_rfl) ?_)
      refine (HWh.out _).mono ?_
      rintro e v9 ⟨rfl, hb9⟩
      have D9 := Lib.hid (D8.out.call hb9)
      clear hb9
      go_wp2_with (refine wpList_store_row rfl 28 (.tmp 6) (.tmp 65) rfl (w.heap.size + 1) _ _ _ rfl rfl D9.out.2.1 (by rfl) (by kernel_rfl) (by simp [Value.oneCell']) ?_; intro w9 hb9 hg9)
      refine bodyPost_ret (results_row_tmp rfl _ _ (w.heap.size + 1) _ _ _ rfl hb9 Try.underlying28 rfl (by kernel_rfl)) rfl ⟨by rw [HQ.out.1, HQ.out.2, HDq.out]; rfl, D9.out.2.2.trans (Only.below hg9 (by omega) D9.out.2.2.size)⟩
  · have HC := Lib.hid (fun W => ref_Right p W)
    rw [polOk_false hk] at HC
    have HQ := Lib.hid (ofq_no (l := l) (past := past) hk)
    clear hk HT
    go_enter Try.func12, Try.ntmps12
    go_wp2_with fail
    refine (HC.out _).mono ?_
    rintro e v1 ⟨rfl, hb1⟩
    have D1 := Lib.hid (D0.out.call hb1)
    clear hb1
    go_wp2_with (refine wpList_store_row rfl 28 (.tmp 6) (.tmp 19) rfl (w.heap.size + 1) _ _ _ rfl rfl D1.out.2.1 (by rfl) (by kernel_rfl) (by simp [Value.oneCell']) ?_; intro w9 hb9 hg9)
    refine bodyPost_ret (results_row_tmp rfl _ _ (w.heap.size + 1) _ _ _ rfl hb9 Try.underlying28 rfl (by kernel_rfl)) rfl ⟨by rw [HQ.out.1, HQ.out.2]; rfl, D1.out.2.2.trans (Only.below hg9 (by omega) D1.out.2.2.size)⟩
end Go.Proofs.Ytanphcdggmbomaa
