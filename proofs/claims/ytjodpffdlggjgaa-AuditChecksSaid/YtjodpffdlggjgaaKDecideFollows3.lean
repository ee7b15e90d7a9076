/- Several texts in one. -/
import Derived.Test.YtjodpffdlggjgaaRegG
import Derived.Test.YtjodpffdlggjgaaEqs
import Derived.Test.YtjodpffdlggjgaaSlib3
import Derived.Test.YtjodpffdlggjgaaSerP
import Derived.BigQuiet
import Derived.Test.YtjodpffdlggjgaaKDecideFollows2
/- flywheelref16.Of: the walk. -/
namespace Go.Proofs.Ytjodpffdlggjgaa
open Go.RowKit
set_option linter.unusedSimpArgs false
set_option linter.unusedVariables false
set_option maxHeartbeats 8000000
set_option maxRecDepth 100000
theorem ref16_Of (p : Pol) (A : Option Addr) (len cap : Nat) (l : List Smp) (B : Option Addr) (len2 cap2 : Nat) (past : List Adv) (w : World) (hp : p.fit) (hs : SmpsAre w A len cap l) (hg : ∀ x ∈ l, x.good) (hn : len ≤ 200) (hs2 : AdvsAre w B len2 cap2 past) (hn2 : len2 ≤ 1000) :
    Calls Try.prog 66 #[(.agg #[.int .i64 p.min, .int .i64 p.max, .int .i64 p.target, .int .i64 p.tol, .int .i64 p.window, .int .i64 p.hold]), .slice A len cap, .slice B len2 cap2] w fun e w' => e = .returned (.tuple #[.agg (ofq p l past).cells.toArray, .int .i64 (ofe p l)]) ∧ Below w.heap.size w w' := by
  have HS := Lib.hid hs
  have HS2 := Lib.hid hs2
  have HL := Lib.hid hs.1
  have HG := Lib.hid hg
  have HP := Lib.hid hp
  have HT := latestq_I64 hg
  have D0 := Lib.hid (DI.start w p)
  clear hs hs2 hg hp
  by_cases hk : p.okP
  · have HC := Lib.hid (fun W => ref_Right p W)
    rw [polOk_true hk] at HC
    by_cases h0 : len = 0
    · have HQ := Lib.hid (ofq_nil (past := past) hk (show l.length = 0 by rw [HL.out]; exact h0))
      have d0 : ((len : Int) == 0) = true := by simp; omega
      clear hk h0
      go_enter Try.func66, Try.ntmps66
      go_wp2_with fail
      refine (HC.out _).mono ?_
      rintro e v1 ⟨rfl, hb1⟩
      have D1 := Lib.hid (D0.out.call hb1)
      clear hb1
      go_wp2_with (refine wpList_store_row rfl 26 (.tmp 6) (.tmp 23) rfl (w.heap.size + 1) _ _ _ rfl rfl D1.out.2.1 (by rfl) (by kernel_rfl) (by simp [Value.oneCell']) ?_; intro w9 hb9 hg9)
      refine bodyPost_ret (results_row_tmp rfl _ _ (w.heap.size + 1) _ _ _ rfl hb9 Try.underlying26 rfl (by kernel_rfl)) rfl ⟨by rw [HQ.out.1, HQ.out.2]; rfl, D1.out.2.2.trans (Only.below hg9 (by omega) D1.out.2.2.size)⟩
    · have HQ := Lib.hid (ofq_ok (past := past) hk (show l.length ≠ 0 by rw [HL.out]; exact h0))
      have d0 : ((len : Int) == 0) = false := by simp; omega
      have h1 : 1 ≤ len := by omega
      have HDq := Lib.hid (show decq p l past = (let tick := latestq l; let load := meanq (valq (cutq l (fromq tick p.window) tick)); let now := nowq p past; let op := openq p load now; let want := boundq p op; let th := boundq p (steadyq p tick want past).1; (⟨tick, load, want, th, whyq p (steadyq p tick want past).2 op now th⟩ : Adv)) from rfl)
      have HLa := Lib.hid (fun W hW => ref16_Latest A len cap l W hW h1 (by omega))
      have hMI : I64 (meanq (valq (cutq l (fromq (latestq l) p.window) (latestq l)))) := by
        have := mean_least (l := valq (cutq l (fromq (latestq l) p.window) (latestq l))) (fun x hx => by have := valq_bd (cutq_good HG.out _ _) x hx; unfold I64; omega) (fun x hx => (valq_bd (cutq_good HG.out _ _) x hx).1) 0
        unfold I64; omega
      dsimp only at HDq
      generalize latestq l = T at *
      have HFr := Lib.hid (fun W => ref09_From T p.window W HT HP.out.2.2.2.2.1)
      have HCu := Lib.hid (fun W hW => ref09_Cut A len cap l (fromq T p.window) T W hW (by omega))
      have HMe := Lib.hid (fun W A n c hW hn => ref16_Mean A n c (cutq l (fromq T p.window) T) W hW (cutq_good HG.out _ _) hn)
      have HCl := Lib.hid (show (cutq l (fromq T p.window) T).length ≤ 200 by have := cutq_len l (fromq T p.window) T; have := HL.out; omega)
      generalize fromq T p.window = FR at *
      generalize meanq (valq (cutq l FR T)) = LD at *
      have HNo := Lib.hid (fun W hW => ref16_Now p B len2 cap2 past W hW hn2)
      generalize nowq p past = NW at *
      have HOp := Lib.hid (fun W => ref_Open p LD NW W HP.out hMI)
      generalize openq p LD NW = OP at *
      have HB1 := Lib.hid (fun W => ref_Bound p OP W)
      generalize boundq p OP = WT at *
      have HSt := Lib.hid (fun W hW => ref15_Of p T WT B len2 cap2 past W HP.out hW hn2 HT)
      generalize steadyq p T WT past = SQ at *
      obtain ⟨sn, sh⟩ := SQ
      dsimp only at HSt HDq
      have HBo := Lib.hid (fun W => ref_Bound p sn W)
      generalize boundq p sn = TH at *
      have HWh := Lib.hid (fun W => ref16_Why p sh OP NW TH W)
      generalize whyq p sh OP NW TH = WY at *
      clear h0 hk HT hMI
      go_enter Try.func66, Try.ntmps66
      go_wp2_with fail
      refine (HC.out _).mono ?_
      rintro e v1 ⟨rfl, hb1⟩
      have D1 := Lib.hid (D0.out.call hb1)
      clear hb1
      have c4 := D1.out.1.cellv (i := 4) (v := .int .i64 p.window) rfl
      go_wp2_with fail
      refine (HLa.out _ (slice_keep HS.out D1.out.2.2)).mono ?_
      rintro e v2 ⟨rfl, rfl⟩
      go_wp2_with fail
      refine (HFr.out _).mono ?_
      rintro e v2 ⟨rfl, rfl⟩
      clear c4
      go_wp2_with fail
      refine (HCu.out _ (slice_keep HS.out D1.out.2.2)).mono ?_
      rintro e v2 ⟨x2, rfl, ho, hb2⟩
      obtain ⟨A2, n2, c2, rfl, hn2', hsl2⟩ := ho.shape (fun _ => rfl)
      have hn2b : n2 ≤ 200 := by rw [hn2']; exact HCl.out
      have S2 := Lib.hid hsl2
      have D2 := Lib.hid (D1.out.call hb2)
      clear ho hsl2 hb2 hn2'
      go_wp2_with fail
      refine (HMe.out _ A2 n2 c2 S2.out hn2b).mono ?_
      rintro e v3 ⟨rfl, hb3⟩
      have D3 := Lib.hid (D2.out.call hb3)
      clear hb3
      go_wp2_with (refine Blk.load rfl 23 (.tmp 3) rfl w.heap.size _ _ _ rfl D3.out.1 Try.underlying23 rfl (by kernel_rfl) ?_)
      refine (HNo.out _ (slice_keep HS2.out D3.out.2.2)).mono ?_
      rintro e v4 ⟨rfl, hb4⟩
      have D4 := Lib.hid (D3.out.call hb4)
      clear hb4
      go_wp2_with (refine Blk.load rfl 23 (.tmp 3) rfl w.heap.size _ _ _ rfl D4.out.1 Try.underlying23 rfl (by kernel_rfl) ?_)
      refine (HOp.out _).mono ?_
      rintro e v5 ⟨rfl, hb5⟩
      have D5 := Lib.hid (D4.out.call hb5)
      clear hb5
      go_wp2_with (refine Blk.load rfl 23 (.tmp 3) rfl w.heap.size _ _ _ rfl D5.out.1 Try.underlying23 rfl (by kernel_rfl) ?_)
      refine (HB1.out _).mono ?_
      rintro e v6 ⟨rfl, hb6⟩
      have D6 := Lib.hid (D5.out.call hb6)
      clear hb6
      go_wp2_with (refine Blk.load rfl 23 (.tmp 3) rfl w.heap.size _ _ _ rfl D6.out.1 Try.underlying23 rfl (by kernel_rfl) ?_)
      refine (HSt.out _ (slice_keep HS2.out D6.out.2.2)).mono ?_
      rintro e v7 ⟨rfl, hb7⟩
      have D7 := Lib.hid (D6.out.call hb7)
      clear hb7
      go_wp2_with (refine Blk.load rfl 23 (.tmp 3) rfl w.heap.size _ _ _ rfl D7.out.1 Try.underlying23 rfl (by kernel_rfl) ?_)
      refine (HBo.out _).mono ?_
      rintro e v8 ⟨rfl, hb8⟩
      have D8 := Lib.hid (D7.out.call hb8)
      clear hb8
      go_wp2_with (refine Blk.load rfl 23 (.tmp 3) rfl w.heap.size _ _ _ rfl D8.out.1 Try.underlying23 rfl (by kernel_rfl) ?_)
      refine (HWh.out _).mono ?_
      rintro e v9 ⟨rfl, hb9⟩
      have D9 := Lib.hid (D8.out.call hb9)
      clear hb9
      go_wp2_with (refine wpList_store_row rfl 26 (.tmp 6) (.tmp 65) rfl (w.heap.size + 1) _ _ _ rfl rfl D9.out.2.1 (by rfl) (by kernel_rfl) (by simp [Value.oneCell']) ?_; intro w9 hb9 hg9)
      refine bodyPost_ret (results_row_tmp rfl _ _ (w.heap.size + 1) _ _ _ rfl hb9 Try.underlying26 rfl (by kernel_rfl)) rfl ⟨by rw [HQ.out.1, HQ.out.2, HDq.out]; rfl, D9.out.2.2.trans (Only.below hg9 (by omega) D9.out.2.2.size)⟩
  · have HC := Lib.hid (fun W => ref_Right p W)
    rw [polOk_false hk] at HC
    have HQ := Lib.hid (ofq_no (l := l) (past := past) hk)
    clear hk HT
    go_enter Try.func66, Try.ntmps66
    go_wp2_with fail
    refine (HC.out _).mono ?_
    rintro e v1 ⟨rfl, hb1⟩
    have D1 := Lib.hid (D0.out.call hb1)
    clear hb1
    go_wp2_with (refine wpList_store_row rfl 26 (.tmp 6) (.tmp 19) rfl (w.heap.size + 1) _ _ _ rfl rfl D1.out.2.1 (by rfl) (by kernel_rfl) (by simp [Value.oneCell']) ?_; intro w9 hb9 hg9)
    refine bodyPost_ret (results_row_tmp rfl _ _ (w.heap.size + 1) _ _ _ rfl hb9 Try.underlying26 rfl (by kernel_rfl)) rfl ⟨by rw [HQ.out.1, HQ.out.2]; rfl, D1.out.2.2.trans (Only.below hg9 (by omega) D1.out.2.2.size)⟩
end Go.Proofs.Ytjodpffdlggjgaa
/- flywheelref14.Same: whether two lists of decisions are alike. -/
namespace Go.Proofs.Ytjodpffdlggjgaa
open Go.RowKit
set_option linter.unusedSimpArgs false
set_option linter.unusedVariables false
set_option maxHeartbeats 2000000
set_option maxRecDepth 100000

def advEq (x y : Adv) : Bool := decide (x = y)
theorem eq_adv (x y : Adv) :
    (∀ (W : World) (op : BinOp) (o1 o2 : Operand), (eqGuard op 26 o1 o2 (.agg #[.int .i64 x.tick, .int .i64 x.load, .int .i64 x.want, .int .i64 x.repl, .int .i64 x.why]) (.agg #[.int .i64 y.tick, .int .i64 y.load, .int .i64 y.want, .int .i64 y.repl, .int .i64 y.why])).run Try.prog W = .ok () W) ∧
    (∀ W : World, (binOp .eql 26 (.agg #[.int .i64 x.tick, .int .i64 x.load, .int .i64 x.want, .int .i64 x.repl, .int .i64 x.why]) (.agg #[.int .i64 y.tick, .int .i64 y.load, .int .i64 y.want, .int .i64 y.repl, .int .i64 y.why])).run Try.prog W = .ok (.bool (advEq x y)) W) ∧
    (∀ W : World, (binOp .neq 26 (.agg #[.int .i64 x.tick, .int .i64 x.load, .int .i64 x.want, .int .i64 x.repl, .int .i64 x.why]) (.agg #[.int .i64 y.tick, .int .i64 y.load, .int .i64 y.want, .int .i64 y.repl, .int .i64 y.why])).run Try.prog W = .ok (.bool (!advEq x y)) W) := by
  refine eq_ints (by kernel_rfl) (by kernel_rfl) (by kernel_rfl) (by kernel_rfl) [.i64, .i64, .i64, .i64, .i64] [x.tick, x.load, x.want, x.repl, x.why] [y.tick, y.load, y.want, y.repl, y.why] (by kernel_rfl) (by kernel_rfl) (by kernel_rfl) _ _ rfl rfl _ ?_
  obtain ⟨a, b, c, d, e⟩ := x
  obtain ⟨a', b', c', d', e'⟩ := y
  unfold advEq
  rw [Bool.eq_iff_iff]
  simp
theorem ref14_Same (A B : Option Addr) (la ca lb cb : Nat) (xs ys : List Adv) (w : World) (hx : AdvsAre w A la ca xs) (hy : AdvsAre w B lb cb ys) :
    Calls Try.prog 33 #[.slice A la ca, .slice B lb cb] w fun e w' => e = .returned (.bool (decide (xs = ys))) ∧ Below w.heap.size w w' := by
  have l1 := hx.1
  have l2 := hy.1
  have m1 : la < 9223372036854775807 ∨ la = 9223372036854775807 := by have := hx.2.1; have := hx.2.2.1; unfold maxLen at *; omega
  by_cases hl : la = lb
  · subst hl
    have HX := Lib.hid hx
    have HY := Lib.hid hy
    have H1 := Lib.hid l1
    have H2 := Lib.hid l2
    clear hx hy l1 l2
    go_enter Try.func33, Try.ntmps33
    go_wp2
    go_loopw [5] (fun i wr => ∃ k : Nat, k ≤ la ∧ i = .int .i64 k ∧ xs.take k = ys.take k ∧ Below w.heap.size w wr) (fun i _ => la - (intOf i).toNat)
    case atStart => exact ⟨0, Nat.zero_le _, rfl, rfl, Below.refl _ _⟩
    case round =>
      obtain ⟨k, hk, rfl, he, hbel⟩ := hrel
      have HE := Lib.hid he
      clear he
      by_cases hlt : k < la
      · obtain ⟨b, off, x, rfl, hx, hb, t0, t1, t2, t3, t4⟩ := HX.out.at_ hlt
        obtain ⟨b2, off2, y, rfl, hy, hb2, s0, s1, s2, s3, s4⟩ := HY.out.at_ hlt
        have HX2 := Lib.hid hx
        have HY2 := Lib.hid hy
        clear hx hy
        have kt0 := (hbel.cell (p := ⟨b, off + k * 5, none⟩) hb).trans t0
        have kt1 := (hbel.cell (p := ⟨b, off + k * 5 + 1, none⟩) hb).trans t1
        have kt2 := (hbel.cell (p := ⟨b, off + k * 5 + 2, none⟩) hb).trans t2
        have kt3 := (hbel.cell (p := ⟨b, off + k * 5 + 3, none⟩) hb).trans t3
        have kt4 := (hbel.cell (p := ⟨b, off + k * 5 + 4, none⟩) hb).trans t4
        have ks0 := (hbel.cell (p := ⟨b2, off2 + k * 5, none⟩) hb2).trans s0
        have ks1 := (hbel.cell (p := ⟨b2, off2 + k * 5 + 1, none⟩) hb2).trans s1
        have ks2 := (hbel.cell (p := ⟨b2, off2 + k * 5 + 2, none⟩) hb2).trans s2
        have ks3 := (hbel.cell (p := ⟨b2, off2 + k * 5 + 3, none⟩) hb2).trans s3
        have ks4 := (hbel.cell (p := ⟨b2, off2 + k * 5 + 4, none⟩) hb2).trans s4
        have hki : (k : Int) < (la : Int) := by omega
        clear hb hb2 t0 t1 t2 t3 t4 s0 s1 s2 s3 s4
        by_cases hxy : x = y
        · subst hxy
          obtain ⟨q1, q2, q3⟩ := eq_adv x x
          have d : advEq x x = true := decide_eq_true rfl
          clear q2
          go_wp2
          go_quiet (fail)
          go_wp2
          go_roundw
          case rel => exact ⟨k + 1, by omega, by go_num, by rw [take_next HX2.out, take_next HY2.out, HE.out], below_drewN hbel nq⟩
          case measure => simp [intOf]; omega
        · have hq : decide (xs = ys) = false := by
            simp only [decide_eq_false_iff_not]
            intro h
            rw [h, HY2.out] at HX2
            exact hxy (Option.some.inj HX2.out).symm
          have d : advEq x y = false := decide_eq_false hxy
          obtain ⟨q1, q2, q3⟩ := eq_adv x y
          have HQ := Lib.hid hq
          clear hq hxy q2
          go_wp2
          go_quiet (fail)
          go_wp2
          go_ret
          exact ⟨by rw [HQ.out]; rfl, below_drewN hbel nq⟩
      · go_wp2
        go_ret
        refine ⟨?_, hbel⟩
        have h1 := HE.out
        rw [List.take_of_length_le (by have := H1.out; omega), List.take_of_length_le (by have := H2.out; omega)] at h1
        rw [h1]; simp
  · have hq : decide (xs = ys) = false := by
      simp only [decide_eq_false_iff_not]
      intro h; subst h; omega
    rw [hq]
    have d : ((la : Int) == (lb : Int)) = false := by simp; omega
    clear hq hx hy l1 l2
    go_enter Try.func33, Try.ntmps33
    go_wp2
    go_ret
    exact ⟨rfl, Below.refl _ _⟩
end Go.Proofs.Ytjodpffdlggjgaa
/- A slice of api.Advice that comes in. -/
namespace Go.Proofs.Ytjodpffdlggjgaa
open Go.RowKit
theorem dec_adv : ∀ vs : List Value, AllOk [.int .i64, .int .i64, .int .i64, .int .i64, .int .i64] vs → ∃ x : Adv, x.cells = vs ∧ x.good := by
  rintro _ ⟨_, _, rfl, ⟨a, rfl, wa⟩, _, _, rfl, ⟨b, rfl, wb⟩, _, _, rfl, ⟨c, rfl, wc⟩, _, _, rfl, ⟨d, rfl, wd⟩, _, _, rfl, ⟨e, rfl, we⟩, h⟩
  cases h
  exact ⟨⟨a, b, c, d, e⟩, rfl, I64_of_wf wa, I64_of_wf wb, I64_of_wf wc, I64_of_wf wd, I64_of_wf we⟩
end Go.Proofs.Ytjodpffdlggjgaa
/- The laws of chapter 16: awake, DecideTells. -/
namespace Go.Proofs.Ytjodpffdlggjgaa
open Go.RowKit
set_option linter.unusedSimpArgs false
set_option linter.unusedVariables false
set_option maxHeartbeats 8000000
set_option maxRecDepth 100000
theorem eq_advN (a0 a1 a2 a3 a4 b0 b1 b2 b3 b4 : Int) (b : Bool) (hb : ([a0, a1, a2, a3, a4] == [b0, b1, b2, b3, b4]) = b) :
    (∀ (W : World) (op : BinOp) (o1 o2 : Operand), (eqGuard op 26 o1 o2 (.agg #[.int .i64 a0, .int .i64 a1, .int .i64 a2, .int .i64 a3, .int .i64 a4]) (.agg #[.int .i64 b0, .int .i64 b1, .int .i64 b2, .int .i64 b3, .int .i64 b4])).run Try.prog W = .ok () W) ∧
    (∀ W : World, (binOp .eql 26 (.agg #[.int .i64 a0, .int .i64 a1, .int .i64 a2, .int .i64 a3, .int .i64 a4]) (.agg #[.int .i64 b0, .int .i64 b1, .int .i64 b2, .int .i64 b3, .int .i64 b4])).run Try.prog W = .ok (.bool b) W) ∧
    (∀ W : World, (binOp .neq 26 (.agg #[.int .i64 a0, .int .i64 a1, .int .i64 a2, .int .i64 a3, .int .i64 a4]) (.agg #[.int .i64 b0, .int .i64 b1, .int .i64 b2, .int .i64 b3, .int .i64 b4])).run Try.prog W = .ok (.bool (!b)) W) :=
  eq_ints (t := 26) (by kernel_rfl) (by kernel_rfl) (by kernel_rfl) (by kernel_rfl) [.i64, .i64, .i64, .i64, .i64] [a0, a1, a2, a3, a4] [b0, b1, b2, b3, b4] (by kernel_rfl) (by kernel_rfl) (by kernel_rfl) _ _ rfl rfl b hb
def usual16 : Pol := ⟨1, 10, 100, 100, 5, 3⟩
theorem usual16_fit : usual16.fit := by unfold Pol.fit usual16 I64; simp
theorem usual_16 (w : World) : Calls Try.prog 65 #[] w fun e w' => e = .returned (.agg #[.int .i64 1, .int .i64 10, .int .i64 100, .int .i64 100, .int .i64 5, .int .i64 3]) ∧ Below w.heap.size w w' := by
  go_enter Try.func65, Try.ntmps65
  go_wp2
  go_returns
  exact ⟨rfl, by go_grown⟩
theorem of_16 (w : World) (A : Option Addr) (hs : SmpsAre w A 1 1 [⟨1, 250⟩]) : Calls Try.prog 64 #[.agg #[.int .i64 1, .int .i64 10, .int .i64 100, .int .i64 100, .int .i64 5, .int .i64 3], .slice A 1 1, .slice none 0 0] w fun e w' => e = .returned (.tuple #[.agg #[.int .i64 1, .int .i64 250, .int .i64 3, .int .i64 3, .int .i64 2], .int .i64 0]) ∧ Below w.heap.size w w' :=
  (decide_Of usual16 A 1 1 [⟨1, 250⟩] none 0 0 [] w usual16_fit hs (fun x hx => by simp at hx; subst hx; unfold Smp.good I64; simp) (by omega) (slice_nil _ _ _) (by omega)).mono fun _ _ h => by
    rw [show ofq usual16 [⟨1, 250⟩] [] = ⟨1, 250, 3, 3, 2⟩ by decide +kernel, show ofe usual16 [⟨1, 250⟩] = 0 by decide +kernel] at h; exact h
theorem of_16n (w : World) : Calls Try.prog 64 #[.agg #[.int .i64 1, .int .i64 10, .int .i64 100, .int .i64 100, .int .i64 5, .int .i64 3], .slice none 0 0, .slice none 0 0] w fun e w' => e = .returned (.tuple #[.agg #[.int .i64 0, .int .i64 0, .int .i64 0, .int .i64 0, .int .i64 0], .int .i64 5]) ∧ Below w.heap.size w w' :=
  (decide_Of usual16 none 0 0 [] none 0 0 [] w usual16_fit (slice_nil _ _ _) (fun x hx => by simp at hx) (by omega) (slice_nil _ _ _) (by omega)).mono fun _ _ h => by
    rw [show ofq usual16 [] [] = ⟨0, 0, 0, 0, 0⟩ by decide +kernel, show ofe usual16 [] = 5 by decide +kernel] at h; exact h
theorem awake16 (w : World) : Calls Try.prog 31 #[] w fun e w' => e = .returned (.bool true) ∧ Below w.heap.size w w' := by
  obtain ⟨q1, q2, q3⟩ := eq_advN 1 250 3 3 2 1 250 3 3 2 true (by decide)
  clear q3
  go_enter Try.func31, Try.ntmps31
  go_wp2_with fail
  refine (usual_16 _).mono ?_
  rintro e v1 ⟨rfl, hb1⟩
  have E1 := Lib.hid hb1
  clear hb1
  go_wp2_with fail
  refine (of_16 _ _ (slice_blk (l := ([⟨1, 250⟩] : List Smp)) (fun _ => rfl) (Blk.new v1 _ _) rfl (by decide))).mono ?_
  rintro e v2 ⟨rfl, hb2⟩
  have e1 := E1.out.alloc E1.out.size (.cells #[.int .i64 1, .int .i64 250] 35)
  have E2 := Lib.hid (e1.trans (hb2.mono e1.size))
  clear hb2 e1
  go_wp2_with fail
  refine (usual_16 _).mono ?_
  rintro e v3 ⟨rfl, hb3⟩
  have e2 := E2.out.alloc E2.out.size (.cells #[.int .i64 1, .int .i64 250, .int .i64 3, .int .i64 3, .int .i64 2] 26)
  have E3 := Lib.hid (e2.trans (hb3.mono e2.size))
  have B3 := Lib.hid ((Blk.new v2 26 #[.int .i64 1, .int .i64 250, .int .i64 3, .int .i64 3, .int .i64 2]).call hb3)
  clear hb3 e2
  go_wp2_with fail
  refine (of_16n _).mono ?_
  rintro e v4 ⟨rfl, hb4⟩
  have E4 := Lib.hid (E3.out.trans (hb4.mono E3.out.size))
  have B4 := B3.out.call hb4
  have c0 := B4.cellv (i := 0) (v := .int .i64 1) rfl
  have c1 := B4.cellv (i := 1) (v := .int .i64 250) rfl
  have c2 := B4.cellv (i := 2) (v := .int .i64 3) rfl
  have c3 := B4.cellv (i := 3) (v := .int .i64 3) rfl
  have c4 := B4.cellv (i := 4) (v := .int .i64 2) rfl
  have lt := B4.lt
  clear hb4 B4
  go_wp2
  go_ret
  exact ⟨rfl, E4.out.alloc E4.out.size _⟩
theorem bound_in2 (p : Pol) (n : Int) (h : p.okP) : p.min ≤ boundq p n ∧ boundq p n ≤ p.max := by
  obtain ⟨k1, k2, k3, k4, k5, k6, k7, k8, k9⟩ := id h
  unfold boundq clampq
  rw [if_pos h]
  split
  · omega
  · split <;> omega
theorem of_in (p : Pol) (l : List Smp) (past : List Adv) (h : ofe p l = 0) : p.min ≤ (ofq p l past).repl ∧ (ofq p l past).repl ≤ p.max := by
  by_cases hk : p.okP
  · by_cases h0 : l.length = 0
    · rw [(ofq_nil (past := past) hk h0).2] at h; omega
    · rw [(ofq_ok (past := past) hk h0).1]
      exact bound_in2 p _ hk
  · rw [(ofq_no (l := l) (past := past) hk).2] at h; omega
theorem ofe_cases (p : Pol) (l : List Smp) : ofe p l = 0 ∨ ofe p l = 5 ∨ ofe p l = 7 := by
  unfold ofe
  split
  · simp
  · split <;> simp
end Go.Proofs.Ytjodpffdlggjgaa
/- The reference's series: Right, Trim, Put. -/
namespace Go.Proofs.Ytjodpffdlggjgaa
open Go.RowKit
set_option linter.unusedSimpArgs false
set_option linter.unusedVariables false
set_option maxHeartbeats 4000000
set_option maxRecDepth 100000
theorem ref08_Right (tick value : Int) (w : World) :
    Calls Try.prog 18 #[.int .i64 tick, .int .i64 value] w fun e w' => e = .returned (.int .i64 (serErr tick value)) ∧ w = w' := by
  by_cases h1 : tick < 0
  · rw [serErr_tick h1]
    go_enter Try.func18, Try.ntmps18
    go_wp2
    go_ret
    exact ⟨rfl, rfl⟩
  · by_cases h2 : value < 0
    · rw [serErr_value (by omega) h2]
      go_enter Try.func18, Try.ntmps18
      go_wp2
      go_ret
      exact ⟨rfl, rfl⟩
    · rw [serErr_ok (by omega) (by omega)]
      go_enter Try.func18, Try.ntmps18
      go_wp2
      go_ret
      exact ⟨rfl, rfl⟩
theorem froms_yes {l : List Smp} {t : Int} {k : Nat} {x : Smp} (h : l[k]? = some x) (h1 : t ≤ x.tick) : froms (l.take (k + 1)) t = froms (l.take k) t ++ [x] := by
  rw [take_snoc2 h]; unfold froms; rw [List.filter_append]; simp [h1]
theorem froms_no {l : List Smp} {t : Int} {k : Nat} {x : Smp} (h : l[k]? = some x) (h1 : ¬ t ≤ x.tick) : froms (l.take (k + 1)) t = froms (l.take k) t := by
  rw [take_snoc2 h]; unfold froms; rw [List.filter_append]; simp; omega
theorem ref08_Trim (A : Option Addr) (len cap : Nat) (l : List Smp) (cut : Int) (w : World) (hs : SmpsAre w A len cap l) (hn : len ≤ 10000) :
    Calls Try.prog 16 #[.slice A len cap, .int .i64 cut] w (CloneS w (froms l cut)) := by
  have HS := Lib.hid hs
  have HL := Lib.hid hs.1
  clear hs
  go_enter Try.func16, Try.ntmps16
  go_wp2
  go_loopw [5, 6] (fun v i wr => ∃ k : Nat, k ≤ len ∧ i = .int .i64 k ∧ OwnS wr w.heap.size v (froms (l.take k) cut) ∧ Below w.heap.size w wr) (fun _ i _ => len - (intOf i).toNat)
  case atStart => exact ⟨0, Nat.zero_le _, rfl, Own.nil _ _ _ _ _, Below.refl _ _⟩
  case round =>
    obtain ⟨k, hk, rfl, hown, hbel⟩ := hrel
    by_cases hlt : k < len
    · obtain ⟨b, off, x, rfl, hx, hb, t0, t1⟩ := HS.out.at_ hlt
      have kt0 := (hbel.cell (p := ⟨b, off + k * 2, none⟩) hb).trans t0
      have kt1 := (hbel.cell (p := ⟨b, off + k * 2 + 1, none⟩) hb).trans t1
      have hle : (froms (l.take k) cut).length < 1000000 := by
        have h1 : (froms (l.take k) cut).length ≤ (l.take k).length := List.length_filter_le _ _
        have h2 : (l.take k).length ≤ l.length := by rw [List.length_take]; omega
        have h3 := HL.out
        omega
      have hki : (k : Int) < (len : Int) := by omega
      have HX := Lib.hid hx
      have HB := Lib.hid hbel
      clear hx hb t0 t1
      by_cases h1 : cut ≤ x.tick
      · have HN := Lib.hid (froms_yes HX.out h1)
        have hsz := hbel.size
        clear hbel
        go_wp2_with (at_builtin; refine push_smp _ rfl _ _ rfl w.heap.size _ _ rfl (hown.alloc _) wr.heap.size _ 1 x rfl (Blk.new wr _ _) hle (by simp; omega) ?_; intro v2 w2 ho2 hb2 hg2)
        go_roundw
        case rel => exact ⟨k + 1, by omega, by go_num, by rw [HN.out]; exact ho2, (HB.out.alloc HB.out.size _).trans hb2⟩
        case measure => simp [intOf]; omega
      · have HN := Lib.hid (froms_no HX.out h1)
        clear hbel
        go_wp2
        go_roundw
        case rel => exact ⟨k + 1, by omega, by go_num, by rw [HN.out]; exact hown, HB.out⟩
        case measure => simp [intOf]; omega
    · have hE : l.take k = l := List.take_of_length_le (by have := HL.out; omega)
      have HO := Lib.hid hown
      have HB := Lib.hid hbel
      rw [hE] at HO
      clear hE hown hbel
      go_wp2
      go_ret
      exact CloneS.mk HO.out HB.out
/-- What a Put of the reference's keeps: all that there was, and its own x. -/
def RS (w : World) (x : Smp) (wr : World) : Prop := Below w.heap.size w wr ∧ Blk wr w.heap.size 35 #[.int .i64 x.tick, .int .i64 x.value]
theorem RS.start (w : World) (x : Smp) : RS w x (w.alloc (.cells #[.int .i64 x.tick, .int .i64 x.value] 35)) := ⟨by go_grown, Blk.new _ _ _⟩
theorem RS.lt {w wr : World} {x : Smp} (h : RS w x wr) : w.heap.size + 1 ≤ wr.heap.size := h.2.lt
theorem RS.drewN {w wr : World} {x : Smp} (h : RS w x wr) (n : Nat) : RS w x (wr.drewN n) := ⟨below_drewN h.1 n, h.2⟩
theorem RS.push {w wr w2 : World} {x : Smp} (h : RS w x wr) (o : Obj) (hb : Below (w.heap.size + 1) (wr.alloc o) w2) : RS w x w2 :=
  ⟨(h.1.alloc h.1.size o).trans (hb.mono (by omega)), (h.2.alloc o).below hb (by omega)⟩
theorem RS.facts {w wr : World} {x : Smp} (h : RS w x wr) {b o : Nat} {v : Value} (hb : b < w.heap.size) (hc : w.cell? ⟨b, o, none⟩ = some v) : wr.cell? ⟨b, o, none⟩ = some v := (h.1.cell (p := ⟨b, o, none⟩) hb).trans hc
theorem RS.x0 {w wr : World} {x : Smp} (h : RS w x wr) : wr.cell? ⟨w.heap.size, 0, none⟩ = some (.int .i64 x.tick) ∧ wr.cell? ⟨w.heap.size, 1, none⟩ = some (.int .i64 x.value) := ⟨h.2.cellv rfl, h.2.cellv rfl⟩
def PutS (w : World) (l : List Smp) (e : Ending) (w' : World) : Prop := ∃ A n c, e = .returned (.slice A n c) ∧ SmpsAre w' A n c l ∧ Below w.heap.size w w' ∧ (∀ a, A = some a → w.heap.size ≤ a.block ∧ a.block < w'.heap.size)
theorem slice_tail {w : World} {base h n c : Nat} {y : Smp} {l : List Smp} (ho : OwnS w base (.slice (some ⟨h, 0, none⟩) n c) (y :: l)) : (c = 1 → l = []) ∧ (c ≠ 1 → SmpsAre w (some ⟨h, 2, none⟩) (n - 1) (c - 1) l) ∧ (l = [] → SmpsAre w (some ⟨h, 0, none⟩) (n - 1) (c - 1) l) := by
  have hs := ho.is smp_len
  have hl := hs.1
  have hnc := hs.2.1
  simp only [List.length_cons] at hl
  refine ⟨fun hc => List.eq_nil_of_length_eq_zero (by omega), fun hc => ⟨by omega, by omega, by have := hs.2.2.1; omega, (fun h => by cases h), fun a ha => ?_⟩, fun hl0 => ⟨by rw [hl0]; simp; rw [hl0] at hl; simp at hl; omega, by omega, by have := hs.2.2.1; omega, (fun h => by cases h), fun a ha => ?_⟩⟩
  · cases ha
    obtain ⟨h1, h2⟩ := hs.2.2.2.2 _ rfl
    refine ⟨fun i x hi j v hj => ?_, fun _ => h2 (by omega)⟩
    have := h1 (i + 1) x (by simpa using hi) j v hj
    rw [Addr.add_lit] at this ⊢
    rw [show 2 + (i * 2 + j) = 0 + ((i + 1) * 2 + j) by omega]
    exact this
  · cases ha
    obtain ⟨h1, h2⟩ := hs.2.2.2.2 _ rfl
    exact ⟨fun i x hi j v hj => by rw [hl0] at hi; simp at hi, fun _ => h2 (by omega)⟩
end Go.Proofs.Ytjodpffdlggjgaa
/- The reference's series: Put. -/
namespace Go.Proofs.Ytjodpffdlggjgaa
open Go.RowKit
set_option linter.unusedSimpArgs false
set_option linter.unusedVariables false
set_option maxHeartbeats 4000000
set_option maxRecDepth 100000
theorem putq_cases (l : List Smp) (room : Nat) (x : Smp) : (room < (putL l x).length ∧ putq l room x = (putL l x).drop 1) ∨ (¬ room < (putL l x).length ∧ putq l room x = putL l x) := by
  unfold putq
  by_cases h : room < (putL l x).length
  · exact .inl ⟨h, if_pos h⟩
  · exact .inr ⟨h, if_neg h⟩
theorem putL_len (l : List Smp) (x : Smp) : (putL l x).length = (lows l x.tick).length + (highs l x.tick).length + 1 := by unfold putL; simp; omega
theorem putL_cons (l : List Smp) (x : Smp) : ∃ y T, putL l x = y :: T := by
  cases h : putL l x with
  | nil => have := putL_len l x; rw [h] at this; simp at this
  | cons y T => exact ⟨y, T, rfl⟩
theorem Own.some_ {α : Type} {w : World} {base e size : Nat} {cells : α → List Value} {v : Value} {l : List α} (h : Own w base e size cells v l) (hsz : ∀ x, (cells x).length = size) (hl : 0 < l.length) : ∃ g n c, v = .slice (some ⟨g, 0, none⟩) n c ∧ n = l.length := by
  rcases h.2 with ⟨rfl, hn⟩ | ⟨g, cap, cur, rfl, _⟩
  · omega
  · exact ⟨g, _, cap, rfl, rfl⟩
theorem ref08_Put (A : Option Addr) (len cap : Nat) (l : List Smp) (room : Nat) (x : Smp) (w : World) (hs : SmpsAre w A len cap l) (hn : len ≤ 10000) (hsrt : Srt l) (hroom : room ≤ 1000000) :
    Calls Try.prog 21 #[.slice A len cap, .int .i64 room, .agg #[.int .i64 x.tick, .int .i64 x.value]] w (PutS w (putq l room x)) := by
  have HS := Lib.hid hs
  have HL := Lib.hid hs.1
  have HSr := Lib.hid hsrt
  have HR := Lib.hid (show room ≤ 1000000 from hroom)
  have HQ := Lib.hid (putq_cases l room x)
  generalize putq l room x = Q at *
  clear hs hsrt
  go_enter Try.func21, Try.ntmps21
  go_wp2
  go_loopw [7, 8, 9] (fun v iv i wr => ∃ k : Nat, ∃ is : Bool, k ≤ len ∧ i = .int .i64 k ∧ iv = .bool is ∧ isIn l x.tick k = is ∧ OwnS wr (w.heap.size + 1) v (refOut l x k) ∧ RS w x wr) (fun _ _ i _ => len - (intOf i).toNat)
  case atStart => exact ⟨0, false, Nat.zero_le _, rfl, rfl, (out_zero l x).2, by rw [(out_zero l x).1]; exact Own.nil _ _ _ _ _, RS.start w x⟩
  case round =>
    obtain ⟨k, is, hk, rfl, rfl, hin, hown, hrs⟩ := hrel
    have HI := Lib.hid hin
    have HO := Lib.hid hown
    have R0 := Lib.hid hrs
    clear hin hown
    by_cases hlt : k < len
    · obtain ⟨b, off, y, rfl, hy, hb, t0, t1⟩ := HS.out.at_ hlt
      have HF := Lib.hid (fun wr (h : RS w x wr) => (⟨h.facts hb t0, h.facts hb t1, h.x0.1, h.x0.2⟩ : wr.cell? ⟨b, off + k * 2, none⟩ = some (.int .i64 y.tick) ∧ wr.cell? ⟨b, off + k * 2 + 1, none⟩ = some (.int .i64 y.value) ∧ wr.cell? ⟨w.heap.size, 0, none⟩ = some (.int .i64 x.tick) ∧ wr.cell? ⟨w.heap.size, 1, none⟩ = some (.int .i64 x.value)))
      have hle : (refOut l x k).length < 999999 := by
        have h1 := out_len l x k
        have h3 := HL.out
        omega
      have HLE := Lib.hid hle
      have hki : (k : Int) < (len : Int) := by omega
      have HX := Lib.hid hy
      have hsz := hrs.lt
      obtain ⟨k0, k1, k2, k3⟩ := HF.out wr hrs
      clear hy hb t0 t1 hrs hle
      cases is
      · by_cases c1 : y.tick < x.tick
        · have HN := Lib.hid (out_low HSr.out HX.out c1)
          have d1 : decide (x.tick ≤ y.tick) = false := by simp; omega
          have d2 : (y.tick != x.tick) = true := by simp; omega
          go_wp2
          go_quiet (fail)
          go_wp2
          go_quiet (fail)
          go_wp2_with (at_builtin; refine push_smp _ rfl _ _ rfl (w.heap.size + 1) _ _ rfl (Own.alloc (Own.drewN_ HO.out _) _) _ _ 1 y rfl (Blk.new _ _ _) (Nat.lt_succ_of_lt HLE.out) (by simp; omega) ?_; intro v2 w2 ho2 hb2 hg2; have E1 := Lib.hid ho2; have E2 := Lib.hid (RS.push (RS.drewN R0.out _) _ hb2); clear ho2 hb2 hg2)
          go_roundw
          case rel => exact ⟨k + 1, false, by omega, by go_num, rfl, HN.out.2.1, by rw [HN.out.2.2]; exact E1.out, E2.out⟩
          case measure => simp [intOf]; omega
        · by_cases c2 : y.tick = x.tick
          · have HN := Lib.hid (out_same HX.out c2 HI.out)
            have HN2 := Lib.hid (in_next HX.out (t := x.tick) (by omega))
            have d1 : decide (x.tick ≤ y.tick) = true := by simp; omega
            have d2 : (y.tick != x.tick) = false := by simp; omega
            clear c1 c2
            go_wp2
            go_quiet (fail)
            go_wp2_with (at_builtin; refine push_smp _ rfl _ _ rfl (w.heap.size + 1) _ _ rfl (Own.alloc (Own.drewN_ HO.out _) _) _ _ 1 x rfl (Blk.new _ _ _) (Nat.lt_succ_of_lt HLE.out) (by have := hsz; simp; omega) ?_; intro v2 w2 ho2 hb2 hg2; have E1 := Lib.hid ho2; have E2 := Lib.hid (RS.push (RS.drewN R0.out _) _ hb2); clear ho2 hb2 hg2)
            obtain ⟨m0, m1, m2, m3⟩ := HF.out _ E2.out
            clear k0 k1 k2 k3
            go_quiet (fail)
            go_wp2
            go_roundw
            case rel => exact ⟨k + 1, true, by omega, by go_num, rfl, HN2.out, by rw [HN.out]; exact Own.drewN_ E1.out _, RS.drewN E2.out _⟩
            case measure => simp [intOf]; omega
          · have c3 : x.tick < y.tick := by omega
            have HN := Lib.hid (out_over HX.out c3 HI.out)
            have HN2 := Lib.hid (in_next HX.out (t := x.tick) (by omega))
            have d1 : decide (x.tick ≤ y.tick) = true := by simp; omega
            have d2 : (y.tick != x.tick) = true := by simp; omega
            clear c1 c2 c3
            go_wp2
            go_quiet (fail)
            go_wp2_with (at_builtin; refine push_smp _ rfl _ _ rfl (w.heap.size + 1) _ _ rfl (Own.alloc (Own.drewN_ HO.out _) _) _ _ 1 x rfl (Blk.new _ _ _) (Nat.lt_succ_of_lt HLE.out) (by have := hsz; simp; omega) ?_; intro v2 w2 ho2 hb2 hg2; have E1 := Lib.hid ho2; have E2 := Lib.hid (RS.push (RS.drewN R0.out _) _ hb2); clear ho2 hb2 hg2)
            obtain ⟨m0, m1, m2, m3⟩ := HF.out _ E2.out
            clear k0 k1 k2 k3
            have hle2 : (refOut l x k ++ [x]).length < 1000000 := by rw [List.length_append]; have := HLE.out; simp; omega
            have HLE2 := Lib.hid hle2
            have hsz2 := E2.out.lt
            clear hle2
            go_quiet (fail)
            go_wp2_with (at_builtin; refine push_smp _ rfl _ _ rfl (w.heap.size + 1) _ _ rfl (Own.alloc (Own.drewN_ E1.out _) _) _ _ 1 y rfl (Blk.new _ _ _) (HLE2.out) (by have := hsz2; simp; omega) ?_; intro v3 w3 ho3 hb3 hg3; have F1 := Lib.hid ho3; have F2 := Lib.hid (RS.push (RS.drewN E2.out _) _ hb3); clear ho3 hb3 hg3)
            go_roundw
            case rel => exact ⟨k + 1, true, by omega, by go_num, rfl, HN2.out, by rw [HN.out]; exact F1.out, F2.out⟩
            case measure => simp [intOf]; omega
      · have HN := Lib.hid (out_more HSr.out HX.out HI.out)
        have d2 : (y.tick != x.tick) = true := by have := HN.out.1; simp; omega
        go_wp2
        go_quiet (fail)
        go_wp2
        go_quiet (fail)
        go_wp2_with (at_builtin; refine push_smp _ rfl _ _ rfl (w.heap.size + 1) _ _ rfl (Own.alloc (Own.drewN_ HO.out _) _) _ _ 1 y rfl (Blk.new _ _ _) (Nat.lt_succ_of_lt HLE.out) (by have := hsz; simp; omega) ?_; intro v2 w2 ho2 hb2 hg2; have E1 := Lib.hid ho2; have E2 := Lib.hid (RS.push (RS.drewN R0.out _) _ hb2); clear ho2 hb2 hg2)
        go_roundw
        case rel => exact ⟨k + 1, true, by omega, by go_num, rfl, HN.out.2.1, by rw [HN.out.2.2]; exact E1.out, E2.out⟩
        case measure => simp [intOf]; omega
    · have hE : k = l.length := by have := HL.out; omega
      have hsz := hrs.lt
      obtain ⟨m2, m3⟩ := hrs.x0
      clear hrs
      cases is
      · have HP := Lib.hid (out_end_no (by rw [← hE]; exact HI.out))
        have hle : (refOut l x k).length < 1000000 := by have := out_len l x k; have := HL.out; omega
        have HLE := Lib.hid hle
        rw [← hE] at HP
        clear hE hle
        go_upto_region 13 with (at_builtin; refine push_smp _ rfl _ _ rfl (w.heap.size + 1) _ _ rfl (Own.alloc HO.out _) _ _ 1 x rfl (Blk.new _ _ _) HLE.out (by have := hsz; simp; omega) ?_; intro v2 w2 ho2 hb2 hg2; have E1 := Lib.hid (HP.out ▸ ho2); have E2 := Lib.hid (RS.push R0.out _ hb2); clear ho2 hb2 hg2)
        obtain ⟨h2, n2, c2, rfl, hn2⟩ := Own.some_ E1.out smp_len (by rw [putL_len]; omega)
        have hc2 := (E1.out.is smp_len).2.1
        have hc3 : c2 ≤ 9223372036854775807 := by have := (E1.out.is smp_len).2.2.1; unfold maxLen at this; omega
        have hn4 : 1 ≤ n2 := by rw [hn2, putL_len]; omega
        have hn5 : n2 ≤ 20000 := by rw [hn2]; have := len_putL l x; have := HL.out; omega
        have HFr := Lib.hid (show w.heap.size ≤ h2 ∧ h2 < _ from ⟨by have := (World.ownsRow.lt E1.out h2 rfl).1; omega, (World.ownsRow.lt E1.out h2 rfl).2⟩)
        have HN2 := Lib.hid hn2
        obtain ⟨y, T, hyT⟩ := putL_cons l x
        have HT := Lib.hid hyT
        clear hn2 hyT
        rcases HQ.out with ⟨q1, q2⟩ | ⟨q1, q2⟩
        · have q3 : room < n2 := by rw [HN2.out]; exact q1
          have H2 := Lib.hid q2
          clear q1 q2
          by_cases hc : c2 = 1
          · have HC := Lib.hid hc
            subst hc
            go_wp2
            go_ret
            refine ⟨_, _, _, rfl, ?_, E2.out.1, fun a ha => by cases ha; exact HFr.out⟩
            rw [H2.out, HT.out]
            have E4 := HT.out ▸ E1.out
            have E5 := (slice_tail E4).1 rfl
            have h0 : n2 - 1 = 0 := by omega
            have E6 := (slice_tail E4).2.2 E5
            rw [h0] at E6
            exact E6
          · go_wp2
            go_ret
            refine ⟨_, _, _, rfl, ?_, E2.out.1, fun a ha => by cases ha; exact HFr.out⟩
            rw [H2.out, HT.out]
            exact (slice_tail (HT.out ▸ E1.out)).2.1 hc
        · have q3 : ¬ room < n2 := by rw [HN2.out]; exact q1
          have H2 := Lib.hid q2
          clear q1 q2
          go_wp2
          go_ret
          refine ⟨_, _, _, rfl, ?_, E2.out.1, fun a ha => by cases ha; exact HFr.out⟩
          rw [H2.out]
          exact E1.out.is smp_len
      · have HP := Lib.hid (out_end_in (by rw [← hE]; exact HI.out))
        rw [← hE] at HP
        clear hE
        have E1 := Lib.hid (HP.out ▸ HO.out)
        obtain ⟨h2, n2, c2, rfl, hn2⟩ := Own.some_ E1.out smp_len (by rw [putL_len]; omega)
        have hc2 := (E1.out.is smp_len).2.1
        have hc3 : c2 ≤ 9223372036854775807 := by have := (E1.out.is smp_len).2.2.1; unfold maxLen at this; omega
        have hn4 : 1 ≤ n2 := by rw [hn2, putL_len]; omega
        have hn5 : n2 ≤ 20000 := by rw [hn2]; have := len_putL l x; have := HL.out; omega
        have HFr := Lib.hid (show w.heap.size ≤ h2 ∧ h2 < _ from ⟨by have := (World.ownsRow.lt E1.out h2 rfl).1; omega, (World.ownsRow.lt E1.out h2 rfl).2⟩)
        have HN2 := Lib.hid hn2
        obtain ⟨y, T, hyT⟩ := putL_cons l x
        have HT := Lib.hid hyT
        clear hn2 hyT
        rcases HQ.out with ⟨q1, q2⟩ | ⟨q1, q2⟩
        · have q3 : room < n2 := by rw [HN2.out]; exact q1
          have H2 := Lib.hid q2
          clear q1 q2
          by_cases hc : c2 = 1
          · have HC := Lib.hid hc
            subst hc
            go_wp2
            go_ret
            refine ⟨_, _, _, rfl, ?_, R0.out.1, fun a ha => by cases ha; exact HFr.out⟩
            rw [H2.out, HT.out]
            have E4 := HT.out ▸ E1.out
            have E5 := (slice_tail E4).1 rfl
            have h0 : n2 - 1 = 0 := by omega
            have E6 := (slice_tail E4).2.2 E5
            rw [h0] at E6
            exact E6
          · go_wp2
            go_ret
            refine ⟨_, _, _, rfl, ?_, R0.out.1, fun a ha => by cases ha; exact HFr.out⟩
            rw [H2.out, HT.out]
            exact (slice_tail (HT.out ▸ E1.out)).2.1 hc
        · have q3 : ¬ room < n2 := by rw [HN2.out]; exact q1
          have H2 := Lib.hid q2
          clear q1 q2
          go_wp2
          go_ret
          refine ⟨_, _, _, rfl, ?_, R0.out.1, fun a ha => by cases ha; exact HFr.out⟩
          rw [H2.out]
          exact E1.out.is smp_len
end Go.Proofs.Ytjodpffdlggjgaa
