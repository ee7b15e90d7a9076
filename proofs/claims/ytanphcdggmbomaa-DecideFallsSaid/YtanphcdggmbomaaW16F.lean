/- The laws of chapter 16: DecideFalls. -/
import Derived.Test.YtanphcdggmbomaaW16
namespace Go.Proofs.Ytanphcdggmbomaa
open Go.RowKit
set_option linter.unusedSimpArgs false
set_option linter.unusedVariables false
set_option maxHeartbeats 8000000
set_option maxRecDepth 100000
theorem of_tick (p : Pol) (l : List Smp) (past : List Adv) (hg : ∀ x ∈ l, x.good) : I64 (ofq p l past).tick := by
  unfold ofq
  split
  · unfold zAdv I64; simp
  · split
    · unfold zAdv I64; simp
    · exact latestq_I64 hg
theorem steadyq_ge (p : Pol) (tick want : Int) (past : List Adv) (h : (highest past tick p.hold).2 = true) : (highest past tick p.hold).1 ≤ (steadyq p tick want past).1 := by
  unfold steadyq
  split
  · exact Int.le_refl _
  · rename_i hn
    have : ¬ want < (highest past tick p.hold).1 := fun k => hn ⟨h, k⟩
    exact Int.not_lt.mp this
theorem boundq_ge (p : Pol) (n m : Int) (hk : p.okP) (h1 : m ≤ p.max) (h2 : boundq p n < m) : n < m := by
  obtain ⟨k1, k2, k3, k4, k5, k6, k7, k8, k9⟩ := id hk
  unfold boundq clampq at h2
  rw [if_pos hk] at h2
  split at h2
  · omega
  · split at h2 <;> omega
theorem falls (p : Pol) (l : List Smp) (past : List Adv) (he : ofe p l = 0) (h1 : p.min ≤ nowq p past) (h2 : nowq p past ≤ p.max) (h3 : (ofq p l past).repl < nowq p past) (h4 : (highest past (ofq p l past).tick p.hold).2 = true) : (highest past (ofq p l past).tick p.hold).1 < nowq p past := by
  by_cases hk : p.okP
  · by_cases h0 : l.length = 0
    · rw [(ofq_nil (past := past) hk h0).2] at he; omega
    · rw [(ofq_ok (past := past) hk h0).1] at h3 h4 ⊢
      have a1 := boundq_ge p _ _ hk h2 h3
      exact Int.lt_of_le_of_lt (steadyq_ge p _ _ past h4) a1
  · rw [(ofq_no (l := l) (past := past) hk).2] at he; omega
theorem walk_DecideFalls (a0 a1 a2 a3 a4 a5 : Int) (A : Option Addr) (len cap : Nat) (l : List Smp) (B : Option Addr) (len2 cap2 : Nat) (past : List Adv) (w : World) (h0 : I64 a0) (h1 : I64 a1) (h2 : I64 a2) (h3 : I64 a3) (h4 : I64 a4) (h5 : I64 a5) (hs : SmpsAre w A len cap l) (hg : ∀ x ∈ l, x.good) (hs2 : AdvsAre w B len2 cap2 past) (hg2 : ∀ x ∈ past, x.good) :
    Calls Try.prog 5 #[.agg #[.int .i64 a0, .int .i64 a1, .int .i64 a2, .int .i64 a3, .int .i64 a4, .int .i64 a5], .slice A len cap, .slice B len2 cap2] w fun e w' => e = .returned (.bool true) ∧ Below w.heap.size w w' := by
  obtain ⟨p, rfl, rfl, rfl, rfl, rfl, rfl⟩ : ∃ p : Pol, a0 = p.min ∧ a1 = p.max ∧ a2 = p.target ∧ a3 = p.tol ∧ a4 = p.window ∧ a5 = p.hold := ⟨⟨a0, a1, a2, a3, a4, a5⟩, rfl, rfl, rfl, rfl, rfl, rfl⟩
  have HP := Lib.hid (show p.fit from ⟨h0, h1, h2, h3, h4, h5⟩)
  have HS := Lib.hid hs
  have HS2 := Lib.hid hs2
  have HG := Lib.hid hg
  have hle : len ≤ cap := hs.2.1
  have hm : cap ≤ 9223372036854775807 := by have := hs.2.2.1; unfold maxLen at this; omega
  have hle2 : len2 ≤ cap2 := hs2.2.1
  have hm2 : cap2 ≤ 9223372036854775807 := by have := hs2.2.2.1; unfold maxLen at this; omega
  clear h0 h1 h2 h3 h4 h5 hs hg hs2 hg2
  go_enter Try.func5, Try.ntmps5
  go_wp2_with fail
  refine (awake16 _).mono ?_
  rintro e v1 ⟨rfl, hb1⟩
  have E0 := (show Below w.heap.size w (w.alloc (.cells p.row 23)) by go_grown)
  have B0 := Lib.hid ((Blk.new w 23 p.row).call hb1)
  have E1 := Lib.hid (E0.trans (hb1.mono E0.size))
  clear hb1 E0
  by_cases hl : 40 < len
  · go_wp2
    go_ret
    exact ⟨rfl, E1.out⟩
  by_cases hl2 : 40 < len2
  · go_wp2
    go_ret
    exact ⟨rfl, E1.out⟩
  have HO := Lib.hid (fun W hW hW2 => (show Calls Try.prog 11 #[(.agg #[.int .i64 p.min, .int .i64 p.max, .int .i64 p.target, .int .i64 p.tol, .int .i64 p.window, .int .i64 p.hold]), .slice A len cap, .slice B len2 cap2] W fun e w' => e = .returned (.tuple #[.agg #[.int .i64 (ofq p l past).tick, .int .i64 (ofq p l past).load, .int .i64 (ofq p l past).want, .int .i64 (ofq p l past).repl, .int .i64 (ofq p l past).why], .int .i64 (ofe p l)]) ∧ Below W.heap.size W w' from decide_Of p A len cap l B len2 cap2 past W HP.out hW HG.out (by omega) hW2 (by omega)))
  have HN1 := Lib.hid (fun W hW => decide_Now p B len2 cap2 past W hW (by omega))
  have HT := Lib.hid (of_tick p l past HG.out)
  have HHi := Lib.hid (fun W hW => ref14_Highest B len2 cap2 past (ofq p l past).tick p.hold W hW (by omega) HT.out HP.out.2.2.2.2.2)
  have HF := Lib.hid (falls p l past)
  generalize nowq p past = NW at *
  generalize ofe p l = EE at *
  generalize ofq p l past = X at *
  generalize highest past X.tick p.hold = hh at *
  obtain ⟨bst, is⟩ := hh
  dsimp only at HF HHi
  go_wp2_with (refine Blk.load rfl 23 (.tmp 3) rfl w.heap.size _ _ _ rfl B0.out Try.underlying23 rfl (by kernel_rfl) ?_)
  refine (HO.out _ (slice_keep HS.out E1.out) (slice_keep HS2.out E1.out)).mono ?_
  rintro e v2 ⟨rfl, hb2⟩
  have e2 := E1.out.trans (hb2.mono E1.out.size)
  have E2 := Lib.hid (e2.alloc e2.size (.cells #[.int .i64 X.tick, .int .i64 X.load, .int .i64 X.want, .int .i64 X.repl, .int .i64 X.why] 28))
  have B2 := Lib.hid ((B0.out.call hb2).alloc (.cells #[.int .i64 X.tick, .int .i64 X.load, .int .i64 X.want, .int .i64 X.repl, .int .i64 X.why] 28))
  have X2 := Lib.hid (Blk.new v2 28 #[.int .i64 X.tick, .int .i64 X.load, .int .i64 X.want, .int .i64 X.repl, .int .i64 X.why])
  clear hb2 e2
  go_wp2_with (refine Blk.load rfl 23 (.tmp 3) rfl w.heap.size _ _ _ rfl B2.out Try.underlying23 rfl (by kernel_rfl) ?_)
  refine (HN1.out _ (slice_keep HS2.out E2.out)).mono ?_
  rintro e v3 ⟨rfl, hb3⟩
  have E3 := Lib.hid (E2.out.trans (hb3.mono E2.out.size))
  have B3 := B2.out.call hb3
  have X3 := X2.out.call hb3
  have c0 := X3.cellv (i := 0) (v := .int .i64 X.tick) rfl
  have c3 := X3.cellv (i := 3) (v := .int .i64 X.repl) rfl
  have p0 := B3.cellv (i := 0) (v := .int .i64 p.min) rfl
  have p1 := B3.cellv (i := 1) (v := .int .i64 p.max) rfl
  have p5 := B3.cellv (i := 5) (v := .int .i64 p.hold) rfl
  clear hb3 E2 B2 X2 B3 X3
  by_cases hE : EE = 0
  · by_cases k1 : NW < p.min
    · go_wp2
      all_goals first | (exfalso; omega) | (go_ret; exact ⟨rfl, E3.out⟩)
    by_cases k2 : p.max < NW
    · go_wp2
      all_goals first | (exfalso; omega) | (go_ret; exact ⟨rfl, E3.out⟩)
    by_cases k3 : NW ≤ X.repl
    · go_wp2
      all_goals first | (exfalso; omega) | (go_ret; exact ⟨rfl, E3.out⟩)
    have HF2 := Lib.hid (HF.out hE (by omega) (by omega) (by omega))
    go_wp2_with fail
    all_goals first | (exfalso; omega) | skip
    refine (HHi.out _ (slice_keep HS2.out E3.out)).mono ?_
    rintro e v4 ⟨rfl, rfl⟩
    cases is
    · go_wp2
      all_goals first | (exfalso; omega) | (go_ret; exact ⟨rfl, E3.out⟩)
    · have k4 := HF2.out rfl
      go_wp2
      all_goals first | (exfalso; omega) | (go_ret; exact ⟨rfl, E3.out⟩)
  · have dE : (EE == 0) = false := by simpa using hE
    go_wp2
    all_goals first | (exfalso; omega) | (go_ret; exact ⟨rfl, E3.out⟩)
end Go.Proofs.Ytanphcdggmbomaa
