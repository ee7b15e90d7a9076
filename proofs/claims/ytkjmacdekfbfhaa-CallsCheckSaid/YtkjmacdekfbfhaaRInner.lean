/- flywheelref29.Inner: the walk. (fast region) -/
import Derived.Test.YtkjmacdekfbfhaaInner
import Derived.Deep.Cut
namespace Go.Proofs.Ytkjmacdekfbfhaa
open Go.RowKit
set_option linter.unusedSimpArgs false
set_option linter.unusedVariables false
set_option maxHeartbeats 8000000
set_option maxRecDepth 100000
/-- flywheelref29.Inner where nothing is laid in rounds. -/
theorem rInner_s (c : Cfg) (k : Int) (s : ByteArray) (t v h : Int) (p : Pol) (n : Nat) (w : World) (hs : s.size ≤ maxLen) (hc : c.fit) (hn : c.str = n) (h64 : n ≤ 64) (hk : k ≠ 2 ∧ k ≠ 3) :
    Calls Try.prog 64 #[.agg c.row, .agg (callRow k s t v h p)] w (OwnedD w (inq (homeq c s) n k)) := by
  have HH := Lib.hid (fun W => ref29_Home c s W hs hc)
  have X := Lib.hid (And.intro ((Blk.new w 23 c.row).alloc (.cells (callRow k s t v h p) 27)) (And.intro (Blk.new2 w (.cells c.row 23) 27 (callRow k s t v h p)) (show Below w.heap.size w ((w.alloc (.cells c.row 23)).alloc (.cells (callRow k s t v h p) 27)) by go_grown)))
  have HQ := Lib.hid (show inq (homeq c s) n k = if k = 1 ∨ k = 6 then oneq 3 (homeq c s) ++ [⟨3, c.str + 1⟩, ⟨6, 0⟩, ⟨5, c.str + 1⟩] else if k = 4 then oneq 3 c.str else if k = 5 then oneq 2 c.str else if k = 7 then oneq 2 (homeq c s) else oneq 3 (c.str + 1) from by
    unfold inq
    rw [hn]
    by_cases h1 : k = 1 ∨ k = 6
    · rw [if_pos h1, if_pos h1]
    · rw [if_neg h1, if_neg h1, if_neg (by omega), if_neg (by omega)])
  have hcs : -1 ≤ c.str ∧ c.str ≤ 64 := by omega
  have hc1 := hcs.1
  have hc2 := hcs.2
  generalize homeq c s = H at *
  generalize inq H n k = R at *
  obtain ⟨CS, hCS⟩ : ∃ CS, CS = c.str := ⟨_, rfl⟩
  rw [← hCS] at HQ hc1 hc2
  have HCS := Lib.hid hCS
  obtain ⟨e2, e3⟩ := hk
  have d2 : (k == 2) = false := by simpa using e2
  have d3 : (k == 3) = false := by simpa using e3
  clear e2 e3 hc hn h64 hCS hcs
  have hd : (k = 1 ∧ (k == 1) = true) ∨ (k = 6 ∧ (k == 1) = false ∧ (k == 6) = true) ∨ ((k ≠ 1 ∧ k ≠ 6 ∧ k = 4) ∧ (k == 1) = false ∧ (k == 6) = false ∧ (k == 4) = true) ∨ (k = 5 ∧ (k == 1) = false ∧ (k == 6) = false ∧ (k == 4) = false ∧ (k == 5) = true) ∨ (k = 7 ∧ (k == 1) = false ∧ (k == 6) = false ∧ (k == 4) = false ∧ (k == 5) = false ∧ (k == 7) = true) ∨ ((k ≠ 1 ∧ k ≠ 6 ∧ k ≠ 4 ∧ k ≠ 5 ∧ k ≠ 7) ∧ (k == 1) = false ∧ (k == 6) = false ∧ (k == 4) = false ∧ (k == 5) = false ∧ (k == 7) = false) := by
    by_cases h1 : k = 1
    · exact .inl ⟨h1, by simpa using h1⟩
    by_cases h6 : k = 6
    · exact .inr (.inl ⟨h6, by simpa using h1, by simpa using h6⟩)
    by_cases h4 : k = 4
    · exact .inr (.inr (.inl ⟨⟨h1, h6, h4⟩, by simpa using h1, by simpa using h6, by simpa using h4⟩))
    by_cases h5 : k = 5
    · exact .inr (.inr (.inr (.inl ⟨h5, by simpa using h1, by simpa using h6, by simpa using h4, by simpa using h5⟩)))
    by_cases h7 : k = 7
    · exact .inr (.inr (.inr (.inr (.inl ⟨h7, by simpa using h1, by simpa using h6, by simpa using h4, by simpa using h5, by simpa using h7⟩))))
    · exact .inr (.inr (.inr (.inr (.inr ⟨⟨h1, h6, h4, h5, h7⟩, by simpa using h1, by simpa using h6, by simpa using h4, by simpa using h5, by simpa using h7⟩))))
  rcases hd with ⟨hk, g1⟩ | ⟨hk, g1, g6⟩ | ⟨hk, g1, g6, g4⟩ | ⟨hk, g1, g6, g4, g5⟩ | ⟨hk, g1, g6, g4, g5, g7⟩ | ⟨hk, g1, g6, g4, g5, g7⟩
  · have HE := Lib.hid (HQ.out.trans (if_pos (by omega)))
    clear hk HQ
    go_enter Try.func64, Try.ntmps64
    go_wp2_with (go_at_call 18; refine (HH.out _).mono ?_; rintro e v1 ⟨rfl, hb1⟩; have D1 := Lib.hid (X.out.2.2.trans (hb1.mono X.out.2.2.size)); have B1 := X.out.1.call hb1; have B2 := X.out.2.1.call hb1; have r0 := B1.cellv (i := 0) (v := .int .i64 CS) (by rw [HCS.out]; rfl); have k0 := B2.cellv (i := 0) (v := .int .i64 k) rfl; have z1 := B2.lt; clear hb1 B1 B2)
    go_ret
    exact ⟨_, rfl, by rw [HE.out]; exact own_blk (l := oneq 3 H ++ [(⟨3, CS + 1⟩ : COp), ⟨6, 0⟩, ⟨5, CS + 1⟩]) cop_len (Blk.new v1 36 _) rfl (by unfold oneq maxLen; simp) D1.out.size, D1.out.alloc D1.out.size _⟩
  · have HE := Lib.hid (HQ.out.trans (if_pos (by omega)))
    clear hk HQ
    go_enter Try.func64, Try.ntmps64
    go_wp2_with (go_at_call 18; refine (HH.out _).mono ?_; rintro e v1 ⟨rfl, hb1⟩; have D1 := Lib.hid (X.out.2.2.trans (hb1.mono X.out.2.2.size)); have B1 := X.out.1.call hb1; have B2 := X.out.2.1.call hb1; have r0 := B1.cellv (i := 0) (v := .int .i64 CS) (by rw [HCS.out]; rfl); have k0 := B2.cellv (i := 0) (v := .int .i64 k) rfl; have z1 := B2.lt; clear hb1 B1 B2)
    go_ret
    exact ⟨_, rfl, by rw [HE.out]; exact own_blk (l := oneq 3 H ++ [(⟨3, CS + 1⟩ : COp), ⟨6, 0⟩, ⟨5, CS + 1⟩]) cop_len (Blk.new v1 36 _) rfl (by unfold oneq maxLen; simp) D1.out.size, D1.out.alloc D1.out.size _⟩
  · have HE := Lib.hid (HQ.out.trans ((if_neg (by omega)).trans (if_pos (by omega))))
    clear hk HQ
    go_enter Try.func64, Try.ntmps64
    go_wp2_with (go_at_call 18; refine (HH.out _).mono ?_; rintro e v1 ⟨rfl, hb1⟩; have D1 := Lib.hid (X.out.2.2.trans (hb1.mono X.out.2.2.size)); have B1 := X.out.1.call hb1; have B2 := X.out.2.1.call hb1; have r0 := B1.cellv (i := 0) (v := .int .i64 CS) (by rw [HCS.out]; rfl); have k0 := B2.cellv (i := 0) (v := .int .i64 k) rfl; have z1 := B2.lt; clear hb1 B1 B2)
    go_ret
    exact ⟨_, rfl, by rw [HE.out]; exact own_blk (l := oneq 3 CS) cop_len (Blk.new v1 36 _) rfl (by unfold oneq maxLen; simp) D1.out.size, D1.out.alloc D1.out.size _⟩
  · have HE := Lib.hid (HQ.out.trans ((if_neg (by omega)).trans ((if_neg (by omega)).trans (if_pos (by omega)))))
    clear hk HQ
    go_enter Try.func64, Try.ntmps64
    go_wp2_with (go_at_call 18; refine (HH.out _).mono ?_; rintro e v1 ⟨rfl, hb1⟩; have D1 := Lib.hid (X.out.2.2.trans (hb1.mono X.out.2.2.size)); have B1 := X.out.1.call hb1; have B2 := X.out.2.1.call hb1; have r0 := B1.cellv (i := 0) (v := .int .i64 CS) (by rw [HCS.out]; rfl); have k0 := B2.cellv (i := 0) (v := .int .i64 k) rfl; have z1 := B2.lt; clear hb1 B1 B2)
    go_ret
    exact ⟨_, rfl, by rw [HE.out]; exact own_blk (l := oneq 2 CS) cop_len (Blk.new v1 36 _) rfl (by unfold oneq maxLen; simp) D1.out.size, D1.out.alloc D1.out.size _⟩
  · have HE := Lib.hid (HQ.out.trans ((if_neg (by omega)).trans ((if_neg (by omega)).trans ((if_neg (by omega)).trans (if_pos (by omega))))))
    clear hk HQ
    go_enter Try.func64, Try.ntmps64
    go_wp2_with (go_at_call 18; refine (HH.out _).mono ?_; rintro e v1 ⟨rfl, hb1⟩; have D1 := Lib.hid (X.out.2.2.trans (hb1.mono X.out.2.2.size)); have B1 := X.out.1.call hb1; have B2 := X.out.2.1.call hb1; have r0 := B1.cellv (i := 0) (v := .int .i64 CS) (by rw [HCS.out]; rfl); have k0 := B2.cellv (i := 0) (v := .int .i64 k) rfl; have z1 := B2.lt; clear hb1 B1 B2)
    go_ret
    exact ⟨_, rfl, by rw [HE.out]; exact own_blk (l := oneq 2 H) cop_len (Blk.new v1 36 _) rfl (by unfold oneq maxLen; simp) D1.out.size, D1.out.alloc D1.out.size _⟩
  · have HE := Lib.hid (HQ.out.trans ((if_neg (by omega)).trans ((if_neg (by omega)).trans ((if_neg (by omega)).trans (if_neg (by omega))))))
    clear hk HQ
    go_enter Try.func64, Try.ntmps64
    go_wp2_with (go_at_call 18; refine (HH.out _).mono ?_; rintro e v1 ⟨rfl, hb1⟩; have D1 := Lib.hid (X.out.2.2.trans (hb1.mono X.out.2.2.size)); have B1 := X.out.1.call hb1; have B2 := X.out.2.1.call hb1; have r0 := B1.cellv (i := 0) (v := .int .i64 CS) (by rw [HCS.out]; rfl); have k0 := B2.cellv (i := 0) (v := .int .i64 k) rfl; have z1 := B2.lt; clear hb1 B1 B2)
    go_ret
    exact ⟨_, rfl, by rw [HE.out]; exact own_blk (l := oneq 3 (CS + 1)) cop_len (Blk.new v1 36 _) rfl (by unfold oneq maxLen; simp) D1.out.size, D1.out.alloc D1.out.size _⟩
end Go.Proofs.Ytkjmacdekfbfhaa
