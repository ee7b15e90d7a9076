/- calls.inner, Ops: the walks. (fast region) -/
import Derived.Test.YtkjmacdekfbfhaaInner1
import Derived.Test.YtkjmacdekfbfhaaInner2
import Derived.Test.YtkjmacdekfbfhaaInner3
import Derived.Test.YtkjmacdekfbfhaaInner6
import Derived.Deep.Cut
namespace Go.Proofs.Ytkjmacdekfbfhaa
open Go.RowKit
set_option linter.unusedSimpArgs false
set_option linter.unusedVariables false
set_option maxHeartbeats 8000000
set_option maxRecDepth 100000
theorem inner_4 (c : Cfg) (k : Int) (s : ByteArray) (t v h : Int) (p : Pol) (n : Nat) (w : World) (hs : s.size ≤ maxLen) (hc : c.fit) (hn : c.str = n) (h64 : n ≤ 64) (hk : k ≠ 1 ∧ k ≠ 6 ∧ k ≠ 2 ∧ k ≠ 3) :
    Calls Try.prog 61 #[.agg c.row, .agg (callRow k s t v h p)] w (OwnedC w (inq (homeq c s) n k)) := by
  have HH := Lib.hid (fun W => calls_Home c s W hs hc)
  have HC := Lib.hid (fun W => calls_Cuts c W)
  have HL := Lib.hid (fun W => calls_Line c W (by omega) (by omega))
  have HO := Lib.hid (fun a b W => calls_one a b W)
  have X := Lib.hid (And.intro ((Blk.new w 23 c.row).alloc (.cells (callRow k s t v h p) 27)) (show Below w.heap.size w ((w.alloc (.cells c.row 23)).alloc (.cells (callRow k s t v h p) 27)) by go_grown))
  have HQ := Lib.hid (show inq (homeq c s) n k = if k = 4 then oneq 3 c.str else if k = 5 then oneq 2 c.str else if k = 7 then oneq 2 (homeq c s) else oneq 3 (c.str + 1) from by
    unfold inq; rw [if_neg (by omega), if_neg (by omega), if_neg (by omega), hn])
  generalize homeq c s = H at *
  generalize inq H n k = R at *
  obtain ⟨L, hL⟩ : ∃ L, L = c.str + 1 := ⟨_, rfl⟩
  rw [← hL] at HL HQ
  obtain ⟨e1, e6, e2, e3⟩ := hk
  have d1 : (k == 1) = false := by simpa using e1
  have d6 : (k == 6) = false := by simpa using e6
  have d2 : (k == 2) = false := by simpa using e2
  have d3 : (k == 3) = false := by simpa using e3
  clear e1 e6 e2 e3 hc hn h64 hL
  have hd : (k = 4 ∧ (k == 4) = true) ∨ (k = 5 ∧ (k == 4) = false ∧ (k == 5) = true) ∨ (k = 7 ∧ (k == 4) = false ∧ (k == 5) = false ∧ (k == 7) = true) ∨ ((k ≠ 4 ∧ k ≠ 5 ∧ k ≠ 7) ∧ (k == 4) = false ∧ (k == 5) = false ∧ (k == 7) = false) := by
    by_cases h4 : k = 4
    · exact .inl ⟨h4, by simpa using h4⟩
    by_cases h5 : k = 5
    · exact .inr (.inl ⟨h5, by simpa using h4, by simpa using h5⟩)
    by_cases h7 : k = 7
    · exact .inr (.inr (.inl ⟨h7, by simpa using h4, by simpa using h5, by simpa using h7⟩))
    · exact .inr (.inr (.inr ⟨⟨h4, h5, h7⟩, by simpa using h4, by simpa using h5, by simpa using h7⟩))
  rcases hd with ⟨hk, g4⟩ | ⟨hk, g4, g5⟩ | ⟨hk, g4, g5, g7⟩ | ⟨hk, g4, g5, g7⟩
  · have HE := Lib.hid (HQ.out.trans (if_pos hk))
    clear hk HQ HH HL
    go_enter Try.func61, Try.ntmps61
    go_wp2_with (first
      | (go_at_call 58; refine (HC.out _).mono ?_; rintro e v1 ⟨rfl, hb1⟩; have D1 := Lib.hid (X.out.2.trans (hb1.mono X.out.2.size)); clear hb1)
      | (go_at_call 101; refine (HO.out _ _ _).mono ?_; rintro e v2 ⟨V, rfl, o2, hb2⟩; have O2 := Lib.hid (o2.mono D1.out.size); have D2 := Lib.hid (D1.out.trans (hb2.mono D1.out.size)); clear o2 hb2))
    go_ret
    exact ⟨_, rfl, by rw [HE.out]; exact O2.out, D2.out⟩
  · have HE := Lib.hid (HQ.out.trans ((if_neg (by omega)).trans (if_pos hk)))
    clear hk HQ HH HL
    go_enter Try.func61, Try.ntmps61
    go_wp2_with (first
      | (go_at_call 58; refine (HC.out _).mono ?_; rintro e v1 ⟨rfl, hb1⟩; have D1 := Lib.hid (X.out.2.trans (hb1.mono X.out.2.size)); clear hb1)
      | (go_at_call 101; refine (HO.out _ _ _).mono ?_; rintro e v2 ⟨V, rfl, o2, hb2⟩; have O2 := Lib.hid (o2.mono D1.out.size); have D2 := Lib.hid (D1.out.trans (hb2.mono D1.out.size)); clear o2 hb2))
    go_ret
    exact ⟨_, rfl, by rw [HE.out]; exact O2.out, D2.out⟩
  · have HE := Lib.hid (HQ.out.trans ((if_neg (by omega)).trans ((if_neg (by omega)).trans (if_pos hk))))
    clear hk HQ HC HL
    go_enter Try.func61, Try.ntmps61
    go_wp2_with (first
      | (go_at_call 17; refine (HH.out _).mono ?_; rintro e v1 ⟨rfl, hb1⟩; have D1 := Lib.hid (X.out.2.trans (hb1.mono X.out.2.size)); clear hb1)
      | (go_at_call 101; refine (HO.out _ _ _).mono ?_; rintro e v2 ⟨V, rfl, o2, hb2⟩; have O2 := Lib.hid (o2.mono D1.out.size); have D2 := Lib.hid (D1.out.trans (hb2.mono D1.out.size)); clear o2 hb2))
    go_ret
    exact ⟨_, rfl, by rw [HE.out]; exact O2.out, D2.out⟩
  · have HE := Lib.hid (HQ.out.trans ((if_neg (by omega)).trans ((if_neg (by omega)).trans (if_neg (by omega)))))
    clear hk HQ HC HH
    go_enter Try.func61, Try.ntmps61
    go_wp2_with (first
      | (go_at_call 57; refine (HL.out _).mono ?_; rintro e v1 ⟨rfl, hb1⟩; have D1 := Lib.hid (X.out.2.trans (hb1.mono X.out.2.size)); clear hb1)
      | (go_at_call 101; refine (HO.out _ _ _).mono ?_; rintro e v2 ⟨V, rfl, o2, hb2⟩; have O2 := Lib.hid (o2.mono D1.out.size); have D2 := Lib.hid (D1.out.trans (hb2.mono D1.out.size)); clear o2 hb2))
    go_ret
    exact ⟨_, rfl, by rw [HE.out]; exact O2.out, D2.out⟩
theorem calls_inner (c : Cfg) (k : Int) (s : ByteArray) (t v h : Int) (p : Pol) (n : Nat) (w : World) (hs : s.size ≤ maxLen) (hc : c.fit) (hn : c.str = n) (h64 : n ≤ 64) :
    Calls Try.prog 61 #[.agg c.row, .agg (callRow k s t v h p)] w (OwnedC w (inq (homeq c s) n k)) := by
  by_cases h1 : k = 1
  · exact inner_1 c k s t v h p n w hs hc hn h64 h1
  by_cases h6 : k = 6
  · exact inner_6 c k s t v h p n w hs hc hn h64 h6
  by_cases h2 : k = 2
  · exact inner_2 c k s t v h p n w hn h64 _ h2
  by_cases h3 : k = 3
  · exact inner_3 c k s t v h p n w hn h64 _ h3
  exact inner_4 c k s t v h p n w hs hc hn h64 ⟨h1, h6, h2, h3⟩
end Go.Proofs.Ytkjmacdekfbfhaa
