/- flywheelref29.Inner, Ops; calls.Ops: the walks. (fast region) -/
import Derived.Test.YtkjmacdekfbfhaaRInner
import Derived.Deep.Cut
namespace Go.Proofs.Ytkjmacdekfbfhaa
open Go.RowKit
set_option linter.unusedSimpArgs false
set_option linter.unusedVariables false
set_option maxHeartbeats 8000000
set_option maxRecDepth 100000
theorem rInner_2 (c : Cfg) (k : Int) (s : ByteArray) (t v h : Int) (p : Pol) (n : Nat) (w : World) (hs : s.size ≤ maxLen) (hc : c.fit) (hn : c.str = n) (h64 : n ≤ 64) (hk : k = 2) :
    Calls Try.prog 64 #[.agg c.row, .agg (callRow k s t v h p)] w (OwnedD w (inq (homeq c s) n k)) := by
  have HH := Lib.hid (fun W => ref29_Home c s W hs hc)
  have X := Lib.hid (And.intro ((Blk.new w 23 c.row).alloc (.cells (callRow k s t v h p) 27)) (And.intro (Blk.new2 w (.cells c.row 23) 27 (callRow k s t v h p)) (show Below w.heap.size w ((w.alloc (.cells c.row 23)).alloc (.cells (callRow k s t v h p) 27)) by go_grown)))
  have HQ := Lib.hid (show inq (homeq c s) n k = allq n 3 ++ [⟨4, 0⟩] ++ allq n 5 from by unfold inq; rw [if_neg (by omega), if_pos hk])
  generalize homeq c s = H at *
  generalize inq H n k = R at *
  have HCS := Lib.hid hn
  have d1 : (k == 1) = false := by subst hk; rfl
  have d6 : (k == 6) = false := by subst hk; rfl
  have d2 : (k == 2) = true := by subst hk; rfl
  clear hc hn hk
  go_enter Try.func64, Try.ntmps64
  go_wp2_with (go_at_call 18; refine (HH.out _).mono ?_; rintro e v1 ⟨rfl, hb1⟩; have D1 := Lib.hid (X.out.2.2.trans (hb1.mono X.out.2.2.size)); have B1 := X.out.1.call hb1; have B2 := X.out.2.1.call hb1; have HC1 := Lib.hid B1; have HZ := Lib.hid B1.lt; have r0 := B1.cellv (i := 0) (v := .int .i64 (n : Int)) (by rw [← HCS.out]; rfl); have k0 := B2.cellv (i := 0) (v := .int .i64 k) rfl; have z1 := B2.lt; clear hb1 B1 B2)
  go_loopw [7, 8] (fun vv i wr => ∃ j : Nat, j ≤ n ∧ i = .int .i64 j ∧ (∃ A m cc, vv = .slice A m cc) ∧ OwnD wr v1.heap.size vv (allq j 3) ∧ Below v1.heap.size v1 wr) (fun _ i _ => n - (intOf i).toNat)
  case atStart => exact ⟨0, Nat.zero_le _, rfl, ⟨_, _, _, rfl⟩, Own.nil _ _ _ _ _, Below.refl _ _⟩
  case round =>
    obtain ⟨j, hj, rfl, ⟨A, m, cc, rfl⟩, ho, hb⟩ := hrel
    have HO := Lib.hid ho
    have HB := Lib.hid hb
    have hbs := hb.size
    have r0 := (HC1.out.below hb HZ.out).cellv (i := 0) (v := .int .i64 (n : Int)) (by rw [← HCS.out]; rfl)
    clear ho hb
    by_cases hlt : j < n
    · have hji : (j : Int) < (n : Int) := by omega
      have HLn := Lib.hid (show (allq j 3).length < 1000000 by simp [allq_len]; omega)
      have HN := Lib.hid (show (allq (j + 1) 3) = (allq j 3) ++ [⟨3, (j : Int)⟩] from by exact allq_snoc j 3)
      go_wp2_with (at_builtin; refine push_d _ rfl (.tmp 43) (.tmp 46) rfl v1.heap.size (.slice A m cc) _ rfl (HO.out.alloc _) wr.heap.size 36 1 ⟨3, (j : Int)⟩ rfl (Blk.new _ _ _) HLn.out (by simp; omega) ?_; intro v' w1 ho hb2 hg2; obtain ⟨A2, n2, c2, rfl, -, -⟩ := ho.shape cop_len; have O2 := Lib.hid ho; have B2 := Lib.hid ((HB.out.alloc HB.out.size _).trans hb2); clear ho hb2 hg2 r0)
      go_roundw
      case rel => exact ⟨j + 1, by omega, by go_num, ⟨_, _, _, rfl⟩, by rw [HN.out]; exact O2.out, B2.out⟩
      case measure => simp [intOf]; omega
    · obtain rfl : n = j := by omega
      clear hlt
      have HLm := Lib.hid (show (allq n 3).length < 1000000 by rw [allq_len]; omega)
      go_wp2_with (at_builtin; refine push_d _ rfl (.tmp 48) (.tmp 50) rfl v1.heap.size (.slice A m cc) _ rfl (HO.out.alloc _) wr.heap.size 36 1 ⟨4, 0⟩ rfl (Blk.new _ _ _) HLm.out (by simp; omega) ?_; intro v' w2 ho hb2 hg2; obtain ⟨A2, m2, c2, rfl, -, -⟩ := ho.shape cop_len; have O2 := Lib.hid ho; have B2 := Lib.hid ((HB.out.alloc HB.out.size _).trans hb2); clear ho hb2 hg2 r0)
      go_loopw [7, 9] (fun vv i wr => ∃ j : Nat, j ≤ n ∧ i = .int .i64 j ∧ (∃ A m cc, vv = .slice A m cc) ∧ OwnD wr v1.heap.size vv ((allq n 3 ++ [(⟨4, 0⟩ : COp)]) ++ allq j 5) ∧ Below v1.heap.size v1 wr) (fun _ i _ => n - (intOf i).toNat)
      case atStart => exact ⟨0, Nat.zero_le _, rfl, ⟨_, _, _, rfl⟩, by rw [show allq 0 5 = [] from rfl, List.append_nil]; exact O2.out, B2.out⟩
      case round =>
        obtain ⟨j, hj, rfl, ⟨A, m, cc, rfl⟩, ho, hb⟩ := hrel
        have HO := Lib.hid ho
        have HB := Lib.hid hb
        have hbs := hb.size
        have r0 := (HC1.out.below hb HZ.out).cellv (i := 0) (v := .int .i64 (n : Int)) (by rw [← HCS.out]; rfl)
        clear ho hb
        by_cases hlt : j < n
        · have hji : (j : Int) < (n : Int) := by omega
          have HLn := Lib.hid (show ((allq n 3 ++ [(⟨4, 0⟩ : COp)]) ++ allq j 5).length < 1000000 by simp [allq_len]; omega)
          have HN := Lib.hid (show ((allq n 3 ++ [(⟨4, 0⟩ : COp)]) ++ allq (j + 1) 5) = ((allq n 3 ++ [(⟨4, 0⟩ : COp)]) ++ allq j 5) ++ [⟨5, (j : Int)⟩] from by rw [allq_snoc, ← List.append_assoc])
          go_wp2_with (at_builtin; refine push_d _ rfl (.tmp 58) (.tmp 61) rfl v1.heap.size (.slice A m cc) _ rfl (HO.out.alloc _) wr.heap.size 36 1 ⟨5, (j : Int)⟩ rfl (Blk.new _ _ _) HLn.out (by simp; omega) ?_; intro v' w1 ho hb2 hg2; obtain ⟨A2, n2, c2, rfl, -, -⟩ := ho.shape cop_len; have O2 := Lib.hid ho; have B2 := Lib.hid ((HB.out.alloc HB.out.size _).trans hb2); clear ho hb2 hg2 r0)
          go_roundw
          case rel => exact ⟨j + 1, by omega, by go_num, ⟨_, _, _, rfl⟩, by rw [HN.out]; exact O2.out, B2.out⟩
          case measure => simp [intOf]; omega
        · obtain rfl : n = j := by omega
          clear hlt
          go_wp2
          go_ret
          exact ⟨_, rfl, by rw [HQ.out]; exact HO.out.mono D1.out.size, D1.out.trans (HB.out.mono D1.out.size)⟩
theorem rInner_3 (c : Cfg) (k : Int) (s : ByteArray) (t v h : Int) (p : Pol) (n : Nat) (w : World) (hs : s.size ≤ maxLen) (hc : c.fit) (hn : c.str = n) (h64 : n ≤ 64) (hk : k = 3) :
    Calls Try.prog 64 #[.agg c.row, .agg (callRow k s t v h p)] w (OwnedD w (inq (homeq c s) n k)) := by
  have HH := Lib.hid (fun W => ref29_Home c s W hs hc)
  have X := Lib.hid (And.intro ((Blk.new w 23 c.row).alloc (.cells (callRow k s t v h p) 27)) (And.intro (Blk.new2 w (.cells c.row 23) 27 (callRow k s t v h p)) (show Below w.heap.size w ((w.alloc (.cells c.row 23)).alloc (.cells (callRow k s t v h p) 27)) by go_grown)))
  have HQ := Lib.hid (show inq (homeq c s) n k = allq n 2 ++ oneq 3 n ++ allq n 5 from by unfold inq; rw [if_neg (by omega), if_neg (by omega), if_pos hk])
  generalize homeq c s = H at *
  generalize inq H n k = R at *
  have HCS := Lib.hid hn
  have d1 : (k == 1) = false := by subst hk; rfl
  have d6 : (k == 6) = false := by subst hk; rfl
  have d2 : (k == 2) = false := by subst hk; rfl
  have d3 : (k == 3) = true := by subst hk; rfl
  clear hc hn hk
  go_enter Try.func64, Try.ntmps64
  go_wp2_with (go_at_call 18; refine (HH.out _).mono ?_; rintro e v1 ⟨rfl, hb1⟩; have D1 := Lib.hid (X.out.2.2.trans (hb1.mono X.out.2.2.size)); have B1 := X.out.1.call hb1; have B2 := X.out.2.1.call hb1; have HC1 := Lib.hid B1; have HZ := Lib.hid B1.lt; have r0 := B1.cellv (i := 0) (v := .int .i64 (n : Int)) (by rw [← HCS.out]; rfl); have k0 := B2.cellv (i := 0) (v := .int .i64 k) rfl; have z1 := B2.lt; clear hb1 B1 B2)
  go_loopw [7, 10] (fun vv i wr => ∃ j : Nat, j ≤ n ∧ i = .int .i64 j ∧ (∃ A m cc, vv = .slice A m cc) ∧ OwnD wr v1.heap.size vv (allq j 2) ∧ Below v1.heap.size v1 wr) (fun _ i _ => n - (intOf i).toNat)
  case atStart => exact ⟨0, Nat.zero_le _, rfl, ⟨_, _, _, rfl⟩, Own.nil _ _ _ _ _, Below.refl _ _⟩
  case round =>
    obtain ⟨j, hj, rfl, ⟨A, m, cc, rfl⟩, ho, hb⟩ := hrel
    have HO := Lib.hid ho
    have HB := Lib.hid hb
    have hbs := hb.size
    have r0 := (HC1.out.below hb HZ.out).cellv (i := 0) (v := .int .i64 (n : Int)) (by rw [← HCS.out]; rfl)
    clear ho hb
    by_cases hlt : j < n
    · have hji : (j : Int) < (n : Int) := by omega
      have HLn := Lib.hid (show (allq j 2).length < 1000000 by simp [allq_len]; omega)
      have HN := Lib.hid (show (allq (j + 1) 2) = (allq j 2) ++ [⟨2, (j : Int)⟩] from by exact allq_snoc j 2)
      go_wp2_with (at_builtin; refine push_d _ rfl (.tmp 72) (.tmp 75) rfl v1.heap.size (.slice A m cc) _ rfl (HO.out.alloc _) wr.heap.size 36 1 ⟨2, (j : Int)⟩ rfl (Blk.new _ _ _) HLn.out (by simp; omega) ?_; intro v' w1 ho hb2 hg2; obtain ⟨A2, n2, c2, rfl, -, -⟩ := ho.shape cop_len; have O2 := Lib.hid ho; have B2 := Lib.hid ((HB.out.alloc HB.out.size _).trans hb2); clear ho hb2 hg2 r0)
      go_roundw
      case rel => exact ⟨j + 1, by omega, by go_num, ⟨_, _, _, rfl⟩, by rw [HN.out]; exact O2.out, B2.out⟩
      case measure => simp [intOf]; omega
    · obtain rfl : n = j := by omega
      clear hlt
      have HLm := Lib.hid (show (allq n 2).length + 3 < 1000000 by rw [allq_len]; omega)
      go_wp2_with (at_builtin; refine cat_d _ rfl (.tmp 77) (.tmp 85) rfl v1.heap.size (.slice A m cc) _ rfl (HO.out.alloc _) (some ⟨wr.heap.size, 0, none⟩) 3 3 (oneq 3 n) rfl (slice_blk (l := oneq 3 (n : Int)) cop_len (Blk.new _ 36 _) rfl (by unfold oneq maxLen; simp)) HLm.out (by simp; omega) ?_; intro v' w2 ho hb2 hg2; obtain ⟨A2, m2, c2, rfl, -, -⟩ := ho.shape cop_len; have O2 := Lib.hid ho; have B2 := Lib.hid ((HB.out.alloc HB.out.size _).trans hb2); clear ho hb2 hg2 r0)
      go_loopw [7, 11] (fun vv i wr => ∃ j : Nat, j ≤ n ∧ i = .int .i64 j ∧ (∃ A m cc, vv = .slice A m cc) ∧ OwnD wr v1.heap.size vv ((allq n 2 ++ oneq 3 n) ++ allq j 5) ∧ Below v1.heap.size v1 wr) (fun _ i _ => n - (intOf i).toNat)
      case atStart => exact ⟨0, Nat.zero_le _, rfl, ⟨_, _, _, rfl⟩, by rw [show allq 0 5 = [] from rfl, List.append_nil]; exact O2.out, B2.out⟩
      case round =>
        obtain ⟨j, hj, rfl, ⟨A, m, cc, rfl⟩, ho, hb⟩ := hrel
        have HO := Lib.hid ho
        have HB := Lib.hid hb
        have hbs := hb.size
        have r0 := (HC1.out.below hb HZ.out).cellv (i := 0) (v := .int .i64 (n : Int)) (by rw [← HCS.out]; rfl)
        clear ho hb
        by_cases hlt : j < n
        · have hji : (j : Int) < (n : Int) := by omega
          have HLn := Lib.hid (show ((allq n 2 ++ oneq 3 n) ++ allq j 5).length < 1000000 by simp [allq_len, oneq]; omega)
          have HN := Lib.hid (show ((allq n 2 ++ oneq 3 n) ++ allq (j + 1) 5) = ((allq n 2 ++ oneq 3 n) ++ allq j 5) ++ [⟨5, (j : Int)⟩] from by rw [allq_snoc, ← List.append_assoc])
          go_wp2_with (at_builtin; refine push_d _ rfl (.tmp 93) (.tmp 96) rfl v1.heap.size (.slice A m cc) _ rfl (HO.out.alloc _) wr.heap.size 36 1 ⟨5, (j : Int)⟩ rfl (Blk.new _ _ _) HLn.out (by simp; omega) ?_; intro v' w1 ho hb2 hg2; obtain ⟨A2, n2, c2, rfl, -, -⟩ := ho.shape cop_len; have O2 := Lib.hid ho; have B2 := Lib.hid ((HB.out.alloc HB.out.size _).trans hb2); clear ho hb2 hg2 r0)
          go_roundw
          case rel => exact ⟨j + 1, by omega, by go_num, ⟨_, _, _, rfl⟩, by rw [HN.out]; exact O2.out, B2.out⟩
          case measure => simp [intOf]; omega
        · obtain rfl : n = j := by omega
          clear hlt
          go_wp2
          go_ret
          exact ⟨_, rfl, by rw [HQ.out]; exact HO.out.mono D1.out.size, D1.out.trans (HB.out.mono D1.out.size)⟩
theorem ref29_Inner (c : Cfg) (k : Int) (s : ByteArray) (t v h : Int) (p : Pol) (n : Nat) (w : World) (hs : s.size ≤ maxLen) (hc : c.fit) (hn : c.str = n) (h64 : n ≤ 64) :
    Calls Try.prog 64 #[.agg c.row, .agg (callRow k s t v h p)] w (OwnedD w (inq (homeq c s) n k)) := by
  by_cases h2 : k = 2
  · exact rInner_2 c k s t v h p n w hs hc hn h64 h2
  by_cases h3 : k = 3
  · exact rInner_3 c k s t v h p n w hs hc hn h64 h3
  exact rInner_s c k s t v h p n w hs hc hn h64 ⟨h2, h3⟩
end Go.Proofs.Ytkjmacdekfbfhaa
