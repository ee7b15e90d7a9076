/- flywheelref46.put at a slice that is there. -/
import Derived.Test.YtkjmacdekfbfhaaBPut
namespace Go.Proofs.Ytkjmacdekfbfhaa
open Go.RowKit
set_option linter.unusedSimpArgs false
set_option linter.unusedVariables false
set_option maxHeartbeats 8000000
set_option maxRecDepth 100000
theorem ref46_put_some (g n co : Nat) (l : List Smp) (t v : Int) (w : World) (hs : SmpsAre w (some ⟨g, 0, none⟩) n co l) (hn : n ≤ 1000) (hv : 0 ≤ v ∧ v ≤ mxI) (hl : ∀ x ∈ l, 0 ≤ x.value ∧ x.value ≤ mxI) :
    Calls Try.prog 78 #[.slice (some ⟨g, 0, none⟩) n co, .int .i64 t, .int .i64 v] w (PutP w (putM t v l)) := by
  have HS := Lib.hid hs
  have HLl := Lib.hid hs.1
  have HV := Lib.hid hv
  have HVs := Lib.hid hl
  have hnc : n ≤ co := hs.2.1
  have hcm : co ≤ 9223372036854775807 := by have := hs.2.2.1; unfold maxLen at this; omega
  have hgw : 0 < n → g < w.heap.size := fun h => (hs.2.2.2.2 _ rfl).2 h |>.1
  have O0 := Lib.hid (ownS_madeB w w.heap.size (Nat.le_refl _))
  have E0 := Lib.hid ((Below.refl w.heap.size w).alloc (Nat.le_refl _) (.cells #[] 65))
  clear hs hl
  go_enter Try.func78, Try.ntmps78
  go_wp2
  go_loopw [7] (fun a wr => ∃ j : Nat, j ≤ n ∧ a = .int .i64 j ∧ LtT l t j ∧ w = wr) (fun a _ => n - (intOf a).toNat)
  case atStart => exact ⟨0, Nat.zero_le _, rfl, (fun i y hi => by omega), rfl⟩
  case round =>
    obtain ⟨j, hj, rfl, hle, rfl⟩ := hrel
    have HLe := Lib.hid hle
    clear hle
    by_cases hc : j < n
    · obtain ⟨bg, og, y, hA, hy, hgb, hcx, hcy⟩ := SmpsAre.at_ HS.out hc
      cases hA
      rw [Nat.zero_add] at hcx hcy
      have hji : (j : Int) < (n : Int) := by omega
      have HY := Lib.hid hy
      have HYv := Lib.hid (HVs.out y (List.mem_of_getElem? hy))
      have HGb := Lib.hid hgb
      have HCx := Lib.hid hcx
      have HCy := Lib.hid hcy
      obtain ⟨yt, yv⟩ := y
      dsimp only at hcx hcy HCx HCy
      clear hy hgb
      by_cases hyt : yt < t
      · have HLn := Lib.hid (HLe.out.next HY.out hyt)
        go_wp2
        go_roundw
        case rel => exact ⟨j + 1, by omega, by go_num, HLn.out, by first | rfl | trivial⟩
        case measure => simp [intOf]; omega
      · have dy : decide (yt < t) = false := by simpa using hyt
        have hjc : j ≤ co := by omega
        have hjc1 : (j : Int) + 1 ≤ (co : Int) := by omega
        have hjn1 : (j : Int) + 1 ≤ (n : Int) := by omega
        by_cases he : yt = t
        · subst he
          have de : (yt == yt) = true := by simp
          have HP := Lib.hid (putM_eq (v := v) HLe.out HY.out rfl)
          have HAd := Lib.hid (ref_Add yv v)
          have HI1 := Lib.hid (show I64 yv from by have := HYv.out; unfold I64 mxI at *; simp only at this; omega)
          have HI2 := Lib.hid (show I64 v from by have := HV.out; unfold I64 mxI at *; omega)
          have HSq := Lib.hid (show satq (yv + v) = min mxI (yv + v) from by have := HYv.out; have := HV.out; unfold satq mxI at *; simp only at *; omega)
          by_cases hjc2 : co = j + 1
          · obtain rfl : n = j + 1 := by omega
            subst hjc2
            have HD0 := Lib.hid (show l.drop (j + 1) = [] from List.drop_eq_nil_of_le (by rw [HLl.out]; omega))
            go_wp2_with (first
              | (at_builtin; refine cat_smp _ rfl (.tmp 24) (.tmp 27) rfl w.heap.size (.slice (some ⟨w.heap.size, 0, none⟩) 0 0) [] rfl O0.out (some ⟨g, 0, none⟩) j (j + 1) (l.take j) rfl (slice_take (slice_keep HS.out (by go_grown)) (by omega)) (by simp; omega) (by simp) ?_; intro v' w' ho hb2 hg2; obtain ⟨A5, n5, c5, rfl, -, -⟩ := ownS_isB ho; have O5 := Lib.hid ho; have F5 := Lib.hid (Below.trans E0.out hb2); clear ho hb2 hg2; have kx5 := (F5.out.cell (p := ⟨g, j * 2, none⟩) HGb.out).trans HCx.out; have ky5 := (F5.out.cell (p := ⟨g, j * 2 + 1, none⟩) HGb.out).trans HCy.out)
              | (go_at_call 94; refine (HAd.out _ HI1.out HI2.out).mono ?_; rintro e wz ⟨rfl, rfl⟩; rw [HSq.out])
              | (at_builtin; refine push_smp _ rfl (.tmp 42) (.tmp 52) rfl w.heap.size (.slice A5 n5 c5) _ rfl (Own.alloc O5.out _) _ 65 1 ⟨yt, min mxI (yv + v)⟩ rfl (Blk.new _ 65 #[.int .i64 yt, .int .i64 (min mxI (yv + v))]) (by have := HLl.out; simp; omega) ((F5.out.alloc F5.out.size _).size) ?_; intro v' w' ho hb2 hgx; obtain ⟨A6, n6, c6, rfl, -, -⟩ := ownS_isB ho; have O6 := Lib.hid ho; have F6 := Lib.hid (Below.trans (F5.out.alloc F5.out.size (.cells #[.int .i64 yt, .int .i64 (min mxI (yv + v))] 65)) hb2); clear ho hb2 hgx)
              | (at_builtin; refine cat_smp _ rfl (.tmp 54) (.tmp 58) rfl w.heap.size (.slice A6 n6 c6) _ rfl O6.out (some ⟨g, 0, none⟩) (0) (0) (l.drop (j + 1)) rfl (by rw [HD0.out]; exact ⟨rfl, Nat.le_refl _, Nat.zero_le _, (fun h => by cases h), fun a ha => ⟨fun i x hi => by simp at hi, fun h => absurd h (by omega)⟩⟩) (by have := HLl.out; simp; omega) (F6.out.size) ?_; intro v' w' ho hb2 hg2; obtain ⟨A7, n7, c7, rfl, -, -⟩ := ownS_isB ho; have O7 := Lib.hid ho; have F7 := Lib.hid (F6.out.trans hb2); clear ho hb2 hg2))
            go_ret
            exact ⟨_, _, _, rfl, by rw [HP.out]; simpa using O7.out, F7.out⟩
          · have hjc3 : ¬ (co = j + 1) := hjc2
            go_wp2_with (first
              | (at_builtin; refine cat_smp _ rfl (.tmp 24) (.tmp 27) rfl w.heap.size (.slice (some ⟨w.heap.size, 0, none⟩) 0 0) [] rfl O0.out (some ⟨g, 0, none⟩) j co (l.take j) rfl (slice_take (slice_keep HS.out (by go_grown)) (by omega)) (by simp; omega) (by simp) ?_; intro v' w' ho hb2 hg2; obtain ⟨A5, n5, c5, rfl, -, -⟩ := ownS_isB ho; have O5 := Lib.hid ho; have F5 := Lib.hid (Below.trans E0.out hb2); clear ho hb2 hg2; have kx5 := (F5.out.cell (p := ⟨g, j * 2, none⟩) HGb.out).trans HCx.out; have ky5 := (F5.out.cell (p := ⟨g, j * 2 + 1, none⟩) HGb.out).trans HCy.out)
              | (go_at_call 94; refine (HAd.out _ HI1.out HI2.out).mono ?_; rintro e wz ⟨rfl, rfl⟩; rw [HSq.out])
              | (at_builtin; refine push_smp _ rfl (.tmp 42) (.tmp 52) rfl w.heap.size (.slice A5 n5 c5) _ rfl (Own.alloc O5.out _) _ 65 1 ⟨yt, min mxI (yv + v)⟩ rfl (Blk.new _ 65 #[.int .i64 yt, .int .i64 (min mxI (yv + v))]) (by have := HLl.out; simp; omega) ((F5.out.alloc F5.out.size _).size) ?_; intro v' w' ho hb2 hgx; obtain ⟨A6, n6, c6, rfl, -, -⟩ := ownS_isB ho; have O6 := Lib.hid ho; have F6 := Lib.hid (Below.trans (F5.out.alloc F5.out.size (.cells #[.int .i64 yt, .int .i64 (min mxI (yv + v))] 65)) hb2); clear ho hb2 hgx)
              | (at_builtin; refine cat_smp _ rfl (.tmp 54) (.tmp 58) rfl w.heap.size (.slice A6 n6 c6) _ rfl O6.out (some ⟨g, (j + 1) * 2, none⟩) (n - (j + 1)) (co - (j + 1)) (l.drop (j + 1)) rfl (by have := slice_drop (k := j + 1) (slice_keep HS.out F6.out) (by omega); simpa using this) (by have := HLl.out; simp; omega) (F6.out.size) ?_; intro v' w' ho hb2 hg2; obtain ⟨A7, n7, c7, rfl, -, -⟩ := ownS_isB ho; have O7 := Lib.hid ho; have F7 := Lib.hid (F6.out.trans hb2); clear ho hb2 hg2))
            go_ret
            exact ⟨_, _, _, rfl, by rw [HP.out]; simpa using O7.out, F7.out⟩
        · have de : (yt == t) = false := by simpa using he
          have HP := Lib.hid (putM_gt (v := v) HLe.out HY.out (show t < yt by omega))
          have hjc2 : ¬ (co = j) := by omega
          have hjn : j ≤ n := by omega
          go_wp2_with (first
            | (at_builtin; refine cat_smp _ rfl (.tmp 24) (.tmp 27) rfl w.heap.size (.slice (some ⟨w.heap.size, 0, none⟩) 0 0) [] rfl O0.out (some ⟨g, 0, none⟩) j co (l.take j) rfl (slice_take (slice_keep HS.out (by go_grown)) (by omega)) (by simp; omega) (by simp) ?_; intro v' w' ho hb2 hg2; obtain ⟨A5, n5, c5, rfl, -, -⟩ := ownS_isB ho; have O5 := Lib.hid ho; have F5 := Lib.hid (Below.trans E0.out hb2); clear ho hb2 hg2; have kx5 := (F5.out.cell (p := ⟨g, j * 2, none⟩) HGb.out).trans HCx.out; have ky5 := (F5.out.cell (p := ⟨g, j * 2 + 1, none⟩) HGb.out).trans HCy.out)
            | (at_builtin; refine push_smp _ rfl (.tmp 60) (.tmp 64) rfl w.heap.size (.slice A5 n5 c5) _ rfl (Own.alloc O5.out _) _ 65 1 ⟨t, v⟩ rfl (Blk.new _ 65 #[.int .i64 t, .int .i64 (v)]) (by have := HLl.out; simp; omega) ((F5.out.alloc F5.out.size _).size) ?_; intro v' w' ho hb2 hgx; obtain ⟨A6, n6, c6, rfl, -, -⟩ := ownS_isB ho; have O6 := Lib.hid ho; have F6 := Lib.hid (Below.trans (F5.out.alloc F5.out.size (.cells #[.int .i64 t, .int .i64 (v)] 65)) hb2); clear ho hb2 hgx)
            | (at_builtin; refine cat_smp _ rfl (.tmp 66) (.tmp 69) rfl w.heap.size (.slice A6 n6 c6) _ rfl O6.out (some ⟨g, j * 2, none⟩) (n - j) (co - j) (l.drop j) rfl (by have := slice_drop (k := j) (slice_keep HS.out F6.out) (by omega); simpa using this) (by have := HLl.out; simp; omega) (F6.out.size) ?_; intro v' w' ho hb2 hg2; obtain ⟨A7, n7, c7, rfl, -, -⟩ := ownS_isB ho; have O7 := Lib.hid ho; have F7 := Lib.hid (F6.out.trans hb2); clear ho hb2 hg2))
          go_ret
          exact ⟨_, _, _, rfl, by rw [HP.out]; simpa using O7.out, F7.out⟩
    · obtain rfl : j = n := by omega
      have dj : decide ((j : Int) < (j : Int)) = false := by simp
      have HP := Lib.hid (show putM t v l = l.take j ++ [⟨t, v⟩] ++ l.drop j from by have := putM_end (t := t) (v := v) (l := l) (by rw [HLl.out]; exact HLe.out); rwa [HLl.out] at this)
      by_cases hjc2 : co = j
      · subst hjc2
        have HD0 := Lib.hid (show l.drop co = [] from List.drop_eq_nil_of_le (by rw [HLl.out]; omega))
        go_wp2_with (first
          | (at_builtin; refine cat_smp _ rfl (.tmp 24) (.tmp 27) rfl w.heap.size (.slice (some ⟨w.heap.size, 0, none⟩) 0 0) [] rfl O0.out (some ⟨g, 0, none⟩) co co (l.take co) rfl (slice_take (slice_keep HS.out (by go_grown)) (by omega)) (by simp; omega) (by simp) ?_; intro v' w' ho hb2 hg2; obtain ⟨A5, n5, c5, rfl, -, -⟩ := ownS_isB ho; have O5 := Lib.hid ho; have F5 := Lib.hid (Below.trans E0.out hb2); clear ho hb2 hg2)
          | (at_builtin; refine push_smp _ rfl (.tmp 60) (.tmp 64) rfl w.heap.size (.slice A5 n5 c5) _ rfl (Own.alloc O5.out _) _ 65 1 ⟨t, v⟩ rfl (Blk.new _ 65 #[.int .i64 t, .int .i64 (v)]) (by have := HLl.out; simp; omega) ((F5.out.alloc F5.out.size _).size) ?_; intro v' w' ho hb2 hgx; obtain ⟨A6, n6, c6, rfl, -, -⟩ := ownS_isB ho; have O6 := Lib.hid ho; have F6 := Lib.hid (Below.trans (F5.out.alloc F5.out.size (.cells #[.int .i64 t, .int .i64 (v)] 65)) hb2); clear ho hb2 hgx)
          | (at_builtin; refine cat_smp _ rfl (.tmp 66) (.tmp 69) rfl w.heap.size (.slice A6 n6 c6) _ rfl O6.out (some ⟨g, 0, none⟩) (0) (0) (l.drop co) rfl (by rw [HD0.out]; exact ⟨rfl, Nat.le_refl _, Nat.zero_le _, (fun h => by cases h), fun a ha => ⟨fun i x hi => by simp at hi, fun h => absurd h (by omega)⟩⟩) (by have := HLl.out; simp; omega) (F6.out.size) ?_; intro v' w' ho hb2 hg2; obtain ⟨A7, n7, c7, rfl, -, -⟩ := ownS_isB ho; have O7 := Lib.hid ho; have F7 := Lib.hid (F6.out.trans hb2); clear ho hb2 hg2))
        go_ret
        exact ⟨_, _, _, rfl, by rw [HP.out]; simpa using O7.out, F7.out⟩
      · have hjc3 : ¬ (co = j) := hjc2
        go_wp2_with (first
          | (at_builtin; refine cat_smp _ rfl (.tmp 24) (.tmp 27) rfl w.heap.size (.slice (some ⟨w.heap.size, 0, none⟩) 0 0) [] rfl O0.out (some ⟨g, 0, none⟩) j co (l.take j) rfl (slice_take (slice_keep HS.out (by go_grown)) (by omega)) (by simp; omega) (by simp) ?_; intro v' w' ho hb2 hg2; obtain ⟨A5, n5, c5, rfl, -, -⟩ := ownS_isB ho; have O5 := Lib.hid ho; have F5 := Lib.hid (Below.trans E0.out hb2); clear ho hb2 hg2)
          | (at_builtin; refine push_smp _ rfl (.tmp 60) (.tmp 64) rfl w.heap.size (.slice A5 n5 c5) _ rfl (Own.alloc O5.out _) _ 65 1 ⟨t, v⟩ rfl (Blk.new _ 65 #[.int .i64 t, .int .i64 (v)]) (by have := HLl.out; simp; omega) ((F5.out.alloc F5.out.size _).size) ?_; intro v' w' ho hb2 hgx; obtain ⟨A6, n6, c6, rfl, -, -⟩ := ownS_isB ho; have O6 := Lib.hid ho; have F6 := Lib.hid (Below.trans (F5.out.alloc F5.out.size (.cells #[.int .i64 t, .int .i64 (v)] 65)) hb2); clear ho hb2 hgx)
          | (at_builtin; refine cat_smp _ rfl (.tmp 66) (.tmp 69) rfl w.heap.size (.slice A6 n6 c6) _ rfl O6.out (some ⟨g, j * 2, none⟩) (0) (co - j) (l.drop j) rfl (by have := slice_drop (k := j) (slice_keep HS.out F6.out) (by omega); simpa using this) (by have := HLl.out; simp; omega) (F6.out.size) ?_; intro v' w' ho hb2 hg2; obtain ⟨A7, n7, c7, rfl, -, -⟩ := ownS_isB ho; have O7 := Lib.hid ho; have F7 := Lib.hid (F6.out.trans hb2); clear ho hb2 hg2))
        go_ret
        exact ⟨_, _, _, rfl, by rw [HP.out]; simpa using O7.out, F7.out⟩
end Go.Proofs.Ytkjmacdekfbfhaa
