/- The law WindowMerges: the walk. -/
import Derived.Test.YtnkefjliafadpaaW09M
namespace Go.Proofs.Ytnkefjliafadpaa
open Go.RowKit
set_option linter.unusedSimpArgs false
set_option linter.unusedVariables false
set_option maxHeartbeats 8000000
set_option maxRecDepth 100000
theorem ref09_Ends (A : Option Addr) (len cap : Nat) (l : List Smp) (w : World) (hs : SmpsAre w A len cap l) (hg : ∀ x ∈ l, x.good) (hn : len ≤ 200) :
    Calls Try.prog 27 #[.slice A len cap] w fun e w' => e = .returned (.bool (sumq (valq l) == 9223372036854775807)) ∧ Below w.heap.size w w' := by
  have HS := Lib.hid hs
  have HG := Lib.hid (fun x hx => (show I64 x by have := valq_bd hg x hx; unfold I64; omega) : ∀ x ∈ valq l, I64 x)
  have HL := Lib.hid hs.1
  clear hs hg
  go_enter Try.func27, Try.ntmps27
  go_wp2_with fail
  refine (ref09_Values A len cap l _ HS.out (by omega)).mono ?_
  rintro e w1 ⟨v, rfl, ho, hb1⟩
  obtain ⟨A', n', c', rfl, hn', hsl⟩ := ho.shape (fun _ => rfl)
  have hn2 : n' ≤ 200 := by rw [hn', valq_len]; have := HL.out; omega
  have SL := Lib.hid hsl
  have HB := Lib.hid hb1
  clear hn' ho hsl hb1
  go_wp2_with fail
  refine (ref_Sum _ _ _ _ _ SL.out HG.out (by omega)).mono ?_
  rintro e w2 ⟨rfl, rfl⟩
  go_wp2
  go_ret
  exact ⟨rfl, HB.out⟩
theorem statq_I64 {l : List Smp} (hg : ∀ x ∈ l, x.good) (hn : l.length ≤ 200) : I64 (statq l).count ∧ I64 (statq l).sum := by
  unfold statq
  split
  · exact ⟨by unfold I64; simp, by unfold I64; simp⟩
  · exact ⟨by unfold I64; simp; omega, sumq_I64 _⟩
theorem valq_app (l m : List Smp) : valq (l ++ m) = valq l ++ valq m := List.map_append
theorem valq_nn (l : List Smp) : ∀ x ∈ valq l, 0 ≤ x := fun x hx => by obtain ⟨y, _, rfl⟩ := List.mem_map.1 hx; omega
theorem valq_ne {l : List Smp} (h : 0 < l.length) : valq l ≠ [] := fun e => by have := valq_len l; rw [e] at this; simp at this; omega
theorem merge_both {l m : List Smp} (hl : 0 < l.length) (hm : 0 < m.length) (h1 : l.length ≤ 60) (h2 : m.length ≤ 60) :
    mergeq (statq l) (statq m) = ⟨(l.length : Int) + m.length, sumq (valq (l ++ m)), lowq (statq l).least (statq m).least, highq2 (statq l).most (statq m).most, ceilq (sumq (valq (l ++ m))) ((l.length : Int) + m.length)⟩ ∧ satq ((statq l).sum + (statq m).sum) = sumq (valq (l ++ m)) ∧ (statq l).count = l.length ∧ (statq m).count = m.length := by
  have e1 : statq l = ⟨l.length, sumq (valq l), minq (valq l), maxq (valq l), meanq (valq l)⟩ := by unfold statq; rw [if_neg (by omega)]
  have e2 : statq m = ⟨m.length, sumq (valq m), minq (valq m), maxq (valq m), meanq (valq m)⟩ := by unfold statq; rw [if_neg (by omega)]
  have hs : satq ((statq l).sum + (statq m).sum) = sumq (valq (l ++ m)) := by
    rw [e1, e2, valq_app]
    simp only
    have a1 := sumq_end _ (valq_nn l)
    have a2 := sumq_end _ (valq_nn m)
    have a3 := sumq_end (valq l ++ valq m) (fun x hx => (List.mem_append.1 hx).elim (valq_nn l x) (valq_nn m x))
    rw [List.sum_append] at a3
    rw [a1.1, a2.1, a3.1]
    unfold satq; omega
  refine ⟨?_, hs, by rw [e1], by rw [e2]⟩
  unfold mergeq
  rw [hs, e1, e2]
  simp only
  rw [if_neg (by omega), if_neg (by omega), satq_id (by unfold I64; omega)]
theorem merge_all {l m : List Smp} (hl : 0 < l.length) (hm : 0 < m.length) (h1 : l.length ≤ 60) (h2 : m.length ≤ 60) (hg : ∀ x ∈ l ++ m, x.good) (he : sumq (valq (l ++ m)) ≠ 9223372036854775807) : mergeq (statq l) (statq m) = statq (l ++ m) := by
  rw [(merge_both hl hm h1 h2).1]
  have e1 : statq l = ⟨l.length, sumq (valq l), minq (valq l), maxq (valq l), meanq (valq l)⟩ := by unfold statq; rw [if_neg (by omega)]
  have e2 : statq m = ⟨m.length, sumq (valq m), minq (valq m), maxq (valq m), meanq (valq m)⟩ := by unfold statq; rw [if_neg (by omega)]
  have e3 : statq (l ++ m) = ⟨(l ++ m).length, sumq (valq (l ++ m)), minq (valq (l ++ m)), maxq (valq (l ++ m)), meanq (valq (l ++ m))⟩ := by unfold statq; rw [if_neg (by rw [List.length_append]; omega)]
  rw [e1, e2, e3]
  have hlen : ((l ++ m).length : Int) = (l.length : Int) + m.length := by simp
  have a1 := sumq_end _ (valq_nn (l ++ m))
  have a2 := tot_sum _ (valq_nn (l ++ m))
  have hS : sumq (valq (l ++ m)) = (totq (valq (l ++ m)) : Int) := by omega
  have hgi : ∀ x ∈ valq (l ++ m), I64 x := fun x hx => by have := valq_bd hg x hx; unfold I64; omega
  have hmean := (mean_plain hgi (by rw [valq_len]; simp; omega)).1
  rw [valq_len] at hmean
  rw [hmean, lowq_min, highq2_max, ← hlen, hS, ceil_up _ _ (by simp; omega)]
  simp only [valq_app, minq_app (valq_ne hl) (valq_ne hm), maxq_app (valq_ne hl) (valq_ne hm)]
theorem walk_WindowMerges (A : Option Addr) (len cap : Nat) (l : List Smp) (B : Option Addr) (len2 cap2 : Nat) (m : List Smp) (w : World) (hs : SmpsAre w A len cap l) (hg : ∀ x ∈ l, x.good) (hs2 : SmpsAre w B len2 cap2 m) (hg2 : ∀ x ∈ m, x.good) :
    Calls Try.prog 6 #[.slice A len cap, .slice B len2 cap2] w fun e w' => e = .returned (.bool true) ∧ Below w.heap.size w w' := by
  have HS := Lib.hid hs
  have HS2 := Lib.hid hs2
  have HL := Lib.hid hs.1
  have HL2 := Lib.hid hs2.1
  have hle : len ≤ cap := hs.2.1
  have hm : cap ≤ 9223372036854775807 := by have := hs.2.2.1; unfold maxLen at this; omega
  have hle2 : len2 ≤ cap2 := hs2.2.1
  have hm2 : cap2 ≤ 9223372036854775807 := by have := hs2.2.2.1; unfold maxLen at this; omega
  have HGl := Lib.hid hg
  have HGm := Lib.hid hg2
  have HG := Lib.hid (fun x hx => (List.mem_append.1 hx).elim (hg x) (hg2 x) : ∀ x ∈ l ++ m, x.good)
  clear hs hs2 hg hg2
  go_enter Try.func6, Try.ntmps6
  go_wp2_with fail
  refine (awake09 _).mono ?_
  rintro e v1 ⟨rfl, hb1⟩
  have E1 := Lib.hid hb1
  clear hb1
  by_cases hl : 60 < len
  · go_wp2
    go_ret
    exact ⟨rfl, E1.out⟩
  by_cases hl2 : 60 < len2
  · go_wp2
    go_ret
    exact ⟨rfl, E1.out⟩
  obtain ⟨i1, i2⟩ := statq_I64 HGl.out (by have := HL.out; omega)
  obtain ⟨i3, i4⟩ := statq_I64 HGm.out (by have := HL2.out; omega)
  go_wp2_with fail
  refine (window_Of A len cap l _ (slice_keep HS.out E1.out) HGl.out (by omega)).mono ?_
  rintro e v2 ⟨rfl, hb2⟩
  have E2 := Lib.hid (E1.out.trans (hb2.mono E1.out.size))
  clear hb2
  go_wp2_with fail
  refine (window_Of B len2 cap2 m _ (slice_keep HS2.out E2.out) HGm.out (by omega)).mono ?_
  rintro e v3 ⟨rfl, hb3⟩
  have E3 := Lib.hid (E2.out.trans (hb3.mono E2.out.size))
  clear hb3
  go_wp2_with fail
  refine (window_Merge (statq l) (statq m) _ i1 i2 i3 i4).mono ?_
  rintro e v4 ⟨rfl, hb4⟩
  have E3' := (E3.out.alloc E3.out.size (.cells (statq l).row 32)).alloc (by have := E3.out.size; simp; omega) (.cells (statq m).row 32)
  have E4 := Lib.hid (E3'.trans (hb4.mono E3'.size))
  have B5 := Lib.hid (((Blk.new v3 32 (statq l).row).alloc (.cells (statq m).row 32)).call hb4)
  have B6 := Lib.hid ((Blk.new2 v3 (.cells (statq l).row 32) 32 (statq m).row).call hb4)
  have lt6 := B6.out.lt
  have lt5 := B5.out.lt
  clear E3' hb4
  have c50 := B5.out.cellv (i := 0) (v := .int .i64 (statq l).count) rfl
  have c51 := B5.out.cellv (i := 1) (v := .int .i64 (statq l).sum) rfl
  have c52 := B5.out.cellv (i := 2) (v := .int .i64 (statq l).least) rfl
  have c53 := B5.out.cellv (i := 3) (v := .int .i64 (statq l).most) rfl
  have c54 := B5.out.cellv (i := 4) (v := .int .i64 (statq l).mean) rfl
  have c60 := B6.out.cellv (i := 0) (v := .int .i64 (statq m).count) rfl
  have c61 := B6.out.cellv (i := 1) (v := .int .i64 (statq m).sum) rfl
  have c62 := B6.out.cellv (i := 2) (v := .int .i64 (statq m).least) rfl
  have c63 := B6.out.cellv (i := 3) (v := .int .i64 (statq m).most) rfl
  have c64 := B6.out.cellv (i := 4) (v := .int .i64 (statq m).mean) rfl
  by_cases z1 : len = 0
  · have e1 : (statq l).count = 0 := by unfold statq; rw [if_pos (by rw [HL.out]; exact z1)]
    have d0 : ((statq l).count == 0) = true := by simp [e1]
    have HQ := Lib.hid (show mergeq (statq l) (statq m) = statq m by unfold mergeq; rw [if_pos (by omega)])
    rw [HQ.out]
    obtain ⟨q1, q2⟩ := eq_stat (statq m).count (statq m).sum (statq m).least (statq m).most (statq m).mean (statq m).count (statq m).sum (statq m).least (statq m).most (statq m).mean true (by simp)
    generalize statq l = SL at *
    generalize statq m = SM at *
    clear e1 z1
    go_wp2
    go_ret
    exact ⟨rfl, E4.out.alloc E4.out.size _⟩
  have z1p : 0 < l.length := by rw [HL.out]; omega
  have e1 : (statq l).count = len := by unfold statq; rw [if_neg (by omega), HL.out]
  have d0 : ((statq l).count == 0) = false := by rw [e1]; simp; omega
  by_cases z2 : len2 = 0
  · have e2 : (statq m).count = 0 := by unfold statq; rw [if_pos (by rw [HL2.out]; exact z2)]
    have d1 : ((statq m).count == 0) = true := by simp [e2]
    have HQ := Lib.hid (show mergeq (statq l) (statq m) = statq l by unfold mergeq; rw [if_neg (by omega), if_pos (by omega)])
    rw [HQ.out]
    obtain ⟨q1, q2⟩ := eq_stat (statq l).count (statq l).sum (statq l).least (statq l).most (statq l).mean (statq l).count (statq l).sum (statq l).least (statq l).most (statq l).mean true (by simp)
    clear e1 e2 z1 z2 z1p
    generalize statq l = SL at *
    generalize statq m = SM at *
    go_wp2
    go_ret
    exact ⟨rfl, E4.out.alloc E4.out.size _⟩
  have z2p : 0 < m.length := by rw [HL2.out]; omega
  have d1 : ((statq m).count == 0) = false := by
    have e2 : (statq m).count = len2 := by unfold statq; rw [if_neg (by omega), HL2.out]
    rw [e2]; simp; omega
  have HMB := Lib.hid (merge_both z1p z2p (by rw [HL.out]; omega) (by rw [HL2.out]; omega))
  have HMA := Lib.hid (merge_all z1p z2p (by rw [HL.out]; omega) (by rw [HL2.out]; omega) HG.out)
  clear e1 z1 z2
  have B7 := Lib.hid (Blk.new v4 32 (mergeq (statq l) (statq m)).row)
  have E5 := Lib.hid (E4.out.alloc E4.out.size (.cells (mergeq (statq l) (statq m)).row 32))
  have B5' := Lib.hid (B5.out.alloc (.cells (mergeq (statq l) (statq m)).row 32))
  have B6' := Lib.hid (B6.out.alloc (.cells (mergeq (statq l) (statq m)).row 32))
  have O0 := Lib.hid (Own.nil (v4.alloc (.cells (mergeq (statq l) (statq m)).row 32)) (v4.alloc (.cells (mergeq (statq l) (statq m)).row 32)).heap.size 42 2 Smp.cells)
  go_upto_region 12 with (fail)
  generalize v4.alloc (.cells (mergeq (statq l) (statq m)).row 32) = v5 at *
  obtain ⟨em, es, ea, eb⟩ := HMB.out
  have hna : 0 ≤ (statq l).count ∧ (statq l).count ≤ 60 := by rw [ea]; have := HL.out; omega
  have hnb : 0 ≤ (statq m).count ∧ (statq m).count ≤ 60 := by rw [eb]; have := HL2.out; omega
  rw [← ea, ← eb] at em
  rw [em] at B7
  have HMA2 := Lib.hid (fun h => em.symm.trans (HMA.out h))
  have HLo := Lib.hid (show lowq (statq l).least (statq m).least = if (statq m).least < (statq l).least then (statq m).least else (statq l).least from rfl)
  have HHi := Lib.hid (show highq2 (statq l).most (statq m).most = if (statq l).most < (statq m).most then (statq m).most else (statq l).most from rfl)
  have HAdd := Lib.hid (fun W => ref_Add (statq l).sum (statq m).sum W i2 i4)
  rw [es] at HAdd
  have HSI : I64 (sumq (valq (l ++ m))) := sumq_I64 _
  have HCe := Lib.hid (fun W => ref_Ceil (sumq (valq (l ++ m))) ((statq l).count + (statq m).count) W HSI (by unfold I64; omega))
  have HEnd := Lib.hid (fun W A n c hW hn => ref09_Ends A n c (l ++ m) W hW HG.out hn)
  have HOf := Lib.hid (fun W A n c hW hn => window_Of A n c (l ++ m) W hW HG.out hn)
  clear em es ea eb HMB HMA i1 i2 i3 i4 c50 c51 c52 c53 c54 c60 c61 c62 c63 c64 lt5 lt6 z1p z2p HSI
  generalize ceilq (sumq (valq (l ++ m))) ((statq l).count + (statq m).count) = C at *
  generalize sumq (valq (l ++ m)) = S at *
  generalize lowq (statq l).least (statq m).least = LO at *
  generalize highq2 (statq l).most (statq m).most = HI at *
  generalize statq (l ++ m) = SA at *
  generalize statq l = SL at *
  generalize statq m = SM at *
  go_wp2_with (first
      | (at_builtin; refine cat_smp _ rfl _ _ rfl v5.heap.size (.slice none 0 0) [] rfl (Own.nil _ _ _ _ _) A len cap l rfl (slice_keep HS.out E5.out) (by simp; omega) (Nat.le_refl _) ?_; intro x1 w1 ho1 hb1 hg1; clear hg1; obtain ⟨A1, n1, c1, rfl, hn1, hsl1⟩ := ho1.shape (fun _ => rfl); have F1 := Lib.hid (E5.out.trans (hb1.mono E5.out.size)); have O1 := Lib.hid ho1; have H1 := Lib.hid hb1; have Z1 := hb1.size; clear hsl1 hn1 hb1 ho1)
      | (at_builtin; refine cat_smp _ rfl _ _ rfl v5.heap.size (.slice A1 n1 c1) _ rfl O1.out B len2 cap2 m rfl (slice_keep HS2.out F1.out) (by simp; have := HL.out; omega) Z1 ?_; intro x2 w2 ho2 hb2 hg2; clear hg2; obtain ⟨A2, n2, c2, rfl, hn2, hsl2⟩ := ho2.shape (fun _ => rfl); have F2 := Lib.hid (F1.out.trans (hb2.mono E5.out.size)); have H12 := Lib.hid (H1.out.trans hb2); have Y2 : n2 ≤ 120 := (by rw [hn2]; have := HL.out; have := HL2.out; simp; omega); have S2 := Lib.hid (show SmpsAre w2 A2 n2 c2 (l ++ m) from hsl2); clear hsl2 hn2 hb2 ho2))
  have C5 := Lib.hid (B5'.out.call H12.out)
  have C6 := Lib.hid (B6'.out.call H12.out)
  have C7 := Lib.hid (B7.out.call H12.out)
  refine wp_region_any (by kernel_rfl) ?_; change wpAny _ _ _ _ _ _ _ (World.drew w2); refine any_of_anyG (late := fun _ => false) (S := fun wS => Below w2.heap.size w2 wS) _ _ _ _ ?_
  have S0 := (Below.refl w2.heap.size w2).drew
  refine anyG_take (i := 0) (v := _) rfl (by kernel_rfl) (by kernel_rfl) (by kernel_rfl) (by kernel_rfl) rfl (by kernel_rfl) (fun j hj => by first | (simp at hj; done) | (simp at hj; simp; omega)) (fun _ _ _ h => h) (Or.inl ⟨by rfl, fun W1 hW1 => by first | rfl | (go_simp; done) | (go_simp; with_reducible rfl)⟩) (S0) ?_
  refine anyG_take (i := 1) (v := .int .i64 S) rfl (by kernel_rfl) (by kernel_rfl) (by kernel_rfl) (by kernel_rfl) rfl (by kernel_rfl) (fun j hj => by first | (simp at hj; done) | (simp at hj; simp; omega)) (fun _ _ _ h => h) (Or.inl ⟨by rfl, fun W1 hW1 => by have c := (C7.out.call hW1).cellv (i := 1) (v := .int .i64 S) rfl; go_simp⟩) (S0) ?_
  refine anyG_take (i := 2) (v := _) rfl (by kernel_rfl) (by kernel_rfl) (by kernel_rfl) (by kernel_rfl) rfl (by kernel_rfl) (fun j hj => by first | (simp at hj; done) | (simp at hj; simp; omega)) (fun _ _ _ h => h) (Or.inl ⟨by rfl, fun W1 hW1 => by first | rfl | (go_simp; done) | (go_simp; with_reducible rfl)⟩) (S0) ?_
  refine anyG_take (i := 3) (v := .int .i64 SL.sum) rfl (by kernel_rfl) (by kernel_rfl) (by kernel_rfl) (by kernel_rfl) rfl (by kernel_rfl) (fun j hj => by first | (simp at hj; done) | (simp at hj; simp; omega)) (fun _ _ _ h => h) (Or.inl ⟨by rfl, fun W1 hW1 => by have c := (C5.out.call hW1).cellv (i := 1) (v := .int .i64 SL.sum) rfl; go_simp⟩) (S0) ?_
  refine anyG_one (k := 4) (by kernel_rfl) rfl (by rfl) (fun Q2 hQ2 => ?_); go_wp2_with fail; refine hQ2 _ _ (fun _ => S0) ?_; clear hQ2 Q2
  refine anyG_take (i := 5) (v := .int .i64 SM.sum) rfl (by kernel_rfl) (by kernel_rfl) (by kernel_rfl) (by kernel_rfl) rfl (by kernel_rfl) (fun j hj => by first | (simp at hj; done) | (simp at hj; simp; omega)) (fun _ _ _ h => h) (Or.inl ⟨by rfl, fun W1 hW1 => by have c := (C6.out.call hW1).cellv (i := 1) (v := .int .i64 SM.sum) rfl; go_simp⟩) (S0) ?_
  refine anyG_one (k := 6) (by kernel_rfl) rfl (by rfl) (fun Q2 hQ2 => ?_); go_wp2_with (go_at_call 25; (with_reducible refine (HAdd.out _).mono ?_); rintro e v8 ⟨rfl, rfl⟩); refine hQ2 _ _ (fun _ => S0) ?_; clear hQ2 Q2
  refine anyG_one (k := 7) (by kernel_rfl) rfl (by rfl) (fun Q2 hQ2 => ?_); go_wp2_with fail; refine hQ2 _ _ (fun _ => S0) ?_; clear hQ2 Q2
  refine anyG_one (k := 8) (by kernel_rfl) rfl (by rfl) (fun Q2 hQ2 => ?_); go_wp2_with fail; refine hQ2 _ _ (fun _ => S0) ?_; clear hQ2 Q2
  refine anyG_take (i := 9) (v := _) rfl (by kernel_rfl) (by kernel_rfl) (by kernel_rfl) (by kernel_rfl) rfl (by kernel_rfl) (fun j hj => by first | (simp at hj; done) | (simp at hj; simp; omega)) (fun _ _ _ h => h) (Or.inl ⟨by rfl, fun W1 hW1 => by first | rfl | (go_simp; done) | (go_simp; with_reducible rfl)⟩) (S0) ?_
  refine anyG_take (i := 10) (v := .int .i64 (SL.count + SM.count)) rfl (by kernel_rfl) (by kernel_rfl) (by kernel_rfl) (by kernel_rfl) rfl (by kernel_rfl) (fun j hj => by first | (simp at hj; done) | (simp at hj; simp; omega)) (fun _ _ _ h => h) (Or.inl ⟨by rfl, fun W1 hW1 => by have c := (C7.out.call hW1).cellv (i := 0) (v := .int .i64 (SL.count + SM.count)) rfl; go_simp⟩) (S0) ?_
  refine anyG_take (i := 11) (v := _) rfl (by kernel_rfl) (by kernel_rfl) (by kernel_rfl) (by kernel_rfl) rfl (by kernel_rfl) (fun j hj => by first | (simp at hj; done) | (simp at hj; simp; omega)) (fun _ _ _ h => h) (Or.inl ⟨by rfl, fun W1 hW1 => by first | rfl | (go_simp; done) | (go_simp; with_reducible rfl)⟩) (S0) ?_
  refine anyG_take (i := 12) (v := .int .i64 SL.count) rfl (by kernel_rfl) (by kernel_rfl) (by kernel_rfl) (by kernel_rfl) rfl (by kernel_rfl) (fun j hj => by first | (simp at hj; done) | (simp at hj; simp; omega)) (fun _ _ _ h => h) (Or.inl ⟨by rfl, fun W1 hW1 => by have c := (C5.out.call hW1).cellv (i := 0) (v := .int .i64 SL.count) rfl; go_simp⟩) (S0) ?_
  refine anyG_one (k := 13) (by kernel_rfl) rfl (by rfl) (fun Q2 hQ2 => ?_); go_wp2_with fail; refine hQ2 _ _ (fun _ => S0) ?_; clear hQ2 Q2
  refine anyG_take (i := 14) (v := .int .i64 SM.count) rfl (by kernel_rfl) (by kernel_rfl) (by kernel_rfl) (by kernel_rfl) rfl (by kernel_rfl) (fun j hj => by first | (simp at hj; done) | (simp at hj; simp; omega)) (fun _ _ _ h => h) (Or.inl ⟨by rfl, fun W1 hW1 => by have c := (C6.out.call hW1).cellv (i := 0) (v := .int .i64 SM.count) rfl; go_simp⟩) (S0) ?_
  refine anyG_one (k := 15) (by kernel_rfl) rfl (by rfl) (fun Q2 hQ2 => ?_); go_wp2_with fail; refine hQ2 _ _ (fun _ => S0) ?_; clear hQ2 Q2
  refine anyG_one (k := 16) (by kernel_rfl) rfl (by rfl) (fun Q2 hQ2 => ?_); go_wp2_with fail; refine hQ2 _ _ (fun _ => S0) ?_; clear hQ2 Q2
  refine anyG_one (k := 17) (by kernel_rfl) rfl (by rfl) (fun Q2 hQ2 => ?_); go_wp2_with fail; refine hQ2 _ _ (fun _ => S0) ?_; clear hQ2 Q2
  refine anyG_one (k := 18) (by kernel_rfl) rfl (by rfl) (fun Q2 hQ2 => ?_); go_wp2_with fail; refine hQ2 _ _ (fun _ => S0) ?_; clear hQ2 Q2
  refine anyG_take (i := 19) (v := _) rfl (by kernel_rfl) (by kernel_rfl) (by kernel_rfl) (by kernel_rfl) rfl (by kernel_rfl) (fun j hj => by first | (simp at hj; done) | (simp at hj; simp; omega)) (fun _ _ _ h => h) (Or.inl ⟨by rfl, fun W1 hW1 => by first | rfl | (go_simp; done) | (go_simp; with_reducible rfl)⟩) (S0) ?_
  refine anyG_take (i := 20) (v := .int .i64 C) rfl (by kernel_rfl) (by kernel_rfl) (by kernel_rfl) (by kernel_rfl) rfl (by kernel_rfl) (fun j hj => by first | (simp at hj; done) | (simp at hj; simp; omega)) (fun _ _ _ h => h) (Or.inl ⟨by rfl, fun W1 hW1 => by have c := (C7.out.call hW1).cellv (i := 4) (v := .int .i64 C) rfl; go_simp⟩) (S0) ?_
  refine anyG_take (i := 21) (v := _) rfl (by kernel_rfl) (by kernel_rfl) (by kernel_rfl) (by kernel_rfl) rfl (by kernel_rfl) (fun j hj => by first | (simp at hj; done) | (simp at hj; simp; omega)) (fun _ _ _ h => h) (Or.inl ⟨by rfl, fun W1 hW1 => by first | rfl | (go_simp; done) | (go_simp; with_reducible rfl)⟩) (S0) ?_
  refine anyG_take (i := 22) (v := .int .i64 S) rfl (by kernel_rfl) (by kernel_rfl) (by kernel_rfl) (by kernel_rfl) rfl (by kernel_rfl) (fun j hj => by first | (simp at hj; done) | (simp at hj; simp; omega)) (fun _ _ _ h => h) (Or.inl ⟨by rfl, fun W1 hW1 => by have c := (C7.out.call hW1).cellv (i := 1) (v := .int .i64 S) rfl; go_simp⟩) (S0) ?_
  refine anyG_one (k := 23) (by kernel_rfl) rfl (by rfl) (fun Q2 hQ2 => ?_); go_wp2_with fail; refine hQ2 _ _ (fun _ => S0) ?_; clear hQ2 Q2
  refine anyG_take (i := 24) (v := .int .i64 (SL.count + SM.count)) rfl (by kernel_rfl) (by kernel_rfl) (by kernel_rfl) (by kernel_rfl) rfl (by kernel_rfl) (fun j hj => by first | (simp at hj; done) | (simp at hj; simp; omega)) (fun _ _ _ h => h) (Or.inl ⟨by rfl, fun W1 hW1 => by have c := (C7.out.call hW1).cellv (i := 0) (v := .int .i64 (SL.count + SM.count)) rfl; go_simp⟩) (S0) ?_
  refine anyG_one (k := 25) (by kernel_rfl) rfl (by rfl) (fun Q2 hQ2 => ?_); go_wp2_with (go_at_call 26; (with_reducible refine (HCe.out _).mono ?_); rintro e v8 ⟨rfl, rfl⟩); refine hQ2 _ _ (fun _ => S0) ?_; clear hQ2 Q2
  refine anyG_one (k := 26) (by kernel_rfl) rfl (by rfl) (fun Q2 hQ2 => ?_); go_wp2_with fail; refine hQ2 _ _ (fun _ => S0) ?_; clear hQ2 Q2
  refine anyG_one (k := 27) (by kernel_rfl) rfl (by rfl) (fun Q2 hQ2 => ?_); go_wp2_with fail; refine hQ2 _ _ (fun _ => S0) ?_; clear hQ2 Q2
  refine anyG_one (k := 28) (by kernel_rfl) rfl (by rfl) (fun Q2 hQ2 => ?_); go_wp2_with fail; refine hQ2 _ _ (fun _ => S0) ?_; clear hQ2 Q2
  refine anyG_take (i := 29) (v := _) rfl (by kernel_rfl) (by kernel_rfl) (by kernel_rfl) (by kernel_rfl) rfl (by kernel_rfl) (fun j hj => by first | (simp at hj; done) | (simp at hj; simp; omega)) (fun _ _ _ h => h) (Or.inl ⟨by rfl, fun W1 hW1 => by first | rfl | (go_simp; done) | (go_simp; with_reducible rfl)⟩) (S0) ?_
  refine anyG_take (i := 30) (v := .int .i64 LO) rfl (by kernel_rfl) (by kernel_rfl) (by kernel_rfl) (by kernel_rfl) rfl (by kernel_rfl) (fun j hj => by first | (simp at hj; done) | (simp at hj; simp; omega)) (fun _ _ _ h => h) (Or.inl ⟨by rfl, fun W1 hW1 => by have c := (C7.out.call hW1).cellv (i := 2) (v := .int .i64 LO) rfl; go_simp⟩) (S0) ?_
  refine anyG_take (i := 31) (v := _) rfl (by kernel_rfl) (by kernel_rfl) (by kernel_rfl) (by kernel_rfl) rfl (by kernel_rfl) (fun j hj => by first | (simp at hj; done) | (simp at hj; simp; omega)) (fun _ _ _ h => h) (Or.inl ⟨by rfl, fun W1 hW1 => by first | rfl | (go_simp; done) | (go_simp; with_reducible rfl)⟩) (S0) ?_
  refine anyG_take (i := 32) (v := .int .i64 SL.least) rfl (by kernel_rfl) (by kernel_rfl) (by kernel_rfl) (by kernel_rfl) rfl (by kernel_rfl) (fun j hj => by first | (simp at hj; done) | (simp at hj; simp; omega)) (fun _ _ _ h => h) (Or.inl ⟨by rfl, fun W1 hW1 => by have c := (C5.out.call hW1).cellv (i := 2) (v := .int .i64 SL.least) rfl; go_simp⟩) (S0) ?_
  refine anyG_one (k := 33) (by kernel_rfl) rfl (by rfl) (fun Q2 hQ2 => ?_); go_wp2_with fail; refine hQ2 _ _ (fun _ => S0) ?_; clear hQ2 Q2
  refine anyG_take (i := 34) (v := .int .i64 SM.least) rfl (by kernel_rfl) (by kernel_rfl) (by kernel_rfl) (by kernel_rfl) rfl (by kernel_rfl) (fun j hj => by first | (simp at hj; done) | (simp at hj; simp; omega)) (fun _ _ _ h => h) (Or.inl ⟨by rfl, fun W1 hW1 => by have c := (C6.out.call hW1).cellv (i := 2) (v := .int .i64 SM.least) rfl; go_simp⟩) (S0) ?_
  refine anyG_take (i := 35) (v := .int .i64 LO) rfl (by kernel_rfl) (by kernel_rfl) (by kernel_rfl) (by kernel_rfl) rfl (by kernel_rfl) (fun j hj => by first | (simp at hj; done) | (simp at hj; simp; omega)) (fun _ _ _ h => h) (Or.inl ⟨by rfl, fun W1 hW1 => by rw [HLo.out]; go_simp⟩) (S0) ?_
  refine anyG_one (k := 36) (by kernel_rfl) rfl (by rfl) (fun Q2 hQ2 => ?_); go_wp2_with fail; refine hQ2 _ _ (fun _ => S0) ?_; clear hQ2 Q2
  refine anyG_one (k := 37) (by kernel_rfl) rfl (by rfl) (fun Q2 hQ2 => ?_); go_wp2_with fail; refine hQ2 _ _ (fun _ => S0) ?_; clear hQ2 Q2
  refine anyG_one (k := 38) (by kernel_rfl) rfl (by rfl) (fun Q2 hQ2 => ?_); go_wp2_with fail; refine hQ2 _ _ (fun _ => S0) ?_; clear hQ2 Q2
  refine anyG_take (i := 39) (v := _) rfl (by kernel_rfl) (by kernel_rfl) (by kernel_rfl) (by kernel_rfl) rfl (by kernel_rfl) (fun j hj => by first | (simp at hj; done) | (simp at hj; simp; omega)) (fun _ _ _ h => h) (Or.inl ⟨by rfl, fun W1 hW1 => by first | rfl | (go_simp; done) | (go_simp; with_reducible rfl)⟩) (S0) ?_
  refine anyG_take (i := 40) (v := .int .i64 HI) rfl (by kernel_rfl) (by kernel_rfl) (by kernel_rfl) (by kernel_rfl) rfl (by kernel_rfl) (fun j hj => by first | (simp at hj; done) | (simp at hj; simp; omega)) (fun _ _ _ h => h) (Or.inl ⟨by rfl, fun W1 hW1 => by have c := (C7.out.call hW1).cellv (i := 3) (v := .int .i64 HI) rfl; go_simp⟩) (S0) ?_
  refine anyG_take (i := 41) (v := _) rfl (by kernel_rfl) (by kernel_rfl) (by kernel_rfl) (by kernel_rfl) rfl (by kernel_rfl) (fun j hj => by first | (simp at hj; done) | (simp at hj; simp; omega)) (fun _ _ _ h => h) (Or.inl ⟨by rfl, fun W1 hW1 => by first | rfl | (go_simp; done) | (go_simp; with_reducible rfl)⟩) (S0) ?_
  refine anyG_take (i := 42) (v := .int .i64 SL.most) rfl (by kernel_rfl) (by kernel_rfl) (by kernel_rfl) (by kernel_rfl) rfl (by kernel_rfl) (fun j hj => by first | (simp at hj; done) | (simp at hj; simp; omega)) (fun _ _ _ h => h) (Or.inl ⟨by rfl, fun W1 hW1 => by have c := (C5.out.call hW1).cellv (i := 3) (v := .int .i64 SL.most) rfl; go_simp⟩) (S0) ?_
  refine anyG_one (k := 43) (by kernel_rfl) rfl (by rfl) (fun Q2 hQ2 => ?_); go_wp2_with fail; refine hQ2 _ _ (fun _ => S0) ?_; clear hQ2 Q2
  refine anyG_take (i := 44) (v := .int .i64 SM.most) rfl (by kernel_rfl) (by kernel_rfl) (by kernel_rfl) (by kernel_rfl) rfl (by kernel_rfl) (fun j hj => by first | (simp at hj; done) | (simp at hj; simp; omega)) (fun _ _ _ h => h) (Or.inl ⟨by rfl, fun W1 hW1 => by have c := (C6.out.call hW1).cellv (i := 3) (v := .int .i64 SM.most) rfl; go_simp⟩) (S0) ?_
  refine anyG_take (i := 45) (v := .int .i64 HI) rfl (by kernel_rfl) (by kernel_rfl) (by kernel_rfl) (by kernel_rfl) rfl (by kernel_rfl) (fun j hj => by first | (simp at hj; done) | (simp at hj; simp; omega)) (fun _ _ _ h => h) (Or.inl ⟨by rfl, fun W1 hW1 => by rw [HHi.out]; go_simp⟩) (S0) ?_
  refine anyG_one (k := 46) (by kernel_rfl) rfl (by rfl) (fun Q2 hQ2 => ?_); go_wp2_with fail; refine hQ2 _ _ (fun _ => S0) ?_; clear hQ2 Q2
  refine anyG_one (k := 47) (by kernel_rfl) rfl (by rfl) (fun Q2 hQ2 => ?_); go_wp2_with fail; refine hQ2 _ _ (fun _ => S0) ?_; clear hQ2 Q2
  refine anyG_done (by kernel_rfl) ?_ _
  have G7 := Lib.hid (C7.out.call S0)
  have G2 := Lib.hid (slice_keep S2.out S0)
  have F3 := Lib.hid (F2.out.trans (S0.mono F2.out.size))
  by_cases hE : S = 9223372036854775807
  · have dE : (S == 9223372036854775807) = true := by simpa using hE
    rw [dE] at HEnd
    clear hE
    go_wp2
    refine wp_region_any (by kernel_rfl) ?_; change wpAny _ _ _ _ _ _ _ (World.drew w2.drew); refine any_of_anyG (late := fun _ => false) (S := fun wS => Below w2.drew.heap.size w2.drew wS) _ _ _ _ ?_
    have S0 := (Below.refl w2.drew.heap.size w2.drew).drew
    refine anyG_one (k := 0) (by kernel_rfl) rfl (by rfl) (fun Q2 hQ2 => ?_); go_wp2_with fail; refine hQ2 _ _ (fun _ => S0) ?_; clear hQ2 Q2
    refine anyG_one (k := 1) (by kernel_rfl) rfl (by rfl) (fun Q2 hQ2 => ?_); go_wp2_with (go_at_call 27; refine (HEnd.out _ A2 n2 c2 (slice_keep G2.out S0) (by omega)).mono ?_; rintro e v9 ⟨rfl, hb9⟩); refine hQ2 _ _ (fun _ => S0.trans (hb9.mono S0.size)) ?_; clear hQ2 Q2
    have S9 := S0.trans (hb9.mono S0.size)
    refine anyG_one (k := 2) (by kernel_rfl) rfl (by rfl) (fun Q2 hQ2 => ?_); go_wp2_with fail; refine hQ2 _ _ (fun _ => S9) ?_; clear hQ2 Q2
    refine anyG_take (i := 3) (v := undef) rfl (by kernel_rfl) (by kernel_rfl) (by kernel_rfl) (by kernel_rfl) rfl (by kernel_rfl) (fun j hj => by first | (simp at hj; done) | (simp at hj; simp; omega)) (fun _ _ _ h => h) (Or.inr ⟨by rfl, rfl⟩) (S9) ?_
    refine anyG_take (i := 4) (v := undef) rfl (by kernel_rfl) (by kernel_rfl) (by kernel_rfl) (by kernel_rfl) rfl (by kernel_rfl) (fun j hj => by first | (simp at hj; done) | (simp at hj; simp; omega)) (fun _ _ _ h => h) (Or.inr ⟨by rfl, rfl⟩) (S9) ?_
    refine anyG_take (i := 5) (v := undef) rfl (by kernel_rfl) (by kernel_rfl) (by kernel_rfl) (by kernel_rfl) rfl (by kernel_rfl) (fun j hj => by first | (simp at hj; done) | (simp at hj; simp; omega)) (fun _ _ _ h => h) (Or.inr ⟨by rfl, rfl⟩) (S9) ?_
    refine anyG_take (i := 6) (v := undef) rfl (by kernel_rfl) (by kernel_rfl) (by kernel_rfl) (by kernel_rfl) rfl (by kernel_rfl) (fun j hj => by first | (simp at hj; done) | (simp at hj; simp; omega)) (fun _ _ _ h => h) (Or.inr ⟨by rfl, rfl⟩) (S9) ?_
    refine anyG_one (k := 7) (by kernel_rfl) rfl (by rfl) (fun Q2 hQ2 => ?_); go_wp2_with fail; refine hQ2 _ _ (fun _ => S9) ?_; clear hQ2 Q2
    refine anyG_one (k := 8) (by kernel_rfl) rfl (by rfl) (fun Q2 hQ2 => ?_); go_wp2_with fail; refine hQ2 _ _ (fun _ => S9) ?_; clear hQ2 Q2
    refine anyG_done (by kernel_rfl) ?_ _
    go_wp2
    go_ret
    exact ⟨rfl, F3.out.trans (S9.mono F3.out.size)⟩
  · have dE : (S == 9223372036854775807) = false := by simpa using hE
    have HX := HMA2.out hE
    rw [dE] at HEnd
    rw [← HX] at HOf
    obtain ⟨q1, q2⟩ := eq_stat (SL.count + SM.count) S LO HI C (SL.count + SM.count) S LO HI C true (by simp)
    clear hE HX
    go_wp2
    refine wp_region_any (by kernel_rfl) ?_; change wpAny _ _ _ _ _ _ _ (World.drew w2.drew); refine any_of_anyG (late := fun _ => false) (S := fun wS => Below w2.drew.heap.size w2.drew wS) _ _ _ _ ?_
    have S0 := (Below.refl w2.drew.heap.size w2.drew).drew
    refine anyG_one (k := 0) (by kernel_rfl) rfl (by rfl) (fun Q2 hQ2 => ?_); go_wp2_with fail; refine hQ2 _ _ (fun _ => S0) ?_; clear hQ2 Q2
    refine anyG_one (k := 1) (by kernel_rfl) rfl (by rfl) (fun Q2 hQ2 => ?_); go_wp2_with (go_at_call 27; refine (HEnd.out _ A2 n2 c2 (slice_keep G2.out S0) (by omega)).mono ?_; rintro e v9 ⟨rfl, hb9⟩); refine hQ2 _ _ (fun _ => S0.trans (hb9.mono S0.size)) ?_; clear hQ2 Q2
    have S9 := S0.trans (hb9.mono S0.size)
    refine anyG_one (k := 2) (by kernel_rfl) rfl (by rfl) (fun Q2 hQ2 => ?_); go_wp2_with fail; refine hQ2 _ _ (fun _ => S9) ?_; clear hQ2 Q2
    refine anyG_take (i := 3) (v := _) rfl (by kernel_rfl) (by kernel_rfl) (by kernel_rfl) (by kernel_rfl) rfl (by kernel_rfl) (fun j hj => by first | (simp at hj; done) | (simp at hj; simp; omega)) (fun _ _ _ h => h) (Or.inl ⟨by rfl, fun W1 hW1 => exec_load (ty := 32) (x := .tmp 7) rfl rfl (run_loadAt_blk _ _ _ _ _ _ (G7.out.call hW1) Try.underlying32 rfl (by first | kernel_rfl | exact info_num _))⟩) (S9) ?_
    refine anyG_one (k := 4) (by kernel_rfl) rfl (by rfl) (fun Q2 hQ2 => ?_); go_wp2_with fail; refine hQ2 _ _ (fun _ => S9) ?_; clear hQ2 Q2
    refine anyG_one (k := 5) (by kernel_rfl) rfl (by rfl) (fun Q2 hQ2 => ?_); go_wp2_with (go_at_call 20; refine (HOf.out _ A2 n2 c2 (slice_keep G2.out S9) (by omega)).mono ?_; rintro e v10 ⟨rfl, hb10⟩); refine hQ2 _ _ (fun _ => S9.trans (hb10.mono S9.size)) ?_; clear hQ2 Q2
    have S10 := S9.trans (hb10.mono S9.size)
    refine anyG_one (k := 6) (by kernel_rfl) rfl (by rfl) (fun Q2 hQ2 => ?_); go_wp2_with fail; refine hQ2 _ _ (fun _ => S10) ?_; clear hQ2 Q2
    refine anyG_one (k := 7) (by kernel_rfl) rfl (by rfl) (fun Q2 hQ2 => ?_); go_wp2_with fail; refine hQ2 _ _ (fun _ => S10) ?_; clear hQ2 Q2
    refine anyG_one (k := 8) (by kernel_rfl) rfl (by rfl) (fun Q2 hQ2 => ?_); go_wp2_with fail; refine hQ2 _ _ (fun _ => S10) ?_; clear hQ2 Q2
    refine anyG_done (by kernel_rfl) ?_ _
    go_wp2
    go_ret
    exact ⟨rfl, F3.out.trans (S10.mono F3.out.size)⟩
end Go.Proofs.Ytnkefjliafadpaa
