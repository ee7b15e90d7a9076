/- Package shape: Check, Place, part, At, Sum; the reference's Check. (fast region) -/
import Derived.Test.YtjodpffdlggjgaaShpP
import Derived.Test.YtjodpffdlggjgaaUpd
namespace Go.Proofs.Ytjodpffdlggjgaa
open Go.RowKit
set_option linter.unusedSimpArgs false
set_option linter.unusedVariables false
set_option maxHeartbeats 4000000
set_option maxRecDepth 100000
theorem shp_tests (s : Shp) : (shpErr s = 14 ∧ (decide (s.kind < 1) = true ∨ (decide (s.kind < 1) = false ∧ decide (5 < s.kind) = true))) ∨ (shpErr s = 4 ∧ decide (s.kind < 1) = false ∧ decide (5 < s.kind) = false ∧ (decide (s.low < 0) = true ∨ (decide (s.low < 0) = false ∧ decide (s.high < s.low) = true))) ∨ (shpErr s = 1 ∧ decide (s.kind < 1) = false ∧ decide (5 < s.kind) = false ∧ decide (s.low < 0) = false ∧ decide (s.high < s.low) = false ∧ (decide (s.period < 1) = true ∨ (decide (s.period < 1) = false ∧ decide (2147483648 < s.period) = true))) ∨ (shpErr s = 0 ∧ decide (s.kind < 1) = false ∧ decide (5 < s.kind) = false ∧ decide (s.low < 0) = false ∧ decide (s.high < s.low) = false ∧ decide (s.period < 1) = false ∧ decide (2147483648 < s.period) = false) := by
  simp only [decide_eq_true_eq, decide_eq_false_iff_not]
  unfold shpErr
  (repeat' split) <;> omega
theorem shape_Check (s : Shp) (w : World) :
    Calls Try.prog 101 #[.agg s.row] w fun e w' => e = .returned (.int .i64 (shpErr s)) ∧ Below w.heap.size w w' := by
  rcases shp_tests s with ⟨he, d1 | ⟨d1, d2⟩⟩ | ⟨he, d1, d2, d3 | ⟨d3, d4⟩⟩ | ⟨he, d1, d2, d3, d4, d5 | ⟨d5, d6⟩⟩ | ⟨he, d1, d2, d3, d4, d5, d6⟩
  all_goals
    rw [he]
    clear he
    go_enter Try.func101, Try.ntmps101
    go_wp2
    go_ret
    exact ⟨rfl, by go_grown⟩
theorem ref54_Check (s : Shp) (w : World) :
    Calls Try.prog 68 #[.agg s.row] w fun e w' => e = .returned (.int .i64 (shpErr s)) ∧ Below w.heap.size w w' := by
  rcases shp_tests s with ⟨he, d1 | ⟨d1, d2⟩⟩ | ⟨he, d1, d2, d3 | ⟨d3, d4⟩⟩ | ⟨he, d1, d2, d3, d4, d5 | ⟨d5, d6⟩⟩ | ⟨he, d1, d2, d3, d4, d5, d6⟩
  all_goals
    rw [he]
    clear he
    go_enter Try.func68, Try.ntmps68
    go_wp2
    go_ret
    exact ⟨rfl, by go_grown⟩
theorem shape_rest (n b : Int) (w : World) (hn : I64 n) (hb : 1 ≤ b) (hb2 : b ≤ 2147483648) :
    Calls Try.prog 138 #[.int .i64 n, .int .i64 b] w fun e w' => e = .returned (.int .i64 (n % b)) ∧ w = w' := by
  have HE := Lib.hid (rest_emod (n := n) (b := b) (by omega))
  have h3 := Int.emod_lt_of_pos n (show 0 < b by omega)
  have h4 := Int.emod_nonneg n (show b ≠ 0 by omega)
  have hM : (Int.tmod n b < 0 ∧ -2147483648 ≤ Int.tmod n b) ∨ (0 ≤ Int.tmod n b ∧ Int.tmod n b ≤ 2147483648) := by
    have := HE.out
    by_cases h : Int.tmod n b < 0
    · rw [if_pos h] at this; omega
    · rw [if_neg h] at this; omega
  have db : (b == 0) = false := by simp; omega
  have hwr : IntKind.i64.wrap (Int.tmod n b) = Int.tmod n b := IntWalk.i64_in _ (by omega)
  clear h3 h4
  rcases hM with ⟨m1, m2⟩ | ⟨m1, m2⟩
  · go_enter Try.func138, Try.ntmps138
    go_wp2
    go_ret
    exact ⟨ret_int (by rw [HE.out, if_pos m1]), rfl⟩
  · go_enter Try.func138, Try.ntmps138
    go_wp2
    go_ret
    exact ⟨ret_int (by rw [HE.out, if_neg (by omega)]), rfl⟩
abbrev shT : TypeId := 106
theorem shape_Place_no (s : Shp) (tick : Int) (w : World) (h : shpErr s ≠ 0) :
    Calls Try.prog 123 #[.agg s.row, .int .i64 tick] w fun e w' => e = .returned (.int .i64 0) ∧ Below w.heap.size w w' := by
  have HC := Lib.hid (fun W => shape_Check s W)
  have B0 := Lib.hid (Blk.new w shT s.row)
  have E0 := Lib.hid (show Below w.heap.size w (w.alloc (.cells s.row shT)) by go_grown)
  obtain ⟨E, hE⟩ : ∃ E, shpErr s = E := ⟨_, rfl⟩
  rw [hE] at HC h
  clear hE
  have dE : (E == 0) = false := by simpa using h
  have dE2 : (E != 0) = true := by simpa using h
  clear h
  go_enter Try.func123, Try.ntmps123
  go_wp2_with (first
    | (refine Blk.load rfl 106 (.tmp 2) rfl _ _ _ _ rfl B0.out Try.underlying106 rfl (by kernel_rfl) ?_)
    | (go_at_call 101; refine (HC.out _).mono ?_; rintro e v1 ⟨rfl, hb1⟩; have E1 := Lib.hid (E0.out.trans (hb1.mono E0.out.size)); clear hb1))
  go_ret
  exact ⟨rfl, E1.out⟩
theorem shape_Place (s : Shp) (tick : Int) (w : World) (h : s.ok) (hg : s.good) (ht : I64 tick) :
    Calls Try.prog 123 #[.agg s.row, .int .i64 tick] w fun e w' => e = .returned (.int .i64 (place54 s tick)) ∧ Below w.heap.size w w' := by
  have HC := Lib.hid (fun W => shape_Check s W)
  rw [shpErr_ok.2 h] at HC
  have B0 := Lib.hid (Blk.new w shT s.row)
  have E0 := Lib.hid (show Below w.heap.size w (w.alloc (.cells s.row shT)) by go_grown)
  have HT := Lib.hid ht
  have HPh := Lib.hid hg.2.2.2.2
  have hp1 := h.2.2.2.2.1
  have hp2 := h.2.2.2.2.2
  have a1 := Int.emod_nonneg tick (show s.period ≠ 0 by omega)
  have a2 := Int.emod_lt_of_pos tick (show 0 < s.period by omega)
  have a3 := Int.emod_nonneg s.phase (show s.period ≠ 0 by omega)
  have a4 := Int.emod_lt_of_pos s.phase (show 0 < s.period by omega)
  have HR := Lib.hid (fun n W hn => shape_rest n s.period W hn hp1 hp2)
  have HX := Lib.hid (show I64 (tick % s.period + s.phase % s.period) by unfold I64; omega)
  have hw1 : IntKind.i64.wrap (tick % s.period + s.phase % s.period) = tick % s.period + s.phase % s.period := IntWalk.i64_in _ (by omega)
  clear h hg ht hp1 hp2
  go_enter Try.func123, Try.ntmps123
  focus (go_upto_region 3 with (first
    | (refine Blk.load rfl 106 (.tmp 2) rfl _ _ _ _ rfl B0.out Try.underlying106 rfl (by kernel_rfl) ?_)
    | (go_at_call 101; refine (HC.out _).mono ?_; rintro e v1 ⟨rfl, hb1⟩; have E1 := Lib.hid (E0.out.trans (hb1.mono E0.out.size)); have B1 := Lib.hid (B0.out.call hb1); clear hb1)))
  have c3 := B1.out.cellv (i := 3) (v := .int .i64 s.period) rfl
  have c4 := B1.out.cellv (i := 4) (v := .int .i64 s.phase) rfl
  go_quiet ((go_at_call 138; exact Calls.quiet_of_same ((HR.out _ _ (by first | exact HT.out | exact HPh.out | exact HX.out)).mono fun _ _ h => ⟨h.1, h.2.symm⟩)))
  go_wp2
  go_ret
  exact ⟨rfl, below_drewN E1.out _⟩
theorem shape_part (s : Shp) (n : Int) (w : World) (h : s.ok) (hg : s.good) (h0 : 0 ≤ n) (h1 : n ≤ s.period) :
    Calls Try.prog 124 #[.agg s.row, .int .i64 n] w fun e w' => e = .returned (.int .i64 (partq s n)) ∧ Below w.heap.size w w' := by
  obtain ⟨D, hD⟩ : ∃ D : Nat, (D : Int) = s.high - s.low := ⟨(s.high - s.low).toNat, by have := h.2.2.2.1; omega⟩
  obtain ⟨N, rfl⟩ : ∃ N : Nat, n = N := ⟨n.toNat, by omega⟩
  obtain ⟨R, hR⟩ : ∃ R : Nat, (R : Int) = s.period := ⟨s.period.toNat, by have := h.2.2.2.2.1; omega⟩
  have hb := partq_bd h h0 h1
  have hlo := h.2.2.1
  have hhi := hg.2.2.1
  unfold I64 at hhi
  have hr1 := h.2.2.2.2.1
  have hr2 := h.2.2.2.2.2
  have hle := h.2.2.2.1
  have hq : partq s N = s.low + ((D * N / R : Nat) : Int) := by unfold partq; rw [← hD, ← hR]; simp
  rw [hq] at hb ⊢
  have HMu := Lib.hid (fun W => wide_Mul D N W (by omega) (by omega))
  have hDN : D * N < 2 ^ 128 := by
    have e1 : D * N ≤ 9223372036854775807 * 2147483648 := Nat.mul_le_mul (by omega) (by omega)
    exact Nat.lt_of_le_of_lt e1 (by decide)
  have HDv := Lib.hid (fun W => wide_DivN (D * N) R W hDN (by omega) (by omega))
  have hQ2 : D * N / R < 2 ^ 128 := Nat.lt_of_le_of_lt (Nat.div_le_self _ _) hDN
  have HSm := Lib.hid (fun W => wide_SmallN (D * N / R) W hQ2)
  have e1 : smallQ (D * N / R) = D * N / R := by unfold smallQ; rw [if_pos (by omega)]
  rw [e1] at HSm
  clear hDN hQ2 e1 hq
  generalize D * N / R = Q at *
  generalize D * N = M at *
  generalize hh1 : ((hiQ M : Nat) : Int) = h1 at *
  generalize hh2 : ((loQ M : Nat) : Int) = l1 at *
  generalize hh3 : ((hiQ Q : Nat) : Int) = h2 at *
  generalize hh4 : ((loQ Q : Nat) : Int) = l2 at *
  clear hh1 hh2 hh3 hh4
  generalize M % R = R2 at *
  have HB := Lib.hid hb
  have HRr := Lib.hid hR
  have HDd := Lib.hid hD
  have w1 : IntKind.i64.wrap (s.high - s.low) = (D : Int) := by rw [IntWalk.i64_in _ (by omega)]; exact hD.symm
  have w3 : IntKind.u64.wrap (N : Int) = (N : Int) := by first | exact IntWalk.u64_in _ (by omega) | (unfold IntKind.wrap; simp; omega)
  have w4 : IntKind.u64.wrap (R : Int) = (R : Int) := by first | exact IntWalk.u64_in _ (by omega) | (unfold IntKind.wrap; simp; omega)
  have w5 : IntKind.i64.wrap (s.low + (Q : Int)) = s.low + (Q : Int) := IntWalk.i64_in _ (by omega)
  have W5 := Lib.hid w5
  clear w5
  have w2 : IntKind.u64.wrap (D : Int) = (D : Int) := by first | exact IntWalk.u64_in _ (by omega) | (unfold IntKind.wrap; simp; omega)
  have B0 := Lib.hid (Blk.new w shT s.row)
  have E0 := Lib.hid (show Below w.heap.size w (w.alloc (.cells s.row shT)) by go_grown)
  clear h hg hD hR hb
  go_enter Try.func124, Try.ntmps124
  focus (go_upto_region 1 with (fail))
  generalize w.alloc (.cells s.row 106) = W1 at *
  refine wp_region_any (by kernel_rfl) ?_; change wpAny _ _ _ _ _ _ _ (World.drew W1); refine any_of_anyG (late := fun _ => false) (S := fun wS => Below W1.heap.size W1 wS) _ _ _ _ ?_
  have S0 := (Below.refl W1.heap.size W1).drew
  refine anyG_takes (is := [0, 1, 2, 3, 4]) (vs := [_, .int .i64 s.high, _, .int .i64 s.low, .int .i64 (D : Int)]) (m := 16) (listed2 := #[true, true, true, true, true, false, false, false, false, false, false, false, false, false, false, false, false, false, false, false, false]) (a2 := ⟨#[_, _, _, _, _, _, _, _, _, _, _, _, _, _, _, _, _, _, _, _, _, _, _, _, _, _, _, _, _, _], _⟩) (by kernel_rfl) (fun j hj => by simp at hj) (by kernel_rfl) (fun _ _ _ _ _ h => h) (Ys.cons rfl (Or.inl ⟨by rfl, fun W1 hW1 => by first | rfl | (go_simp; done) | (go_simp; with_reducible rfl)⟩) (Ys.cons rfl (Or.inl ⟨by rfl, fun W1 hW1 => by have c := (B0.out.call hW1).cellv (i := 2) (v := .int .i64 s.high) rfl; go_simp⟩) (Ys.cons rfl (Or.inl ⟨by rfl, fun W1 hW1 => by first | rfl | (go_simp; done) | (go_simp; with_reducible rfl)⟩) (Ys.cons rfl (Or.inl ⟨by rfl, fun W1 hW1 => by have c := (B0.out.call hW1).cellv (i := 1) (v := .int .i64 s.low) rfl; go_simp⟩) (Ys.cons rfl (Or.inl ⟨by rfl, fun W1 hW1 => by go_simp⟩) (Ys.nil)))))) (S0) (by rfl) (by rfl) ?_
  refine anyG_takes (is := [5, 6, 7, 9, 10]) (vs := [.int .u64 (D : Int), _, .int .u64 (N : Int), _, .int .i64 (R : Int)]) (m := 11) (listed2 := #[true, true, true, true, true, true, true, true, false, true, true, false, false, false, false, false, false, false, false, false, false]) (a2 := ⟨#[_, _, _, _, _, _, _, _, _, _, _, _, _, _, _, _, _, _, _, _, _, _, _, _, _, _, _, _, _, _], _⟩) (by kernel_rfl) (fun j hj => by simp at hj) (by kernel_rfl) (fun _ _ _ _ _ h => h) (Ys.cons rfl (Or.inl ⟨by rfl, fun W1 hW1 => by go_simp⟩) (Ys.cons rfl (Or.inl ⟨by rfl, fun W1 hW1 => by first | rfl | (go_simp; done) | (go_simp; with_reducible rfl)⟩) (Ys.cons rfl (Or.inl ⟨by rfl, fun W1 hW1 => by go_simp⟩) (Ys.cons rfl (Or.inl ⟨by rfl, fun W1 hW1 => by first | rfl | (go_simp; done) | (go_simp; with_reducible rfl)⟩) (Ys.cons rfl (Or.inl ⟨by rfl, fun W1 hW1 => by have c := (B0.out.call hW1).cellv (i := 3) (v := .int .i64 s.period) rfl; rw [← HRr.out] at c; go_simp⟩) (Ys.nil)))))) (S0) (by rfl) (by rfl) ?_
  refine anyG_takes (is := [11]) (vs := [.int .u64 (R : Int)]) (m := 10) (listed2 := #[true, true, true, true, true, true, true, true, false, true, true, true, false, false, false, false, false, false, false, false, false]) (a2 := ⟨#[_, _, _, _, _, _, _, _, _, _, _, _, _, _, _, _, _, _, _, _, _, _, _, _, _, _, _, _, _, _], _⟩) (by kernel_rfl) (fun j hj => by simp at hj) (by kernel_rfl) (fun _ _ _ _ _ h => h) (Ys.cons rfl (Or.inl ⟨by rfl, fun W1 hW1 => by go_simp⟩) (Ys.nil)) (S0) (by rfl) (by rfl) ?_
  refine anyG_two (i := 8) (j := 17) (by kernel_rfl) rfl (by rfl) rfl (by rfl) (fun Q2 hQ2 => ?_) (fun Q2 hQ2 => ?_)
  ·
    go_wp2_with (go_at_call 105; refine (HMu.out _).mono ?_; rintro e v2 ⟨rfl, hb2⟩; (try have bG8 := bG8.call hb2))
    refine hQ2 _ _ (fun _ => S0.trans (hb2.mono S0.size)) ?_
    clear hQ2 Q2
    have S2 := S0.trans (hb2.mono S0.size)
    refine anyG_two (i := 12) (j := 17) (by kernel_rfl) rfl (by rfl) rfl (by rfl) (fun Q2 hQ2 => ?_) (fun Q2 hQ2 => ?_)
    ·
      go_wp2_with (go_at_call 139; refine (HDv.out _).mono ?_; rintro e v3 ⟨rfl, hb3⟩; (try have bG8 := bG8.call hb3))
      refine hQ2 _ _ (fun _ => S2.trans (hb3.mono S2.size)) ?_
      clear hQ2 Q2
      have S3 := S2.trans (hb3.mono S2.size)
      refine anyG_takes (is := [13, 14, 15, 16]) (vs := [_, _, _, _]) (m := 4) (listed2 := #[true, true, true, true, true, true, true, true, true, true, true, true, true, true, true, true, true, false, false, false, false]) (a2 := ⟨#[_, _, _, _, _, _, _, _, _, _, _, _, _, _, _, _, _, _, _, _, _, _, _, _, _, _, _, _, _, _], _⟩) (by kernel_rfl) (fun j hj => by simp at hj) (by kernel_rfl) (fun _ _ _ _ _ h => h) (Ys.cons rfl (Or.inl ⟨by rfl, fun W1 hW1 => by first | rfl | (go_simp; done) | (go_simp; with_reducible rfl)⟩) (Ys.cons rfl (Or.inl ⟨by rfl, fun W1 hW1 => by first | rfl | (go_simp; done) | (go_simp; with_reducible rfl)⟩) (Ys.cons rfl (Or.inl ⟨by rfl, fun W1 hW1 => by first | rfl | (go_simp; done) | (go_simp; with_reducible rfl)⟩) (Ys.cons rfl (Or.inl ⟨by rfl, fun W1 hW1 => by first | rfl | (go_simp; done) | (go_simp; with_reducible rfl)⟩) (Ys.nil))))) (S3) (by rfl) (by rfl) ?_
      refine anyG_one (k := 17) (by kernel_rfl) rfl (by rfl) (fun Q2 hQ2 => ?_)
      have nG8 := new_at (S := S3) (#[.int .u64 0, .int .u64 0]) 141
      obtain ⟨G8, hG8, bG8, lG8⟩ := nG8
      go_wp2_with fail
      refine hQ2 _ _ (fun _ => S3.alloc S3.size _) ?_
      clear hQ2 Q2
      (try simp only [hG8])
      clear hG8
      have SG8 := S3.alloc S3.size (.cells (#[.int .u64 0, .int .u64 0]) 141)
      refine anyG_one (k := 18) (by kernel_rfl) rfl (by rfl) (fun Q2 hQ2 => ?_); go_wp2_with (refine wpList_store_row rfl 141 (.tmp 5) _ rfl _ _ _ _ rfl rfl (bG8) (by rfl) (by kernel_rfl) (by simp [Value.oneCell']) ?_; intro uG8 huG8 hwG8); refine hQ2 _ _ (fun _ => SG8.trans (Only.below hwG8 lG8 SG8.size)) ?_; clear hQ2 Q2
      have SsG8 := SG8.trans (Only.below hwG8 lG8 SG8.size)
      refine anyG_takes (is := [19, 20]) (vs := [_, _]) (m := 0) (listed2 := #[true, true, true, true, true, true, true, true, true, true, true, true, true, true, true, true, true, true, true, true, true]) (a2 := ⟨#[_, _, _, _, _, _, _, _, _, _, _, _, _, _, _, _, _, _, _, _, _, _, _, _, _, _, _, _, _, _], _⟩) (by kernel_rfl) (fun j hj => by simp at hj) (by kernel_rfl) (fun _ _ _ _ _ h => h) (Ys.cons rfl (Or.inl ⟨by rfl, fun W1 hW1 => by first | rfl | (go_simp; done) | (go_simp; with_reducible rfl)⟩) (Ys.cons rfl (Or.inl ⟨by rfl, fun W1 hW1 => by first | rfl | (go_simp; done) | (go_simp; with_reducible rfl)⟩) (Ys.nil))) (SsG8) (by rfl) (by rfl) ?_
      refine anyG_done (by kernel_rfl) ?_ _
      have R4 := Lib.hid huG8
      have B4 := Lib.hid (B0.out.call (SsG8))
      have E4 := Lib.hid (E0.out.trans (Below.mono (SsG8) E0.out.size))
      have w5 := W5.out
      have hb1 := HB.out.1
      have hb2_ := HB.out.2
      clear w1 w2 w3 w4 bG8 huG8 hwG8 lG8
      focus (go_upto_region 2 with (fail))
      refine wp_region_any (by kernel_rfl) ?_; change wpAny _ _ _ _ _ _ _ (World.drew uG8); refine any_of_anyG (late := fun _ => false) (S := fun wS => Below uG8.heap.size uG8 wS) _ _ _ _ ?_
      have S0 := (Below.refl uG8.heap.size uG8).drew
      refine anyG_takes (is := [0, 1, 2]) (vs := [_, .int .i64 s.low, _]) (m := 3) (listed2 := #[true, true, true, false, false, false]) (a2 := ⟨#[_, _, _, _, _, _, _, _, _, _, _, _, _, _, _, _, _, _, _, _, _, _, _, _, _, _, _, _, _, _], _⟩) (by kernel_rfl) (fun j hj => by simp at hj) (by kernel_rfl) (fun _ _ _ _ _ h => h) (Ys.cons rfl (Or.inl ⟨by rfl, fun W1 hW1 => by first | rfl | (go_simp; done) | (go_simp; with_reducible rfl)⟩) (Ys.cons rfl (Or.inl ⟨by rfl, fun W1 hW1 => by have c := (B4.out.call hW1).cellv (i := 1) (v := .int .i64 s.low) rfl; go_simp⟩) (Ys.cons rfl (Or.inl ⟨by rfl, fun W1 hW1 => exec_load (ty := 141) (x := .tmp 5) rfl rfl (run_loadAt_blk _ _ _ _ _ _ (R4.out.call hW1) Try.underlying141 rfl (by first | kernel_rfl | exact info_num _))⟩) (Ys.nil)))) (S0) (by rfl) (by rfl) ?_
      refine anyG_one (k := 3) (by kernel_rfl) rfl (by rfl) (fun Q2 hQ2 => ?_); go_wp2_with (go_at_call 140; refine (HSm.out _).mono ?_; rintro e v6 ⟨rfl, hb6⟩); refine hQ2 _ _ (fun _ => S0.trans (hb6.mono S0.size)) ?_; clear hQ2 Q2
      have S6 := S0.trans (hb6.mono S0.size)
      refine anyG_one (k := 4) (by kernel_rfl) rfl (by rfl) (fun Q2 hQ2 => ?_); go_wp2_with fail; refine hQ2 _ _ (fun _ => S6) ?_; clear hQ2 Q2
      refine anyG_takes (is := [5]) (vs := [_]) (m := 0) (listed2 := #[true, true, true, true, true, true]) (a2 := ⟨#[_, _, _, _, _, _, _, _, _, _, _, _, _, _, _, _, _, _, _, _, _, _, _, _, _, _, _, _, _, _], _⟩) (by kernel_rfl) (fun j hj => by simp at hj) (by kernel_rfl) (fun _ _ _ _ _ h => h) (Ys.cons rfl (Or.inl ⟨by rfl, fun W1 hW1 => by first | rfl | (go_simp; done) | (go_simp; with_reducible rfl)⟩) (Ys.nil)) (S6) (by rfl) (by rfl) ?_
      refine anyG_done (by kernel_rfl) ?_ _
      go_wp2
      go_ret
      exact ⟨rfl, E4.out.trans (Below.mono (S6) E4.out.size)⟩
    ·
      skip
      have nG8 := new_at (S := S2) (#[.int .u64 0, .int .u64 0]) 141
      obtain ⟨G8, hG8, bG8, lG8⟩ := nG8
      go_wp2_with fail
      refine hQ2 _ _ (fun _ => S2.alloc S2.size _) ?_
      clear hQ2 Q2
      (try simp only [hG8])
      clear hG8
      have SG8 := S2.alloc S2.size (.cells (#[.int .u64 0, .int .u64 0]) 141)
      refine anyG_one (k := 12) (by kernel_rfl) rfl (by rfl) (fun Q2 hQ2 => ?_); go_wp2_with (go_at_call 139; refine (HDv.out _).mono ?_; rintro e v3 ⟨rfl, hb3⟩; (try have bG8 := bG8.call hb3)); refine hQ2 _ _ (fun _ => SG8.trans (hb3.mono SG8.size)) ?_; clear hQ2 Q2
      have S3 := SG8.trans (hb3.mono SG8.size)
      refine anyG_takes (is := [13, 14, 15, 16]) (vs := [_, _, _, _]) (m := 3) (listed2 := #[true, true, true, true, true, true, true, true, true, true, true, true, true, true, true, true, true, true, false, false, false]) (a2 := ⟨#[_, _, _, _, _, _, _, _, _, _, _, _, _, _, _, _, _, _, _, _, _, _, _, _, _, _, _, _, _, _], _⟩) (by kernel_rfl) (fun j hj => by simp at hj) (by kernel_rfl) (fun _ _ _ _ _ h => h) (Ys.cons rfl (Or.inl ⟨by rfl, fun W1 hW1 => by first | rfl | (go_simp; done) | (go_simp; with_reducible rfl)⟩) (Ys.cons rfl (Or.inl ⟨by rfl, fun W1 hW1 => by first | rfl | (go_simp; done) | (go_simp; with_reducible rfl)⟩) (Ys.cons rfl (Or.inl ⟨by rfl, fun W1 hW1 => by first | rfl | (go_simp; done) | (go_simp; with_reducible rfl)⟩) (Ys.cons rfl (Or.inl ⟨by rfl, fun W1 hW1 => by first | rfl | (go_simp; done) | (go_simp; with_reducible rfl)⟩) (Ys.nil))))) (S3) (by rfl) (by rfl) ?_
      refine anyG_one (k := 18) (by kernel_rfl) rfl (by rfl) (fun Q2 hQ2 => ?_); go_wp2_with (refine wpList_store_row rfl 141 (.tmp 5) _ rfl _ _ _ _ rfl rfl (bG8) (by rfl) (by kernel_rfl) (by simp [Value.oneCell']) ?_; intro uG8 huG8 hwG8); refine hQ2 _ _ (fun _ => S3.trans (Only.below hwG8 lG8 S3.size)) ?_; clear hQ2 Q2
      have SsG8 := S3.trans (Only.below hwG8 lG8 S3.size)
      refine anyG_takes (is := [19, 20]) (vs := [_, _]) (m := 0) (listed2 := #[true, true, true, true, true, true, true, true, true, true, true, true, true, true, true, true, true, true, true, true, true]) (a2 := ⟨#[_, _, _, _, _, _, _, _, _, _, _, _, _, _, _, _, _, _, _, _, _, _, _, _, _, _, _, _, _, _], _⟩) (by kernel_rfl) (fun j hj => by simp at hj) (by kernel_rfl) (fun _ _ _ _ _ h => h) (Ys.cons rfl (Or.inl ⟨by rfl, fun W1 hW1 => by first | rfl | (go_simp; done) | (go_simp; with_reducible rfl)⟩) (Ys.cons rfl (Or.inl ⟨by rfl, fun W1 hW1 => by first | rfl | (go_simp; done) | (go_simp; with_reducible rfl)⟩) (Ys.nil))) (SsG8) (by rfl) (by rfl) ?_
      refine anyG_done (by kernel_rfl) ?_ _
      have R4 := Lib.hid huG8
      have B4 := Lib.hid (B0.out.call (SsG8))
      have E4 := Lib.hid (E0.out.trans (Below.mono (SsG8) E0.out.size))
      have w5 := W5.out
      have hb1 := HB.out.1
      have hb2_ := HB.out.2
      clear w1 w2 w3 w4 bG8 huG8 hwG8 lG8
      focus (go_upto_region 2 with (fail))
      refine wp_region_any (by kernel_rfl) ?_; change wpAny _ _ _ _ _ _ _ (World.drew uG8); refine any_of_anyG (late := fun _ => false) (S := fun wS => Below uG8.heap.size uG8 wS) _ _ _ _ ?_
      have S0 := (Below.refl uG8.heap.size uG8).drew
      refine anyG_takes (is := [0, 1, 2]) (vs := [_, .int .i64 s.low, _]) (m := 3) (listed2 := #[true, true, true, false, false, false]) (a2 := ⟨#[_, _, _, _, _, _, _, _, _, _, _, _, _, _, _, _, _, _, _, _, _, _, _, _, _, _, _, _, _, _], _⟩) (by kernel_rfl) (fun j hj => by simp at hj) (by kernel_rfl) (fun _ _ _ _ _ h => h) (Ys.cons rfl (Or.inl ⟨by rfl, fun W1 hW1 => by first | rfl | (go_simp; done) | (go_simp; with_reducible rfl)⟩) (Ys.cons rfl (Or.inl ⟨by rfl, fun W1 hW1 => by have c := (B4.out.call hW1).cellv (i := 1) (v := .int .i64 s.low) rfl; go_simp⟩) (Ys.cons rfl (Or.inl ⟨by rfl, fun W1 hW1 => exec_load (ty := 141) (x := .tmp 5) rfl rfl (run_loadAt_blk _ _ _ _ _ _ (R4.out.call hW1) Try.underlying141 rfl (by first | kernel_rfl | exact info_num _))⟩) (Ys.nil)))) (S0) (by rfl) (by rfl) ?_
      refine anyG_one (k := 3) (by kernel_rfl) rfl (by rfl) (fun Q2 hQ2 => ?_); go_wp2_with (go_at_call 140; refine (HSm.out _).mono ?_; rintro e v6 ⟨rfl, hb6⟩); refine hQ2 _ _ (fun _ => S0.trans (hb6.mono S0.size)) ?_; clear hQ2 Q2
      have S6 := S0.trans (hb6.mono S0.size)
      refine anyG_one (k := 4) (by kernel_rfl) rfl (by rfl) (fun Q2 hQ2 => ?_); go_wp2_with fail; refine hQ2 _ _ (fun _ => S6) ?_; clear hQ2 Q2
      refine anyG_takes (is := [5]) (vs := [_]) (m := 0) (listed2 := #[true, true, true, true, true, true]) (a2 := ⟨#[_, _, _, _, _, _, _, _, _, _, _, _, _, _, _, _, _, _, _, _, _, _, _, _, _, _, _, _, _, _], _⟩) (by kernel_rfl) (fun j hj => by simp at hj) (by kernel_rfl) (fun _ _ _ _ _ h => h) (Ys.cons rfl (Or.inl ⟨by rfl, fun W1 hW1 => by first | rfl | (go_simp; done) | (go_simp; with_reducible rfl)⟩) (Ys.nil)) (S6) (by rfl) (by rfl) ?_
      refine anyG_done (by kernel_rfl) ?_ _
      go_wp2
      go_ret
      exact ⟨rfl, E4.out.trans (Below.mono (S6) E4.out.size)⟩
  ·
    skip
    have nG8 := new_at (S := S0) (#[.int .u64 0, .int .u64 0]) 141
    obtain ⟨G8, hG8, bG8, lG8⟩ := nG8
    go_wp2_with fail
    refine hQ2 _ _ (fun _ => S0.alloc S0.size _) ?_
    clear hQ2 Q2
    (try simp only [hG8])
    clear hG8
    have SG8 := S0.alloc S0.size (.cells (#[.int .u64 0, .int .u64 0]) 141)
    refine anyG_one (k := 8) (by kernel_rfl) rfl (by rfl) (fun Q2 hQ2 => ?_); go_wp2_with (go_at_call 105; refine (HMu.out _).mono ?_; rintro e v2 ⟨rfl, hb2⟩; (try have bG8 := bG8.call hb2)); refine hQ2 _ _ (fun _ => SG8.trans (hb2.mono SG8.size)) ?_; clear hQ2 Q2
    have S2 := SG8.trans (hb2.mono SG8.size)
    refine anyG_one (k := 12) (by kernel_rfl) rfl (by rfl) (fun Q2 hQ2 => ?_); go_wp2_with (go_at_call 139; refine (HDv.out _).mono ?_; rintro e v3 ⟨rfl, hb3⟩; (try have bG8 := bG8.call hb3)); refine hQ2 _ _ (fun _ => S2.trans (hb3.mono S2.size)) ?_; clear hQ2 Q2
    have S3 := S2.trans (hb3.mono S2.size)
    refine anyG_takes (is := [13, 14, 15, 16]) (vs := [_, _, _, _]) (m := 3) (listed2 := #[true, true, true, true, true, true, true, true, true, true, true, true, true, true, true, true, true, true, false, false, false]) (a2 := ⟨#[_, _, _, _, _, _, _, _, _, _, _, _, _, _, _, _, _, _, _, _, _, _, _, _, _, _, _, _, _, _], _⟩) (by kernel_rfl) (fun j hj => by simp at hj) (by kernel_rfl) (fun _ _ _ _ _ h => h) (Ys.cons rfl (Or.inl ⟨by rfl, fun W1 hW1 => by first | rfl | (go_simp; done) | (go_simp; with_reducible rfl)⟩) (Ys.cons rfl (Or.inl ⟨by rfl, fun W1 hW1 => by first | rfl | (go_simp; done) | (go_simp; with_reducible rfl)⟩) (Ys.cons rfl (Or.inl ⟨by rfl, fun W1 hW1 => by first | rfl | (go_simp; done) | (go_simp; with_reducible rfl)⟩) (Ys.cons rfl (Or.inl ⟨by rfl, fun W1 hW1 => by first | rfl | (go_simp; done) | (go_simp; with_reducible rfl)⟩) (Ys.nil))))) (S3) (by rfl) (by rfl) ?_
    refine anyG_one (k := 18) (by kernel_rfl) rfl (by rfl) (fun Q2 hQ2 => ?_); go_wp2_with (refine wpList_store_row rfl 141 (.tmp 5) _ rfl _ _ _ _ rfl rfl (bG8) (by rfl) (by kernel_rfl) (by simp [Value.oneCell']) ?_; intro uG8 huG8 hwG8); refine hQ2 _ _ (fun _ => S3.trans (Only.below hwG8 lG8 S3.size)) ?_; clear hQ2 Q2
    have SsG8 := S3.trans (Only.below hwG8 lG8 S3.size)
    refine anyG_takes (is := [19, 20]) (vs := [_, _]) (m := 0) (listed2 := #[true, true, true, true, true, true, true, true, true, true, true, true, true, true, true, true, true, true, true, true, true]) (a2 := ⟨#[_, _, _, _, _, _, _, _, _, _, _, _, _, _, _, _, _, _, _, _, _, _, _, _, _, _, _, _, _, _], _⟩) (by kernel_rfl) (fun j hj => by simp at hj) (by kernel_rfl) (fun _ _ _ _ _ h => h) (Ys.cons rfl (Or.inl ⟨by rfl, fun W1 hW1 => by first | rfl | (go_simp; done) | (go_simp; with_reducible rfl)⟩) (Ys.cons rfl (Or.inl ⟨by rfl, fun W1 hW1 => by first | rfl | (go_simp; done) | (go_simp; with_reducible rfl)⟩) (Ys.nil))) (SsG8) (by rfl) (by rfl) ?_
    refine anyG_done (by kernel_rfl) ?_ _
    have R4 := Lib.hid huG8
    have B4 := Lib.hid (B0.out.call (SsG8))
    have E4 := Lib.hid (E0.out.trans (Below.mono (SsG8) E0.out.size))
    have w5 := W5.out
    have hb1 := HB.out.1
    have hb2_ := HB.out.2
    clear w1 w2 w3 w4 bG8 huG8 hwG8 lG8
    focus (go_upto_region 2 with (fail))
    refine wp_region_any (by kernel_rfl) ?_; change wpAny _ _ _ _ _ _ _ (World.drew uG8); refine any_of_anyG (late := fun _ => false) (S := fun wS => Below uG8.heap.size uG8 wS) _ _ _ _ ?_
    have S0 := (Below.refl uG8.heap.size uG8).drew
    refine anyG_takes (is := [0, 1, 2]) (vs := [_, .int .i64 s.low, _]) (m := 3) (listed2 := #[true, true, true, false, false, false]) (a2 := ⟨#[_, _, _, _, _, _, _, _, _, _, _, _, _, _, _, _, _, _, _, _, _, _, _, _, _, _, _, _, _, _], _⟩) (by kernel_rfl) (fun j hj => by simp at hj) (by kernel_rfl) (fun _ _ _ _ _ h => h) (Ys.cons rfl (Or.inl ⟨by rfl, fun W1 hW1 => by first | rfl | (go_simp; done) | (go_simp; with_reducible rfl)⟩) (Ys.cons rfl (Or.inl ⟨by rfl, fun W1 hW1 => by have c := (B4.out.call hW1).cellv (i := 1) (v := .int .i64 s.low) rfl; go_simp⟩) (Ys.cons rfl (Or.inl ⟨by rfl, fun W1 hW1 => exec_load (ty := 141) (x := .tmp 5) rfl rfl (run_loadAt_blk _ _ _ _ _ _ (R4.out.call hW1) Try.underlying141 rfl (by first | kernel_rfl | exact info_num _))⟩) (Ys.nil)))) (S0) (by rfl) (by rfl) ?_
    refine anyG_one (k := 3) (by kernel_rfl) rfl (by rfl) (fun Q2 hQ2 => ?_); go_wp2_with (go_at_call 140; refine (HSm.out _).mono ?_; rintro e v6 ⟨rfl, hb6⟩); refine hQ2 _ _ (fun _ => S0.trans (hb6.mono S0.size)) ?_; clear hQ2 Q2
    have S6 := S0.trans (hb6.mono S0.size)
    refine anyG_one (k := 4) (by kernel_rfl) rfl (by rfl) (fun Q2 hQ2 => ?_); go_wp2_with fail; refine hQ2 _ _ (fun _ => S6) ?_; clear hQ2 Q2
    refine anyG_takes (is := [5]) (vs := [_]) (m := 0) (listed2 := #[true, true, true, true, true, true]) (a2 := ⟨#[_, _, _, _, _, _, _, _, _, _, _, _, _, _, _, _, _, _, _, _, _, _, _, _, _, _, _, _, _, _], _⟩) (by kernel_rfl) (fun j hj => by simp at hj) (by kernel_rfl) (fun _ _ _ _ _ h => h) (Ys.cons rfl (Or.inl ⟨by rfl, fun W1 hW1 => by first | rfl | (go_simp; done) | (go_simp; with_reducible rfl)⟩) (Ys.nil)) (S6) (by rfl) (by rfl) ?_
    refine anyG_done (by kernel_rfl) ?_ _
    go_wp2
    go_ret
    exact ⟨rfl, E4.out.trans (Below.mono (S6) E4.out.size)⟩
theorem shape_At_no (s : Shp) (tick : Int) (w : World) (h : shpErr s ≠ 0) :
    Calls Try.prog 103 #[.agg s.row, .int .i64 tick] w fun e w' => e = .returned (.int .i64 (atq s tick)) ∧ Below w.heap.size w w' := by
  rw [show atq s tick = 0 from if_pos h]
  have HC := Lib.hid (fun W => shape_Check s W)
  have B0 := Lib.hid (Blk.new w shT s.row)
  have E0 := Lib.hid (show Below w.heap.size w (w.alloc (.cells s.row shT)) by go_grown)
  obtain ⟨E, hE⟩ : ∃ E, shpErr s = E := ⟨_, rfl⟩
  rw [hE] at HC h
  clear hE
  have dE : (E == 0) = false := by simpa using h
  have dE2 : (E != 0) = true := by simpa using h
  clear h
  go_enter Try.func103, Try.ntmps103
  go_wp2_with (first
    | (refine Blk.load rfl 106 (.tmp 2) rfl _ _ _ _ rfl B0.out Try.underlying106 rfl (by kernel_rfl) ?_)
    | (go_at_call 101; refine (HC.out _).mono ?_; rintro e v1 ⟨rfl, hb1⟩; have E1 := Lib.hid (E0.out.trans (hb1.mono E0.out.size)); clear hb1))
  go_ret
  exact ⟨rfl, E1.out⟩
theorem shape_At_ok (kind low high period phase : Int) (tick : Int) (w : World) (h : (Shp.mk kind low high period phase).ok) (hg : (Shp.mk kind low high period phase).good) (ht : I64 tick) :
    Calls Try.prog 103 #[.agg (Shp.mk kind low high period phase).row, .int .i64 tick] w fun e w' => e = .returned (.int .i64 (atq ⟨kind, low, high, period, phase⟩ tick)) ∧ Below w.heap.size w w' := by
  have HC := Lib.hid (fun W => shape_Check ⟨kind, low, high, period, phase⟩ W)
  rw [shpErr_ok.2 h] at HC
  have HPl := Lib.hid (fun W => shape_Place ⟨kind, low, high, period, phase⟩ tick W h hg ht)
  have HPt := Lib.hid (fun n W h0 h1 => shape_part ⟨kind, low, high, period, phase⟩ n W h hg h0 h1)
  have hP := place54_bd h tick
  have hq0 := shpErr_ok.2 h
  have hper := h.2.2.2.2
  have hk := And.intro h.1 h.2.1
  have HQ := Lib.hid (show atq ⟨kind, low, high, period, phase⟩ tick = if kind = 2 then partq ⟨kind, low, high, period, phase⟩ (place54 ⟨kind, low, high, period, phase⟩ tick) else if kind = 3 then (if period - place54 ⟨kind, low, high, period, phase⟩ tick ≤ place54 ⟨kind, low, high, period, phase⟩ tick then high else low) else if kind = 4 then (if place54 ⟨kind, low, high, period, phase⟩ tick = 0 then high else low) else if kind = 5 then partq ⟨kind, low, high, period, phase⟩ (2 * min (place54 ⟨kind, low, high, period, phase⟩ tick) (period - place54 ⟨kind, low, high, period, phase⟩ tick)) else low from if_neg (by omega))
  simp only at hP hper hk
  generalize place54 ⟨kind, low, high, period, phase⟩ tick = P at *
  generalize atq ⟨kind, low, high, period, phase⟩ tick = AT at *
  have B0 := Lib.hid (Blk.new w shT (Shp.mk kind low high period phase).row)
  have E0 := Lib.hid (show Below w.heap.size w (w.alloc (.cells (Shp.mk kind low high period phase).row shT)) by go_grown)
  have HP0 := Lib.hid hP
  have HPe := Lib.hid hper
  clear h hg ht hq0
  obtain ⟨hp0, hp1⟩ := hP
  obtain ⟨hr0, hr1⟩ := hper
  rcases (show kind = 1 ∨ kind = 2 ∨ kind = 3 ∨ kind = 4 ∨ kind = 5 by omega) with rfl | rfl | rfl | rfl | rfl
  · go_enter Try.func103, Try.ntmps103
    go_wp2_with (first
      | (refine Blk.load rfl 106 (.tmp 2) rfl _ _ _ _ rfl B2.out Try.underlying106 rfl (by kernel_rfl) ?_)
      | (refine Blk.load rfl 106 (.tmp 2) rfl _ _ _ _ rfl B1.out Try.underlying106 rfl (by kernel_rfl) ?_)
      | (refine Blk.load rfl 106 (.tmp 2) rfl _ _ _ _ rfl B0.out Try.underlying106 rfl (by kernel_rfl) ?_)
      | (go_at_call 101; refine (HC.out _).mono ?_; rintro e v1 ⟨rfl, hb1⟩; have E1 := Lib.hid (E0.out.trans (hb1.mono E0.out.size)); have B1 := Lib.hid (B0.out.call hb1); clear hb1)
      | (go_at_call 123; refine (HPl.out _).mono ?_; rintro e v2 ⟨rfl, hb2⟩; have E2 := Lib.hid (E1.out.trans (hb2.mono E1.out.size)); have B2 := Lib.hid (B1.out.call hb2); have c0 := (B1.out.call hb2).cellv (i := 0) (v := .int .i64 1) rfl; have c1 := (B1.out.call hb2).cellv (i := 1) (v := .int .i64 low) rfl; have c2 := (B1.out.call hb2).cellv (i := 2) (v := .int .i64 high) rfl; have c3 := (B1.out.call hb2).cellv (i := 3) (v := .int .i64 period) rfl; clear hb2))
    (all_goals first | (exfalso; omega) | skip)
    go_ret
    exact ⟨by rw [HQ.out]; rfl, E2.out⟩
  · go_enter Try.func103, Try.ntmps103
    go_wp2_with (first
      | (refine Blk.load rfl 106 (.tmp 2) rfl _ _ _ _ rfl B2.out Try.underlying106 rfl (by kernel_rfl) ?_)
      | (refine Blk.load rfl 106 (.tmp 2) rfl _ _ _ _ rfl B1.out Try.underlying106 rfl (by kernel_rfl) ?_)
      | (refine Blk.load rfl 106 (.tmp 2) rfl _ _ _ _ rfl B0.out Try.underlying106 rfl (by kernel_rfl) ?_)
      | (go_at_call 101; refine (HC.out _).mono ?_; rintro e v1 ⟨rfl, hb1⟩; have E1 := Lib.hid (E0.out.trans (hb1.mono E0.out.size)); have B1 := Lib.hid (B0.out.call hb1); clear hb1)
      | (go_at_call 123; refine (HPl.out _).mono ?_; rintro e v2 ⟨rfl, hb2⟩; have E2 := Lib.hid (E1.out.trans (hb2.mono E1.out.size)); have B2 := Lib.hid (B1.out.call hb2); have c0 := (B1.out.call hb2).cellv (i := 0) (v := .int .i64 2) rfl; have c1 := (B1.out.call hb2).cellv (i := 1) (v := .int .i64 low) rfl; have c2 := (B1.out.call hb2).cellv (i := 2) (v := .int .i64 high) rfl; have c3 := (B1.out.call hb2).cellv (i := 3) (v := .int .i64 period) rfl; clear hb2)
      | (go_at_call 124; refine (HPt.out P _ (by omega) (by omega)).mono ?_; rintro e v3 ⟨rfl, hb3⟩; have E3 := Lib.hid (E2.out.trans (hb3.mono E2.out.size)); clear hb3))
    (all_goals first | (exfalso; omega) | skip)
    go_ret
    exact ⟨ret_int (by rw [HQ.out]; simp), E3.out⟩
  · by_cases hc : period - P ≤ P
    · have dc : decide (period - P ≤ P) = true := by simp; omega
      go_enter Try.func103, Try.ntmps103
      go_wp2_with (first
        | (refine Blk.load rfl 106 (.tmp 2) rfl _ _ _ _ rfl B2.out Try.underlying106 rfl (by kernel_rfl) ?_)
        | (refine Blk.load rfl 106 (.tmp 2) rfl _ _ _ _ rfl B1.out Try.underlying106 rfl (by kernel_rfl) ?_)
        | (refine Blk.load rfl 106 (.tmp 2) rfl _ _ _ _ rfl B0.out Try.underlying106 rfl (by kernel_rfl) ?_)
        | (go_at_call 101; refine (HC.out _).mono ?_; rintro e v1 ⟨rfl, hb1⟩; have E1 := Lib.hid (E0.out.trans (hb1.mono E0.out.size)); have B1 := Lib.hid (B0.out.call hb1); clear hb1)
        | (go_at_call 123; refine (HPl.out _).mono ?_; rintro e v2 ⟨rfl, hb2⟩; have E2 := Lib.hid (E1.out.trans (hb2.mono E1.out.size)); have B2 := Lib.hid (B1.out.call hb2); have c0 := (B1.out.call hb2).cellv (i := 0) (v := .int .i64 3) rfl; have c1 := (B1.out.call hb2).cellv (i := 1) (v := .int .i64 low) rfl; have c2 := (B1.out.call hb2).cellv (i := 2) (v := .int .i64 high) rfl; have c3 := (B1.out.call hb2).cellv (i := 3) (v := .int .i64 period) rfl; clear hb2))
      (all_goals first | (exfalso; omega) | skip)
      go_ret
      exact ⟨ret_int (by rw [HQ.out]; first | (simp [hc]; done) | (simp; intro h9; omega)), E2.out⟩
    · have dc : decide (period - P ≤ P) = false := by simp; omega
      go_enter Try.func103, Try.ntmps103
      go_wp2_with (first
        | (refine Blk.load rfl 106 (.tmp 2) rfl _ _ _ _ rfl B2.out Try.underlying106 rfl (by kernel_rfl) ?_)
        | (refine Blk.load rfl 106 (.tmp 2) rfl _ _ _ _ rfl B1.out Try.underlying106 rfl (by kernel_rfl) ?_)
        | (refine Blk.load rfl 106 (.tmp 2) rfl _ _ _ _ rfl B0.out Try.underlying106 rfl (by kernel_rfl) ?_)
        | (go_at_call 101; refine (HC.out _).mono ?_; rintro e v1 ⟨rfl, hb1⟩; have E1 := Lib.hid (E0.out.trans (hb1.mono E0.out.size)); have B1 := Lib.hid (B0.out.call hb1); clear hb1)
        | (go_at_call 123; refine (HPl.out _).mono ?_; rintro e v2 ⟨rfl, hb2⟩; have E2 := Lib.hid (E1.out.trans (hb2.mono E1.out.size)); have B2 := Lib.hid (B1.out.call hb2); have c0 := (B1.out.call hb2).cellv (i := 0) (v := .int .i64 3) rfl; have c1 := (B1.out.call hb2).cellv (i := 1) (v := .int .i64 low) rfl; have c2 := (B1.out.call hb2).cellv (i := 2) (v := .int .i64 high) rfl; have c3 := (B1.out.call hb2).cellv (i := 3) (v := .int .i64 period) rfl; clear hb2))
      (all_goals first | (exfalso; omega) | skip)
      go_ret
      exact ⟨ret_int (by rw [HQ.out]; first | (simp [hc]; done) | (simp; intro h9; omega)), E2.out⟩
  · by_cases hc : P = 0
    · have HC0 := Lib.hid hc
      have dc : (P == 0) = true := by simpa using hc
      clear hc
      go_enter Try.func103, Try.ntmps103
      go_wp2_with (first
        | (refine Blk.load rfl 106 (.tmp 2) rfl _ _ _ _ rfl B2.out Try.underlying106 rfl (by kernel_rfl) ?_)
        | (refine Blk.load rfl 106 (.tmp 2) rfl _ _ _ _ rfl B1.out Try.underlying106 rfl (by kernel_rfl) ?_)
        | (refine Blk.load rfl 106 (.tmp 2) rfl _ _ _ _ rfl B0.out Try.underlying106 rfl (by kernel_rfl) ?_)
        | (go_at_call 101; refine (HC.out _).mono ?_; rintro e v1 ⟨rfl, hb1⟩; have E1 := Lib.hid (E0.out.trans (hb1.mono E0.out.size)); have B1 := Lib.hid (B0.out.call hb1); clear hb1)
        | (go_at_call 123; refine (HPl.out _).mono ?_; rintro e v2 ⟨rfl, hb2⟩; have E2 := Lib.hid (E1.out.trans (hb2.mono E1.out.size)); have B2 := Lib.hid (B1.out.call hb2); have c0 := (B1.out.call hb2).cellv (i := 0) (v := .int .i64 4) rfl; have c1 := (B1.out.call hb2).cellv (i := 1) (v := .int .i64 low) rfl; have c2 := (B1.out.call hb2).cellv (i := 2) (v := .int .i64 high) rfl; have c3 := (B1.out.call hb2).cellv (i := 3) (v := .int .i64 period) rfl; clear hb2))
      (all_goals first | (exfalso; omega) | skip)
      go_ret
      exact ⟨ret_int (by rw [HQ.out]; simp [HC0.out]), E2.out⟩
    · have HC0 := Lib.hid hc
      have dc : (P == 0) = false := by simpa using hc
      clear hc
      go_enter Try.func103, Try.ntmps103
      go_wp2_with (first
        | (refine Blk.load rfl 106 (.tmp 2) rfl _ _ _ _ rfl B2.out Try.underlying106 rfl (by kernel_rfl) ?_)
        | (refine Blk.load rfl 106 (.tmp 2) rfl _ _ _ _ rfl B1.out Try.underlying106 rfl (by kernel_rfl) ?_)
        | (refine Blk.load rfl 106 (.tmp 2) rfl _ _ _ _ rfl B0.out Try.underlying106 rfl (by kernel_rfl) ?_)
        | (go_at_call 101; refine (HC.out _).mono ?_; rintro e v1 ⟨rfl, hb1⟩; have E1 := Lib.hid (E0.out.trans (hb1.mono E0.out.size)); have B1 := Lib.hid (B0.out.call hb1); clear hb1)
        | (go_at_call 123; refine (HPl.out _).mono ?_; rintro e v2 ⟨rfl, hb2⟩; have E2 := Lib.hid (E1.out.trans (hb2.mono E1.out.size)); have B2 := Lib.hid (B1.out.call hb2); have c0 := (B1.out.call hb2).cellv (i := 0) (v := .int .i64 4) rfl; have c1 := (B1.out.call hb2).cellv (i := 1) (v := .int .i64 low) rfl; have c2 := (B1.out.call hb2).cellv (i := 2) (v := .int .i64 high) rfl; have c3 := (B1.out.call hb2).cellv (i := 3) (v := .int .i64 period) rfl; clear hb2))
      (all_goals first | (exfalso; omega) | skip)
      go_ret
      exact ⟨ret_int (by rw [HQ.out]; simp [HC0.out]), E2.out⟩
  · by_cases hc : P ≤ period - P
    · have HQ2 := Lib.hid (show AT = partq ⟨5, low, high, period, phase⟩ (2 * P) by rw [HQ.out, if_neg (by decide), if_neg (by decide), if_neg (by decide), if_pos rfl]; congr 2; omega)
      go_enter Try.func103, Try.ntmps103
      go_wp2_with (first
        | (refine Blk.load rfl 106 (.tmp 2) rfl _ _ _ _ rfl B2.out Try.underlying106 rfl (by kernel_rfl) ?_)
        | (refine Blk.load rfl 106 (.tmp 2) rfl _ _ _ _ rfl B1.out Try.underlying106 rfl (by kernel_rfl) ?_)
        | (refine Blk.load rfl 106 (.tmp 2) rfl _ _ _ _ rfl B0.out Try.underlying106 rfl (by kernel_rfl) ?_)
        | (go_at_call 101; refine (HC.out _).mono ?_; rintro e v1 ⟨rfl, hb1⟩; have E1 := Lib.hid (E0.out.trans (hb1.mono E0.out.size)); have B1 := Lib.hid (B0.out.call hb1); clear hb1)
        | (go_at_call 123; refine (HPl.out _).mono ?_; rintro e v2 ⟨rfl, hb2⟩; have E2 := Lib.hid (E1.out.trans (hb2.mono E1.out.size)); have B2 := Lib.hid (B1.out.call hb2); have c0 := (B1.out.call hb2).cellv (i := 0) (v := .int .i64 5) rfl; have c1 := (B1.out.call hb2).cellv (i := 1) (v := .int .i64 low) rfl; have c2 := (B1.out.call hb2).cellv (i := 2) (v := .int .i64 high) rfl; have c3 := (B1.out.call hb2).cellv (i := 3) (v := .int .i64 period) rfl; clear hb2)
        | (go_at_call 124; refine (HPt.out (2 * P) _ (by omega) (by omega)).mono ?_; rintro e v3 ⟨rfl, hb3⟩; have E3 := Lib.hid (E2.out.trans (hb3.mono E2.out.size)); clear hb3))
      (all_goals first | (exfalso; omega) | skip)
      go_ret
      exact ⟨ret_int (by rw [HQ2.out]), E3.out⟩
    · have HQ2 := Lib.hid (show AT = partq ⟨5, low, high, period, phase⟩ (2 * (period - P)) by rw [HQ.out, if_neg (by decide), if_neg (by decide), if_neg (by decide), if_pos rfl]; congr 2; omega)
      go_enter Try.func103, Try.ntmps103
      go_wp2_with (first
        | (refine Blk.load rfl 106 (.tmp 2) rfl _ _ _ _ rfl B2.out Try.underlying106 rfl (by kernel_rfl) ?_)
        | (refine Blk.load rfl 106 (.tmp 2) rfl _ _ _ _ rfl B1.out Try.underlying106 rfl (by kernel_rfl) ?_)
        | (refine Blk.load rfl 106 (.tmp 2) rfl _ _ _ _ rfl B0.out Try.underlying106 rfl (by kernel_rfl) ?_)
        | (go_at_call 101; refine (HC.out _).mono ?_; rintro e v1 ⟨rfl, hb1⟩; have E1 := Lib.hid (E0.out.trans (hb1.mono E0.out.size)); have B1 := Lib.hid (B0.out.call hb1); clear hb1)
        | (go_at_call 123; refine (HPl.out _).mono ?_; rintro e v2 ⟨rfl, hb2⟩; have E2 := Lib.hid (E1.out.trans (hb2.mono E1.out.size)); have B2 := Lib.hid (B1.out.call hb2); have c0 := (B1.out.call hb2).cellv (i := 0) (v := .int .i64 5) rfl; have c1 := (B1.out.call hb2).cellv (i := 1) (v := .int .i64 low) rfl; have c2 := (B1.out.call hb2).cellv (i := 2) (v := .int .i64 high) rfl; have c3 := (B1.out.call hb2).cellv (i := 3) (v := .int .i64 period) rfl; clear hb2)
        | (go_at_call 124; refine (HPt.out (2 * (period - P)) _ (by omega) (by omega)).mono ?_; rintro e v3 ⟨rfl, hb3⟩; have E3 := Lib.hid (E2.out.trans (hb3.mono E2.out.size)); clear hb3))
      (all_goals first | (exfalso; omega) | skip)
      go_ret
      exact ⟨ret_int (by rw [HQ2.out]), E3.out⟩
theorem shape_At (s : Shp) (tick : Int) (w : World) (hg : s.good) (ht : I64 tick) :
    Calls Try.prog 103 #[.agg s.row, .int .i64 tick] w fun e w' => e = .returned (.int .i64 (atq s tick)) ∧ Below w.heap.size w w' := by
  by_cases h : shpErr s = 0
  · obtain ⟨kind, low, high, period, phase⟩ := s
    exact shape_At_ok kind low high period phase tick w (shpErr_ok.1 h) hg ht
  · exact shape_At_no s tick w h
theorem ShpsAre.row {w : World} {A : Option Addr} {len cap : Nat} {l : List Shp} (h : ShpsAre w A len cap l) {k : Nat} (hk : k < len) : ∃ (b off : Nat) (s : Shp), A = some ⟨b, off, none⟩ ∧ l[k]? = some s ∧ b < w.heap.size ∧ w.cell? ⟨b, off + k * 5, none⟩ = some (.int .i64 s.kind) ∧ w.cell? ⟨b, off + k * 5 + 1, none⟩ = some (.int .i64 s.low) ∧ w.cell? ⟨b, off + k * 5 + 2, none⟩ = some (.int .i64 s.high) ∧ w.cell? ⟨b, off + k * 5 + 3, none⟩ = some (.int .i64 s.period) ∧ w.cell? ⟨b, off + k * 5 + 4, none⟩ = some (.int .i64 s.phase) := by
  obtain ⟨b, off, s, h1, h2, h3, h4⟩ := SliceIs.at_ h hk
  exact ⟨b, off, s, h1, h2, h3, h4 0 _ rfl, h4 1 _ rfl, h4 2 _ rfl, h4 3 _ rfl, h4 4 _ rfl⟩
theorem shape_Sum (tick : Int) (A : Option Addr) (len cap : Nat) (l : List Shp) (w : World) (hs : ShpsAre w A len cap l) (hg : ∀ s ∈ l, s.good) (ht : I64 tick) (hn : len ≤ 1000) :
    Calls Try.prog 71 #[.int .i64 tick, .slice A len cap] w fun e w' => e = .returned (.int .i64 (sumS tick l)) ∧ Below w.heap.size w w' := by
  have HS := Lib.hid hs
  have HL := Lib.hid hs.1
  have HG := Lib.hid hg
  have HT := Lib.hid ht
  clear hs hg ht
  go_enter Try.func71, Try.ntmps71
  go_wp2
  go_loopw [5, 10] (fun a i wr => ∃ k : Nat, k ≤ len ∧ i = .int .i64 k ∧ a = .int .i64 (sumS tick (l.take k)) ∧ Below w.heap.size w wr) (fun _ i _ => len - (intOf i).toNat)
  case atStart => exact ⟨0, Nat.zero_le _, rfl, rfl, Below.refl _ _⟩
  case round =>
    obtain ⟨k, hk, rfl, rfl, hbel⟩ := hrel
    have HB := Lib.hid hbel
    by_cases hlt : k < len
    · obtain ⟨b, off, s, rfl, hx, hb, t0, t1, t2, t3, t4⟩ := ShpsAre.row HS.out hlt
      have k0 := (hbel.cell (p := ⟨b, off + k * 5, none⟩) hb).trans t0
      have k1 := (hbel.cell (p := ⟨b, off + k * 5 + 1, none⟩) hb).trans t1
      have k2 := (hbel.cell (p := ⟨b, off + k * 5 + 2, none⟩) hb).trans t2
      have k3 := (hbel.cell (p := ⟨b, off + k * 5 + 3, none⟩) hb).trans t3
      have k4 := (hbel.cell (p := ⟨b, off + k * 5 + 4, none⟩) hb).trans t4
      have hki : (k : Int) < (len : Int) := by omega
      have HN := Lib.hid (sumS_next tick hx)
      have HA := Lib.hid (fun W => shape_At s tick W (HG.out s (List.mem_of_getElem? hx)) HT.out)
      have HAdd := Lib.hid (fun W => sat_Add (sumS tick (l.take k)) (atq s tick) W (sumS_I64 _ _) (atq_I64 (HG.out s (List.mem_of_getElem? hx)) tick))
      generalize sumS tick (l.take k) = X at *
      generalize atq s tick = Y at *
      have N1 := Lib.hid (Blk.new wr shT s.row)
      clear hx hb t0 t1 t2 t3 t4 hbel
      go_wp2_with (first
        | (refine Blk.load rfl 106 (.tmp 7) rfl _ _ _ _ rfl N1.out Try.underlying106 rfl (by kernel_rfl) ?_)
        | (go_at_call 103; refine (HA.out _).mono ?_; rintro e v1 ⟨rfl, hb1⟩; have E1 := Lib.hid ((HB.out.alloc HB.out.size (.cells s.row shT)).trans (hb1.mono (by have := HB.out.size; simp; omega))); clear hb1)
        | (go_at_call 72; refine (HAdd.out _).mono ?_; rintro e v2 ⟨rfl, rfl⟩))
      go_roundw
      case rel => exact ⟨k + 1, by omega, by go_num, by rw [HN.out], E1.out⟩
      case measure => simp [intOf]; omega
    · have hE : l.take k = l := List.take_of_length_le (by have := HL.out; omega)
      rw [hE]
      clear hE hbel
      go_wp2
      go_ret
      exact ⟨rfl, HB.out⟩
end Go.Proofs.Ytjodpffdlggjgaa
