/- The law WideDivides: plain facts, and the walk. -/
import Derived.Test.YtlodmnohmlkjmaaW02
namespace Go.Proofs.Ytlodmnohmlkjmaa
open Go.RowKit
set_option linter.unusedSimpArgs false
set_option linter.unusedVariables false
set_option maxHeartbeats 4000000
set_option maxRecDepth 100000
theorem div_words (N d : Nat) (hN : N < 2 ^ 128) (hd : 1 ≤ d) :
    hiQ (N / d) * d < 2 ^ 64 ∧ loQ (N / d) * d + hiQ (N / d) * d * 2 ^ 64 = N - N % d ∧ loQ (N / d) * d + hiQ (N / d) * d * 2 ^ 64 + N % d = N := by
  have e := hilo_eq (N / d)
  have h1 := Nat.div_add_mod N d
  generalize N / d = q at *
  have h2 : d * q = loQ q * d + hiQ q * d * 2 ^ 64 := by
    conv => lhs; rw [← e]
    rw [Nat.mul_add, Nat.mul_comm d (loQ q), ← Nat.mul_assoc, Nat.mul_comm d (hiQ q), Nat.add_comm]
  generalize loQ q * d = A at *
  generalize hiQ q * d = B at *
  omega
theorem eql_arr (N : Nat) (w : World) : (Op.equalIn 9999 36 (.agg ((bitsA N).extract 0 128)) (.agg ((bitsA N).extract 0 128))).run Try.prog w = .ok true w := by
  have hl : (Try.prog.keyLits (Try.prog.types.size + 1) 36 (Value.agg ((bitsA N).extract 0 128)).cells.toList).isSome = true := by kernel_rfl
  obtain ⟨l, hl⟩ := Option.isSome_iff_exists.1 hl
  obtain ⟨r, h1, h2⟩ := run_equalIn_deep (P := Try.prog) 9979 20 36 (by kernel_rfl) w _ _ _ _ l l (by kernel_rfl) (by kernel_rfl) hl hl
  rw [h1, h2.2 rfl]
theorem walk_WideDividesN (N d : Nat) (w : World) (hN : N < 2 ^ 128) (hd : d < 2 ^ 64) (hd1 : 1 ≤ d) :
    Calls Try.prog 4 #[.agg #[.int .u64 ((hiQ N : Nat) : Int), .int .u64 ((loQ N : Nat) : Int)], .int .u64 d] w fun e w' => e = .returned (.bool true) ∧ Below w.heap.size w w' := by
  obtain ⟨p1, p2, p3⟩ := div_words N d hN hd1
  have hql : N / d < 2 ^ 128 := Nat.lt_of_le_of_lt (Nat.div_le_self _ _) hN
  have hr := Nat.mod_lt N (show 0 < d by omega)
  obtain ⟨q, hq⟩ : ∃ q, q = N / d := ⟨_, rfl⟩
  obtain ⟨r, hr0⟩ : ∃ r, r = N % d := ⟨_, rfl⟩
  have HDv := Lib.hid (fun W => wide_DivN N d W hN hd hd1)
  rw [← hq] at HDv p1 p2 p3 hql
  rw [← hr0] at HDv p2 p3 hr
  obtain ⟨Qh, hQh⟩ : ∃ x, x = hiQ q := ⟨_, rfl⟩
  obtain ⟨Ql, hQl⟩ : ∃ x, x = loQ q := ⟨_, rfl⟩
  have bQh := hiQ_lt hql
  have bQl := loQ_lt q
  rw [← hQh] at HDv p1 p2 p3 bQh
  rw [← hQl] at HDv p2 p3 bQl
  obtain ⟨A, hA⟩ : ∃ x, x = Ql * d := ⟨_, rfl⟩
  obtain ⟨B, hB⟩ : ∃ x, x = Qh * d := ⟨_, rfl⟩
  have bA : A < 2 ^ 128 := by rw [hA]; exact mul_lt128q bQl hd
  rw [← hA] at p2 p3
  rw [← hB] at p1 p2 p3
  have HMa := Lib.hid (fun W => num_MulM Ql d A W hA bQl hd)
  have HMb := Lib.hid (fun W => num_MulM Qh d B W hB bQh hd)
  have HHi := Lib.hid (fun W => (num_Hi B W (by omega)))
  have HLo := Lib.hid (fun W => (num_Lo B W (by omega)))
  rw [show hiQ B = 0 by unfold hiQ; omega] at HHi
  rw [show loQ B = B by unfold loQ; omega] at HLo
  obtain ⟨C, hC⟩ : ∃ x, x = B * 2 ^ 64 := ⟨_, rfl⟩
  have HOf := Lib.hid (fun W => num_Of B 0 W (by omega) (by omega))
  rw [Nat.add_zero, ← hC] at HOf
  rw [← hC] at p2 p3
  have HAdd := Lib.hid (fun W => num_AddS A C W bA (by omega))
  obtain ⟨D, hD⟩ : ∃ x, x = A + C := ⟨_, rfl⟩
  rw [← hD] at HAdd p2 p3
  rw [show sumRow D = D from if_pos (by omega), show sumFits D = true from decide_eq_true (by omega)] at HAdd
  have HOr := Lib.hid (fun W => num_OfLo r W (by omega))
  have HAdd2 := Lib.hid (fun W => num_AddS D r W (by omega) (by omega))
  rw [p3, show sumRow N = N from if_pos (by omega), show sumFits N = true from decide_eq_true (by omega)] at HAdd2
  have HN := Lib.hid hN
  have d0 : ((d : Int) == 0) = false := by simp; omega
  have d1 : decide (d ≤ r) = false := by simp; omega
  have HEq := Lib.hid (fun W => eql_arr N W)
  clear p1 p2 p3 hql hq hr0 hQh hQl bQh bQl hA hB bA hC hD hr hN hd hd1
  by_cases hQ0 : 0 < Qh
  · have hdq : decide (0 < Qh) = true := decide_eq_true hQ0
    go_enter Try.func4, Try.ntmps4
    go_wp2_with (first | (go_at_call 18; refine (awake02 _).mono ?_; rintro e v1 ⟨rfl, hb1⟩; obtain ⟨hc1, hf1⟩ := bcell hb1; have hs1 := hb1.size; simp only [World.size_alloc] at hs1) | (go_at_call 19; refine (HDv.out _).mono ?_; rintro e v2 ⟨rfl, hb2⟩))
    have a0 := ((Blk.new w 32 #[.int .u64 ((hiQ N : Nat) : Int), .int .u64 ((loQ N : Nat) : Int)]).call hb1).call hb2
    have e0 : Below w.heap.size w (w.alloc (.cells #[.int .u64 ((hiQ N : Nat) : Int), .int .u64 ((loQ N : Nat) : Int)] 32)) := by go_grown
    have e1 := e0.trans (hb1.mono e0.size)
    have e2 := e1.trans (hb2.mono e1.size)
    have a1 := a0.alloc (.cells #[.int .u64 Qh, .int .u64 Ql] 32)
    have k1 := Blk.new v2 32 #[.int .u64 Qh, .int .u64 Ql]
    have e3 := e2.alloc e2.size (.cells #[.int .u64 Qh, .int .u64 Ql] 32)
    have hq2 := e2.size
    clear hc1 hf1 hs1 hb1 hb2 a0 e0 e1 e2
    generalize hg : v2.heap.size = gq at *
    clear hg
    generalize v2.alloc (.cells #[.int .u64 Qh, .int .u64 Ql] 32) = v3 at *
    refine (HMb.out _).mono ?_
    rintro e v4 ⟨rfl, hb4⟩
    go_wp2_with fail
    refine (HHi.out _).mono ?_
    rintro e v5 ⟨rfl, hb5⟩
    have a5 := (a1.call hb4).call hb5
    have k5 := (k1.call hb4).call hb5
    have e4 := e3.trans (hb4.mono e3.size)
    have e5 := e4.trans (hb5.mono e4.size)
    clear a1 k1 e3
    have c5 := k5.cellv (i := 0) (v := .int .u64 Qh) rfl
    go_wp2_with fail
    refine (HMb.out _).mono ?_
    rintro e v6 ⟨rfl, hb6⟩
    go_wp2_with fail
    refine (HLo.out _).mono ?_
    rintro e v7 ⟨rfl, hb7⟩
    go_wp2_with fail
    refine (HOf.out _).mono ?_
    rintro e v8 ⟨rfl, hb8⟩
    go_wp2_with (refine wpList_store_fresh rfl 38 _ _ rfl _ _ _ (bitsA _) rfl rfl rfl (by rw [bitsA_size]; kernel_rfl) (info_num _) (bitsA_one _) ?_)
    have a9 := (((a5.call hb6).call hb7).call hb8).alloc (.cells (bitsA C) 38)
    have k9 := (((k5.call hb6).call hb7).call hb8).alloc (.cells (bitsA C) 38)
    have c9 := Blk.new v8 38 (bitsA C)
    have e6 := e5.trans (hb6.mono e5.size)
    have e7 := e6.trans (hb7.mono e6.size)
    have e8 := e7.trans (hb8.mono e7.size)
    have e9 := e8.alloc e8.size (.cells (bitsA C) 38)
    clear a5 k5 e5 e6 e7 e8 hb6 hb7 hb8 c5
    generalize hg8 : v8.heap.size = gc at *
    clear hg8
    generalize v8.alloc (.cells (bitsA C) 38) = W at *
    have A9 := Lib.hid a9
    have K9 := Lib.hid k9
    have C9 := Lib.hid c9
    have E9 := Lib.hid e9
    clear a9 k9 c9 e9
    refine wp_region_any (by kernel_rfl) ?_; change wpAny _ _ _ _ _ _ _ (World.drew W); refine any_of_anyG (late := fun _ => false) (S := fun w1 => Below W.heap.size W w1) _ _ _ _ ?_
    have S0 := (Below.refl W.heap.size W).drew
    refine anyG_take (i := 0) (v := _) rfl (by kernel_rfl) (by kernel_rfl) (by kernel_rfl) (by kernel_rfl) rfl (by kernel_rfl) (fun j hj => by first | (simp at hj; done) | (simp at hj; simp; omega)) (fun _ _ _ h => h) (Or.inl ⟨by rfl, fun W1 hW1 => by first | rfl | go_simp⟩) (S0) ?_
    refine anyG_take (i := 1) (v := .int .u64 Ql) rfl (by kernel_rfl) (by kernel_rfl) (by kernel_rfl) (by kernel_rfl) rfl (by kernel_rfl) (fun j hj => by first | (simp at hj; done) | (simp at hj; simp; omega)) (fun _ _ _ h => h) (Or.inl ⟨by rfl, fun W1 hW1 => by have c := (K9.out.call hW1).cellv (i := 1) (v := .int .u64 Ql) rfl; go_simp⟩) (S0) ?_
    refine anyG_take (i := 2) (v := _) rfl (by kernel_rfl) (by kernel_rfl) (by kernel_rfl) (by kernel_rfl) rfl (by kernel_rfl) (fun j hj => by first | (simp at hj; done) | (simp at hj; simp; omega)) (fun _ _ _ h => h) (Or.inl ⟨by rfl, fun W1 hW1 => by first | rfl | go_simp⟩) (S0) ?_
    refine anyG_take (i := 4) (v := _) rfl (by kernel_rfl) (by kernel_rfl) (by kernel_rfl) (by kernel_rfl) rfl (by kernel_rfl) (fun j hj => by first | (simp at hj; done) | (simp at hj; simp; omega)) (fun _ _ _ h => h) (Or.inl ⟨by rfl, fun W1 hW1 => exec_load (ty := 38) (x := .tmp 8) rfl rfl (run_loadAt_blk _ _ _ _ _ _ (C9.out.call hW1) Try.underlying38 rfl (by first | exact info_num _ | kernel_rfl))⟩) (S0) ?_
    refine anyG_two (i := 3) (j := 9) (by kernel_rfl) rfl (by rfl) rfl (by rfl) (fun Q2 hQ2 => ?_) (fun Q2 hQ2 => ?_)
    ·
      go_wp2_with (go_at_call 21; refine (HMa.out _).mono ?_; rintro e v10 ⟨rfl, hb10⟩)
      refine hQ2 _ _ (fun _ => S0.trans (hb10.mono S0.size)) ?_
      clear hQ2 Q2
      have S10 := S0.trans (hb10.mono S0.size)
      refine anyG_two (i := 5) (j := 9) (by kernel_rfl) rfl (by rfl) rfl (by rfl) (fun Q2 hQ2 => ?_) (fun Q2 hQ2 => ?_)
      ·
        go_wp2_with (go_at_call 24; refine (HAdd.out _).mono ?_; rintro e v11 ⟨rfl, hb11⟩)
        refine hQ2 _ _ (fun _ => S10.trans (hb11.mono S10.size)) ?_
        clear hQ2 Q2
        have S11 := S10.trans (hb11.mono S10.size)
        refine anyG_take (i := 6) (v := _) rfl (by kernel_rfl) (by kernel_rfl) (by kernel_rfl) (by kernel_rfl) rfl (by kernel_rfl) (fun j hj => by first | (simp at hj; done) | (simp at hj; simp; omega)) (fun _ _ _ h => h) (Or.inl ⟨by rfl, fun W1 hW1 => by first | rfl | go_simp⟩) (S11) ?_
        refine anyG_take (i := 7) (v := _) rfl (by kernel_rfl) (by kernel_rfl) (by kernel_rfl) (by kernel_rfl) rfl (by kernel_rfl) (fun j hj => by first | (simp at hj; done) | (simp at hj; simp; omega)) (fun _ _ _ h => h) (Or.inl ⟨by rfl, fun W1 hW1 => by first | rfl | go_simp⟩) (S11) ?_
        refine anyG_take (i := 8) (v := _) rfl (by kernel_rfl) (by kernel_rfl) (by kernel_rfl) (by kernel_rfl) rfl (by kernel_rfl) (fun j hj => by first | (simp at hj; done) | (simp at hj; simp; omega)) (fun _ _ _ h => h) (Or.inl ⟨by rfl, fun W1 hW1 => by first | rfl | go_simp⟩) (S11) ?_
        refine anyG_one (k := 9) (by kernel_rfl) rfl (by rfl) (fun Q2 hQ2 => ?_)
        have nG := new_at (S := S11) Try.zeroCells38 38
        obtain ⟨G, hG, bG, lG⟩ := nG
        go_wp2_with fail
        refine hQ2 _ _ (fun _ => S11.alloc S11.size _) ?_
        clear hQ2 Q2
        (try simp only [hG])
        clear hG
        have SG := S11.alloc S11.size (.cells Try.zeroCells38 38)
        refine anyG_one (k := 10) (by kernel_rfl) rfl (by rfl) (fun Q2 hQ2 => ?_); go_wp2_with (refine wpList_store_row rfl 38 (.tmp 9) _ rfl _ _ _ (bitsA _) rfl rfl (bG) (by first | (rw [bitsA_size, bitsA_size]; done) | (rw [bitsA_size]; kernel_rfl)) (info_num _) (bitsA_one _) ?_; intro uG huG hwG); refine hQ2 _ _ (fun _ => SG.trans (Only.below hwG lG SG.size)) ?_; clear hQ2 Q2
        have SsG := SG.trans (Only.below hwG lG SG.size)
        refine anyG_one (k := 11) (by kernel_rfl) rfl (by rfl) (fun Q2 hQ2 => ?_); go_wp2_with fail; refine hQ2 _ _ (fun _ => SsG) ?_; clear hQ2 Q2
        refine anyG_done (by kernel_rfl) ?_ _
        have D0 := Lib.hid (A9.out.call SsG)
        have DG := Lib.hid (huG)
        have DB := Lib.hid (E9.out.trans (SsG.mono E9.out.size))
        go_wp2
        refine wp_region_any (by kernel_rfl) ?_; change wpAny _ _ _ _ _ _ _ (World.drew uG); refine any_of_anyG (late := fun j => [3, 4, 5, 6, 7, 8].contains j) (S := fun w1 => Below uG.heap.size uG w1) _ _ _ _ ?_
        have S0 := (Below.refl uG.heap.size uG).drew
        refine anyG_take (i := 0) (v := _) rfl (by kernel_rfl) (by kernel_rfl) (by kernel_rfl) (by kernel_rfl) rfl (by kernel_rfl) (fun j hj => by first | (simp at hj; done) | (simp at hj; simp; omega)) (fun _ _ _ h => h) (Or.inl ⟨by rfl, fun W1 hW1 => exec_load (ty := 38) (x := .tmp 9) rfl rfl (run_loadAt_blk _ _ _ _ _ _ (DG.out.call hW1) Try.underlying38 rfl (by first | exact info_num _ | kernel_rfl))⟩) (S0) ?_
        refine anyG_one (k := 1) (by kernel_rfl) rfl (by rfl) (fun Q2 hQ2 => ?_); go_wp2_with fail; refine hQ2 _ _ (fun _ => S0) ?_; clear hQ2 Q2
        refine anyG_one (k := 2) (by kernel_rfl) rfl (by rfl) (fun Q2 hQ2 => ?_); go_wp2_with (go_at_call 22; refine (HOr.out _).mono ?_; rintro e v12 ⟨rfl, hb12⟩); refine hQ2 _ _ (fun _ => S0.trans (hb12.mono S0.size)) ?_; clear hQ2 Q2
        have S12 := S0.trans (hb12.mono S0.size)
        refine anyG_of_any _ _ _ _ (by kernel_rfl) ?_
        refine any_one (k := 3) (by kernel_rfl) rfl (by rfl) (fun Q2 hQ2 => ?_); go_wp2_with (go_at_call 24; refine (HAdd2.out _).mono ?_; rintro e v13 ⟨rfl, hb13⟩); (try refine hQ2 _ _ ?_); (try clear hQ2 Q2)
        have S13 := S12.trans (hb13.mono S12.size)
        refine any_one (k := 4) (by kernel_rfl) rfl (by rfl) (fun Q2 hQ2 => ?_); go_wp2_with fail; (try refine hQ2 _ _ ?_); (try clear hQ2 Q2)
        refine wpAny_take (i := 5) (v := _) rfl (by kernel_rfl) (by kernel_rfl) (by kernel_rfl) (fun _ _ _ h => h) (Or.inl ⟨by rfl, fun W => by rfl⟩) ?_
        refine wpAny_take (i := 6) (v := _) rfl (by kernel_rfl) (by kernel_rfl) (by kernel_rfl) (fun _ _ _ h => h) (Or.inl ⟨by rfl, fun W => by rfl⟩) ?_
        refine any_one (k := 7) (by kernel_rfl) rfl (by rfl) (fun Q2 hQ2 => ?_); go_wp2_with (refine wpList_store_row rfl 38 (.tmp 9) _ rfl _ _ _ (bitsA _) rfl rfl (DG.out.call S13) (by rw [bitsA_size, bitsA_size]) (info_num _) (bitsA_one _) ?_; intro uX huX hwX); (try refine hQ2 _ _ ?_); (try clear hQ2 Q2)
        refine any_one (k := 8) (by kernel_rfl) rfl (by rfl) (fun Q2 hQ2 => ?_); go_wp2_with fail; (try refine hQ2 _ _ ?_); (try clear hQ2 Q2)
        refine wpAny_done (by kernel_rfl) ?_ _
        have F0 := Lib.hid ((D0.out.call S13).grown hwX (by have := A9.out.lt; have := lG; simp; omega))
        have FB := Lib.hid (DB.out.trans (S13.mono DB.out.size))
        have FB2 := Lib.hid (FB.out.trans (Only.below hwX (by have := A9.out.lt; have := lG; omega) FB.out.size))
        have FX := Lib.hid huX
        go_wp2
        have heq := HEq.out
        refine wp_region_any (by kernel_rfl) ?_; change wpAny _ _ _ _ _ _ _ (World.drew uX); refine any_of_anyG (late := fun _ => false) (S := fun w1 => Below uX.heap.size uX w1) _ _ _ _ ?_
        have S0 := (Below.refl uX.heap.size uX).drew
        refine anyG_one (k := 0) (by kernel_rfl) rfl (by rfl) (fun Q2 hQ2 => ?_); go_wp2_with fail; refine hQ2 _ _ (fun _ => S0) ?_; clear hQ2 Q2
        refine anyG_one (k := 1) (by kernel_rfl) rfl (by rfl) (fun Q2 hQ2 => ?_); go_wp2_with fail; refine hQ2 _ _ (fun _ => S0) ?_; clear hQ2 Q2
        refine anyG_take (i := 2) (v := _) rfl (by kernel_rfl) (by kernel_rfl) (by kernel_rfl) (by kernel_rfl) rfl (by kernel_rfl) (fun j hj => by first | (simp at hj; done) | (simp at hj; simp; omega)) (fun _ _ _ h => h) (Or.inl ⟨by rfl, fun W1 hW1 => exec_load (ty := 38) (x := .tmp 9) rfl rfl (run_loadAt_blk _ _ _ _ _ _ (FX.out.call hW1) Try.underlying38 rfl (by first | exact info_num _ | kernel_rfl))⟩) (S0) ?_
        refine anyG_take (i := 3) (v := _) rfl (by kernel_rfl) (by kernel_rfl) (by kernel_rfl) (by kernel_rfl) rfl (by kernel_rfl) (fun j hj => by first | (simp at hj; done) | (simp at hj; simp; omega)) (fun _ _ _ h => h) (Or.inl ⟨by rfl, fun W1 hW1 => exec_load (ty := 32) (x := .tmp 2) rfl rfl (run_loadAt_blk _ _ _ _ _ _ (F0.out.call hW1) Try.underlying32 rfl (by first | exact info_num _ | kernel_rfl))⟩) (S0) ?_
        refine anyG_one (k := 4) (by kernel_rfl) rfl (by rfl) (fun Q2 hQ2 => ?_); go_wp2_with (go_at_call 25; refine (law_numN N _ HN.out).mono ?_; rintro e v15 ⟨rfl, hb15⟩); refine hQ2 _ _ (fun _ => S0.trans (hb15.mono S0.size)) ?_; clear hQ2 Q2
        have S15 := S0.trans (hb15.mono S0.size)
        refine anyG_one (k := 5) (by kernel_rfl) rfl (by rfl) (fun Q2 hQ2 => ?_); go_wp2_with fail; refine hQ2 _ _ (fun _ => S15) ?_; clear hQ2 Q2
        refine anyG_one (k := 6) (by kernel_rfl) rfl (by rfl) (fun Q2 hQ2 => ?_); go_wp2_with fail; refine hQ2 _ _ (fun _ => S15) ?_; clear hQ2 Q2
        refine anyG_one (k := 7) (by kernel_rfl) rfl (by rfl) (fun Q2 hQ2 => ?_); go_wp2_with fail; refine hQ2 _ _ (fun _ => S15) ?_; clear hQ2 Q2
        refine anyG_done (by kernel_rfl) ?_ _
        go_wp2
        go_ret
        exact ⟨rfl, FB2.out.trans (S15.mono FB2.out.size)⟩
      ·
        skip
        have nG := new_at (S := S10) Try.zeroCells38 38
        obtain ⟨G, hG, bG, lG⟩ := nG
        go_wp2_with fail
        refine hQ2 _ _ (fun _ => S10.alloc S10.size _) ?_
        clear hQ2 Q2
        (try simp only [hG])
        clear hG
        have SG := S10.alloc S10.size (.cells Try.zeroCells38 38)
        refine anyG_one (k := 5) (by kernel_rfl) rfl (by rfl) (fun Q2 hQ2 => ?_); go_wp2_with (go_at_call 24; refine (HAdd.out _).mono ?_; rintro e v11 ⟨rfl, hb11⟩); refine hQ2 _ _ (fun _ => SG.trans (hb11.mono SG.size)) ?_; clear hQ2 Q2
        have S11 := SG.trans (hb11.mono SG.size)
        refine anyG_one (k := 6) (by kernel_rfl) rfl (by rfl) (fun Q2 hQ2 => ?_); go_wp2_with fail; refine hQ2 _ _ (fun _ => S11) ?_; clear hQ2 Q2
        refine anyG_take (i := 7) (v := _) rfl (by kernel_rfl) (by kernel_rfl) (by kernel_rfl) (by kernel_rfl) rfl (by kernel_rfl) (fun j hj => by first | (simp at hj; done) | (simp at hj; simp; omega)) (fun _ _ _ h => h) (Or.inl ⟨by rfl, fun W1 hW1 => by first | rfl | go_simp⟩) (S11) ?_
        refine anyG_take (i := 8) (v := _) rfl (by kernel_rfl) (by kernel_rfl) (by kernel_rfl) (by kernel_rfl) rfl (by kernel_rfl) (fun j hj => by first | (simp at hj; done) | (simp at hj; simp; omega)) (fun _ _ _ h => h) (Or.inl ⟨by rfl, fun W1 hW1 => by first | rfl | go_simp⟩) (S11) ?_
        refine anyG_one (k := 10) (by kernel_rfl) rfl (by rfl) (fun Q2 hQ2 => ?_); go_wp2_with (refine wpList_store_row rfl 38 (.tmp 9) _ rfl _ _ _ (bitsA _) rfl rfl ((bG).call hb11) (by first | (rw [bitsA_size, bitsA_size]; done) | (rw [bitsA_size]; kernel_rfl)) (info_num _) (bitsA_one _) ?_; intro uG huG hwG); refine hQ2 _ _ (fun _ => S11.trans (Only.below hwG lG S11.size)) ?_; clear hQ2 Q2
        have SsG := S11.trans (Only.below hwG lG S11.size)
        refine anyG_one (k := 11) (by kernel_rfl) rfl (by rfl) (fun Q2 hQ2 => ?_); go_wp2_with fail; refine hQ2 _ _ (fun _ => SsG) ?_; clear hQ2 Q2
        refine anyG_done (by kernel_rfl) ?_ _
        have D0 := Lib.hid (A9.out.call SsG)
        have DG := Lib.hid (huG)
        have DB := Lib.hid (E9.out.trans (SsG.mono E9.out.size))
        go_wp2
        refine wp_region_any (by kernel_rfl) ?_; change wpAny _ _ _ _ _ _ _ (World.drew uG); refine any_of_anyG (late := fun j => [3, 4, 5, 6, 7, 8].contains j) (S := fun w1 => Below uG.heap.size uG w1) _ _ _ _ ?_
        have S0 := (Below.refl uG.heap.size uG).drew
        refine anyG_take (i := 0) (v := _) rfl (by kernel_rfl) (by kernel_rfl) (by kernel_rfl) (by kernel_rfl) rfl (by kernel_rfl) (fun j hj => by first | (simp at hj; done) | (simp at hj; simp; omega)) (fun _ _ _ h => h) (Or.inl ⟨by rfl, fun W1 hW1 => exec_load (ty := 38) (x := .tmp 9) rfl rfl (run_loadAt_blk _ _ _ _ _ _ (DG.out.call hW1) Try.underlying38 rfl (by first | exact info_num _ | kernel_rfl))⟩) (S0) ?_
        refine anyG_one (k := 1) (by kernel_rfl) rfl (by rfl) (fun Q2 hQ2 => ?_); go_wp2_with fail; refine hQ2 _ _ (fun _ => S0) ?_; clear hQ2 Q2
        refine anyG_one (k := 2) (by kernel_rfl) rfl (by rfl) (fun Q2 hQ2 => ?_); go_wp2_with (go_at_call 22; refine (HOr.out _).mono ?_; rintro e v12 ⟨rfl, hb12⟩); refine hQ2 _ _ (fun _ => S0.trans (hb12.mono S0.size)) ?_; clear hQ2 Q2
        have S12 := S0.trans (hb12.mono S0.size)
        refine anyG_of_any _ _ _ _ (by kernel_rfl) ?_
        refine any_one (k := 3) (by kernel_rfl) rfl (by rfl) (fun Q2 hQ2 => ?_); go_wp2_with (go_at_call 24; refine (HAdd2.out _).mono ?_; rintro e v13 ⟨rfl, hb13⟩); (try refine hQ2 _ _ ?_); (try clear hQ2 Q2)
        have S13 := S12.trans (hb13.mono S12.size)
        refine any_one (k := 4) (by kernel_rfl) rfl (by rfl) (fun Q2 hQ2 => ?_); go_wp2_with fail; (try refine hQ2 _ _ ?_); (try clear hQ2 Q2)
        refine wpAny_take (i := 5) (v := _) rfl (by kernel_rfl) (by kernel_rfl) (by kernel_rfl) (fun _ _ _ h => h) (Or.inl ⟨by rfl, fun W => by rfl⟩) ?_
        refine wpAny_take (i := 6) (v := _) rfl (by kernel_rfl) (by kernel_rfl) (by kernel_rfl) (fun _ _ _ h => h) (Or.inl ⟨by rfl, fun W => by rfl⟩) ?_
        refine any_one (k := 7) (by kernel_rfl) rfl (by rfl) (fun Q2 hQ2 => ?_); go_wp2_with (refine wpList_store_row rfl 38 (.tmp 9) _ rfl _ _ _ (bitsA _) rfl rfl (DG.out.call S13) (by rw [bitsA_size, bitsA_size]) (info_num _) (bitsA_one _) ?_; intro uX huX hwX); (try refine hQ2 _ _ ?_); (try clear hQ2 Q2)
        refine any_one (k := 8) (by kernel_rfl) rfl (by rfl) (fun Q2 hQ2 => ?_); go_wp2_with fail; (try refine hQ2 _ _ ?_); (try clear hQ2 Q2)
        refine wpAny_done (by kernel_rfl) ?_ _
        have F0 := Lib.hid ((D0.out.call S13).grown hwX (by have := A9.out.lt; have := lG; simp; omega))
        have FB := Lib.hid (DB.out.trans (S13.mono DB.out.size))
        have FB2 := Lib.hid (FB.out.trans (Only.below hwX (by have := A9.out.lt; have := lG; omega) FB.out.size))
        have FX := Lib.hid huX
        go_wp2
        have heq := HEq.out
        refine wp_region_any (by kernel_rfl) ?_; change wpAny _ _ _ _ _ _ _ (World.drew uX); refine any_of_anyG (late := fun _ => false) (S := fun w1 => Below uX.heap.size uX w1) _ _ _ _ ?_
        have S0 := (Below.refl uX.heap.size uX).drew
        refine anyG_one (k := 0) (by kernel_rfl) rfl (by rfl) (fun Q2 hQ2 => ?_); go_wp2_with fail; refine hQ2 _ _ (fun _ => S0) ?_; clear hQ2 Q2
        refine anyG_one (k := 1) (by kernel_rfl) rfl (by rfl) (fun Q2 hQ2 => ?_); go_wp2_with fail; refine hQ2 _ _ (fun _ => S0) ?_; clear hQ2 Q2
        refine anyG_take (i := 2) (v := _) rfl (by kernel_rfl) (by kernel_rfl) (by kernel_rfl) (by kernel_rfl) rfl (by kernel_rfl) (fun j hj => by first | (simp at hj; done) | (simp at hj; simp; omega)) (fun _ _ _ h => h) (Or.inl ⟨by rfl, fun W1 hW1 => exec_load (ty := 38) (x := .tmp 9) rfl rfl (run_loadAt_blk _ _ _ _ _ _ (FX.out.call hW1) Try.underlying38 rfl (by first | exact info_num _ | kernel_rfl))⟩) (S0) ?_
        refine anyG_take (i := 3) (v := _) rfl (by kernel_rfl) (by kernel_rfl) (by kernel_rfl) (by kernel_rfl) rfl (by kernel_rfl) (fun j hj => by first | (simp at hj; done) | (simp at hj; simp; omega)) (fun _ _ _ h => h) (Or.inl ⟨by rfl, fun W1 hW1 => exec_load (ty := 32) (x := .tmp 2) rfl rfl (run_loadAt_blk _ _ _ _ _ _ (F0.out.call hW1) Try.underlying32 rfl (by first | exact info_num _ | kernel_rfl))⟩) (S0) ?_
        refine anyG_one (k := 4) (by kernel_rfl) rfl (by rfl) (fun Q2 hQ2 => ?_); go_wp2_with (go_at_call 25; refine (law_numN N _ HN.out).mono ?_; rintro e v15 ⟨rfl, hb15⟩); refine hQ2 _ _ (fun _ => S0.trans (hb15.mono S0.size)) ?_; clear hQ2 Q2
        have S15 := S0.trans (hb15.mono S0.size)
        refine anyG_one (k := 5) (by kernel_rfl) rfl (by rfl) (fun Q2 hQ2 => ?_); go_wp2_with fail; refine hQ2 _ _ (fun _ => S15) ?_; clear hQ2 Q2
        refine anyG_one (k := 6) (by kernel_rfl) rfl (by rfl) (fun Q2 hQ2 => ?_); go_wp2_with fail; refine hQ2 _ _ (fun _ => S15) ?_; clear hQ2 Q2
        refine anyG_one (k := 7) (by kernel_rfl) rfl (by rfl) (fun Q2 hQ2 => ?_); go_wp2_with fail; refine hQ2 _ _ (fun _ => S15) ?_; clear hQ2 Q2
        refine anyG_done (by kernel_rfl) ?_ _
        go_wp2
        go_ret
        exact ⟨rfl, FB2.out.trans (S15.mono FB2.out.size)⟩
    ·
      skip
      have nG := new_at (S := S0) Try.zeroCells38 38
      obtain ⟨G, hG, bG, lG⟩ := nG
      go_wp2_with fail
      refine hQ2 _ _ (fun _ => S0.alloc S0.size _) ?_
      clear hQ2 Q2
      (try simp only [hG])
      clear hG
      have SG := S0.alloc S0.size (.cells Try.zeroCells38 38)
      refine anyG_one (k := 3) (by kernel_rfl) rfl (by rfl) (fun Q2 hQ2 => ?_); go_wp2_with (go_at_call 21; refine (HMa.out _).mono ?_; rintro e v10 ⟨rfl, hb10⟩); refine hQ2 _ _ (fun _ => SG.trans (hb10.mono SG.size)) ?_; clear hQ2 Q2
      have S10 := SG.trans (hb10.mono SG.size)
      refine anyG_one (k := 5) (by kernel_rfl) rfl (by rfl) (fun Q2 hQ2 => ?_); go_wp2_with (go_at_call 24; refine (HAdd.out _).mono ?_; rintro e v11 ⟨rfl, hb11⟩); refine hQ2 _ _ (fun _ => S10.trans (hb11.mono S10.size)) ?_; clear hQ2 Q2
      have S11 := S10.trans (hb11.mono S10.size)
      refine anyG_one (k := 6) (by kernel_rfl) rfl (by rfl) (fun Q2 hQ2 => ?_); go_wp2_with fail; refine hQ2 _ _ (fun _ => S11) ?_; clear hQ2 Q2
      refine anyG_take (i := 7) (v := _) rfl (by kernel_rfl) (by kernel_rfl) (by kernel_rfl) (by kernel_rfl) rfl (by kernel_rfl) (fun j hj => by first | (simp at hj; done) | (simp at hj; simp; omega)) (fun _ _ _ h => h) (Or.inl ⟨by rfl, fun W1 hW1 => by first | rfl | go_simp⟩) (S11) ?_
      refine anyG_take (i := 8) (v := _) rfl (by kernel_rfl) (by kernel_rfl) (by kernel_rfl) (by kernel_rfl) rfl (by kernel_rfl) (fun j hj => by first | (simp at hj; done) | (simp at hj; simp; omega)) (fun _ _ _ h => h) (Or.inl ⟨by rfl, fun W1 hW1 => by first | rfl | go_simp⟩) (S11) ?_
      refine anyG_one (k := 10) (by kernel_rfl) rfl (by rfl) (fun Q2 hQ2 => ?_); go_wp2_with (refine wpList_store_row rfl 38 (.tmp 9) _ rfl _ _ _ (bitsA _) rfl rfl (((bG).call hb10).call hb11) (by first | (rw [bitsA_size, bitsA_size]; done) | (rw [bitsA_size]; kernel_rfl)) (info_num _) (bitsA_one _) ?_; intro uG huG hwG); refine hQ2 _ _ (fun _ => S11.trans (Only.below hwG lG S11.size)) ?_; clear hQ2 Q2
      have SsG := S11.trans (Only.below hwG lG S11.size)
      refine anyG_one (k := 11) (by kernel_rfl) rfl (by rfl) (fun Q2 hQ2 => ?_); go_wp2_with fail; refine hQ2 _ _ (fun _ => SsG) ?_; clear hQ2 Q2
      refine anyG_done (by kernel_rfl) ?_ _
      have D0 := Lib.hid (A9.out.call SsG)
      have DG := Lib.hid (huG)
      have DB := Lib.hid (E9.out.trans (SsG.mono E9.out.size))
      go_wp2
      refine wp_region_any (by kernel_rfl) ?_; change wpAny _ _ _ _ _ _ _ (World.drew uG); refine any_of_anyG (late := fun j => [3, 4, 5, 6, 7, 8].contains j) (S := fun w1 => Below uG.heap.size uG w1) _ _ _ _ ?_
      have S0 := (Below.refl uG.heap.size uG).drew
      refine anyG_take (i := 0) (v := _) rfl (by kernel_rfl) (by kernel_rfl) (by kernel_rfl) (by kernel_rfl) rfl (by kernel_rfl) (fun j hj => by first | (simp at hj; done) | (simp at hj; simp; omega)) (fun _ _ _ h => h) (Or.inl ⟨by rfl, fun W1 hW1 => exec_load (ty := 38) (x := .tmp 9) rfl rfl (run_loadAt_blk _ _ _ _ _ _ (DG.out.call hW1) Try.underlying38 rfl (by first | exact info_num _ | kernel_rfl))⟩) (S0) ?_
      refine anyG_one (k := 1) (by kernel_rfl) rfl (by rfl) (fun Q2 hQ2 => ?_); go_wp2_with fail; refine hQ2 _ _ (fun _ => S0) ?_; clear hQ2 Q2
      refine anyG_one (k := 2) (by kernel_rfl) rfl (by rfl) (fun Q2 hQ2 => ?_); go_wp2_with (go_at_call 22; refine (HOr.out _).mono ?_; rintro e v12 ⟨rfl, hb12⟩); refine hQ2 _ _ (fun _ => S0.trans (hb12.mono S0.size)) ?_; clear hQ2 Q2
      have S12 := S0.trans (hb12.mono S0.size)
      refine anyG_of_any _ _ _ _ (by kernel_rfl) ?_
      refine any_one (k := 3) (by kernel_rfl) rfl (by rfl) (fun Q2 hQ2 => ?_); go_wp2_with (go_at_call 24; refine (HAdd2.out _).mono ?_; rintro e v13 ⟨rfl, hb13⟩); (try refine hQ2 _ _ ?_); (try clear hQ2 Q2)
      have S13 := S12.trans (hb13.mono S12.size)
      refine any_one (k := 4) (by kernel_rfl) rfl (by rfl) (fun Q2 hQ2 => ?_); go_wp2_with fail; (try refine hQ2 _ _ ?_); (try clear hQ2 Q2)
      refine wpAny_take (i := 5) (v := _) rfl (by kernel_rfl) (by kernel_rfl) (by kernel_rfl) (fun _ _ _ h => h) (Or.inl ⟨by rfl, fun W => by rfl⟩) ?_
      refine wpAny_take (i := 6) (v := _) rfl (by kernel_rfl) (by kernel_rfl) (by kernel_rfl) (fun _ _ _ h => h) (Or.inl ⟨by rfl, fun W => by rfl⟩) ?_
      refine any_one (k := 7) (by kernel_rfl) rfl (by rfl) (fun Q2 hQ2 => ?_); go_wp2_with (refine wpList_store_row rfl 38 (.tmp 9) _ rfl _ _ _ (bitsA _) rfl rfl (DG.out.call S13) (by rw [bitsA_size, bitsA_size]) (info_num _) (bitsA_one _) ?_; intro uX huX hwX); (try refine hQ2 _ _ ?_); (try clear hQ2 Q2)
      refine any_one (k := 8) (by kernel_rfl) rfl (by rfl) (fun Q2 hQ2 => ?_); go_wp2_with fail; (try refine hQ2 _ _ ?_); (try clear hQ2 Q2)
      refine wpAny_done (by kernel_rfl) ?_ _
      have F0 := Lib.hid ((D0.out.call S13).grown hwX (by have := A9.out.lt; have := lG; simp; omega))
      have FB := Lib.hid (DB.out.trans (S13.mono DB.out.size))
      have FB2 := Lib.hid (FB.out.trans (Only.below hwX (by have := A9.out.lt; have := lG; omega) FB.out.size))
      have FX := Lib.hid huX
      go_wp2
      have heq := HEq.out
      refine wp_region_any (by kernel_rfl) ?_; change wpAny _ _ _ _ _ _ _ (World.drew uX); refine any_of_anyG (late := fun _ => false) (S := fun w1 => Below uX.heap.size uX w1) _ _ _ _ ?_
      have S0 := (Below.refl uX.heap.size uX).drew
      refine anyG_one (k := 0) (by kernel_rfl) rfl (by rfl) (fun Q2 hQ2 => ?_); go_wp2_with fail; refine hQ2 _ _ (fun _ => S0) ?_; clear hQ2 Q2
      refine anyG_one (k := 1) (by kernel_rfl) rfl (by rfl) (fun Q2 hQ2 => ?_); go_wp2_with fail; refine hQ2 _ _ (fun _ => S0) ?_; clear hQ2 Q2
      refine anyG_take (i := 2) (v := _) rfl (by kernel_rfl) (by kernel_rfl) (by kernel_rfl) (by kernel_rfl) rfl (by kernel_rfl) (fun j hj => by first | (simp at hj; done) | (simp at hj; simp; omega)) (fun _ _ _ h => h) (Or.inl ⟨by rfl, fun W1 hW1 => exec_load (ty := 38) (x := .tmp 9) rfl rfl (run_loadAt_blk _ _ _ _ _ _ (FX.out.call hW1) Try.underlying38 rfl (by first | exact info_num _ | kernel_rfl))⟩) (S0) ?_
      refine anyG_take (i := 3) (v := _) rfl (by kernel_rfl) (by kernel_rfl) (by kernel_rfl) (by kernel_rfl) rfl (by kernel_rfl) (fun j hj => by first | (simp at hj; done) | (simp at hj; simp; omega)) (fun _ _ _ h => h) (Or.inl ⟨by rfl, fun W1 hW1 => exec_load (ty := 32) (x := .tmp 2) rfl rfl (run_loadAt_blk _ _ _ _ _ _ (F0.out.call hW1) Try.underlying32 rfl (by first | exact info_num _ | kernel_rfl))⟩) (S0) ?_
      refine anyG_one (k := 4) (by kernel_rfl) rfl (by rfl) (fun Q2 hQ2 => ?_); go_wp2_with (go_at_call 25; refine (law_numN N _ HN.out).mono ?_; rintro e v15 ⟨rfl, hb15⟩); refine hQ2 _ _ (fun _ => S0.trans (hb15.mono S0.size)) ?_; clear hQ2 Q2
      have S15 := S0.trans (hb15.mono S0.size)
      refine anyG_one (k := 5) (by kernel_rfl) rfl (by rfl) (fun Q2 hQ2 => ?_); go_wp2_with fail; refine hQ2 _ _ (fun _ => S15) ?_; clear hQ2 Q2
      refine anyG_one (k := 6) (by kernel_rfl) rfl (by rfl) (fun Q2 hQ2 => ?_); go_wp2_with fail; refine hQ2 _ _ (fun _ => S15) ?_; clear hQ2 Q2
      refine anyG_one (k := 7) (by kernel_rfl) rfl (by rfl) (fun Q2 hQ2 => ?_); go_wp2_with fail; refine hQ2 _ _ (fun _ => S15) ?_; clear hQ2 Q2
      refine anyG_done (by kernel_rfl) ?_ _
      go_wp2
      go_ret
      exact ⟨rfl, FB2.out.trans (S15.mono FB2.out.size)⟩
  · have hdq : decide (0 < Qh) = false := decide_eq_false hQ0
    clear hQ0
    go_enter Try.func4, Try.ntmps4
    go_wp2_with (first | (go_at_call 18; refine (awake02 _).mono ?_; rintro e v1 ⟨rfl, hb1⟩; obtain ⟨hc1, hf1⟩ := bcell hb1; have hs1 := hb1.size; simp only [World.size_alloc] at hs1) | (go_at_call 19; refine (HDv.out _).mono ?_; rintro e v2 ⟨rfl, hb2⟩))
    have a0 := ((Blk.new w 32 #[.int .u64 ((hiQ N : Nat) : Int), .int .u64 ((loQ N : Nat) : Int)]).call hb1).call hb2
    have e0 : Below w.heap.size w (w.alloc (.cells #[.int .u64 ((hiQ N : Nat) : Int), .int .u64 ((loQ N : Nat) : Int)] 32)) := by go_grown
    have e1 := e0.trans (hb1.mono e0.size)
    have e2 := e1.trans (hb2.mono e1.size)
    have a1 := a0.alloc (.cells #[.int .u64 Qh, .int .u64 Ql] 32)
    have k1 := Blk.new v2 32 #[.int .u64 Qh, .int .u64 Ql]
    have e3 := e2.alloc e2.size (.cells #[.int .u64 Qh, .int .u64 Ql] 32)
    have hq2 := e2.size
    clear hc1 hf1 hs1 hb1 hb2 a0 e0 e1 e2
    generalize hg : v2.heap.size = gq at *
    clear hg
    generalize v2.alloc (.cells #[.int .u64 Qh, .int .u64 Ql] 32) = v3 at *
    have a5 := a1
    have k5 := k1
    have e5 := e3
    clear a1 k1 e3
    have c5 := k5.cellv (i := 0) (v := .int .u64 Qh) rfl
    go_wp2_with fail
    refine (HMb.out _).mono ?_
    rintro e v6 ⟨rfl, hb6⟩
    go_wp2_with fail
    refine (HLo.out _).mono ?_
    rintro e v7 ⟨rfl, hb7⟩
    go_wp2_with fail
    refine (HOf.out _).mono ?_
    rintro e v8 ⟨rfl, hb8⟩
    go_wp2_with (refine wpList_store_fresh rfl 38 _ _ rfl _ _ _ (bitsA _) rfl rfl rfl (by rw [bitsA_size]; kernel_rfl) (info_num _) (bitsA_one _) ?_)
    have a9 := (((a5.call hb6).call hb7).call hb8).alloc (.cells (bitsA C) 38)
    have k9 := (((k5.call hb6).call hb7).call hb8).alloc (.cells (bitsA C) 38)
    have c9 := Blk.new v8 38 (bitsA C)
    have e6 := e5.trans (hb6.mono e5.size)
    have e7 := e6.trans (hb7.mono e6.size)
    have e8 := e7.trans (hb8.mono e7.size)
    have e9 := e8.alloc e8.size (.cells (bitsA C) 38)
    clear a5 k5 e5 e6 e7 e8 hb6 hb7 hb8 c5
    generalize hg8 : v8.heap.size = gc at *
    clear hg8
    generalize v8.alloc (.cells (bitsA C) 38) = W at *
    have A9 := Lib.hid a9
    have K9 := Lib.hid k9
    have C9 := Lib.hid c9
    have E9 := Lib.hid e9
    clear a9 k9 c9 e9
    refine wp_region_any (by kernel_rfl) ?_; change wpAny _ _ _ _ _ _ _ (World.drew W); refine any_of_anyG (late := fun _ => false) (S := fun w1 => Below W.heap.size W w1) _ _ _ _ ?_
    have S0 := (Below.refl W.heap.size W).drew
    refine anyG_take (i := 0) (v := _) rfl (by kernel_rfl) (by kernel_rfl) (by kernel_rfl) (by kernel_rfl) rfl (by kernel_rfl) (fun j hj => by first | (simp at hj; done) | (simp at hj; simp; omega)) (fun _ _ _ h => h) (Or.inl ⟨by rfl, fun W1 hW1 => by first | rfl | go_simp⟩) (S0) ?_
    refine anyG_take (i := 1) (v := .int .u64 Ql) rfl (by kernel_rfl) (by kernel_rfl) (by kernel_rfl) (by kernel_rfl) rfl (by kernel_rfl) (fun j hj => by first | (simp at hj; done) | (simp at hj; simp; omega)) (fun _ _ _ h => h) (Or.inl ⟨by rfl, fun W1 hW1 => by have c := (K9.out.call hW1).cellv (i := 1) (v := .int .u64 Ql) rfl; go_simp⟩) (S0) ?_
    refine anyG_take (i := 2) (v := _) rfl (by kernel_rfl) (by kernel_rfl) (by kernel_rfl) (by kernel_rfl) rfl (by kernel_rfl) (fun j hj => by first | (simp at hj; done) | (simp at hj; simp; omega)) (fun _ _ _ h => h) (Or.inl ⟨by rfl, fun W1 hW1 => by first | rfl | go_simp⟩) (S0) ?_
    refine anyG_take (i := 4) (v := _) rfl (by kernel_rfl) (by kernel_rfl) (by kernel_rfl) (by kernel_rfl) rfl (by kernel_rfl) (fun j hj => by first | (simp at hj; done) | (simp at hj; simp; omega)) (fun _ _ _ h => h) (Or.inl ⟨by rfl, fun W1 hW1 => exec_load (ty := 38) (x := .tmp 8) rfl rfl (run_loadAt_blk _ _ _ _ _ _ (C9.out.call hW1) Try.underlying38 rfl (by first | exact info_num _ | kernel_rfl))⟩) (S0) ?_
    refine anyG_two (i := 3) (j := 9) (by kernel_rfl) rfl (by rfl) rfl (by rfl) (fun Q2 hQ2 => ?_) (fun Q2 hQ2 => ?_)
    ·
      go_wp2_with (go_at_call 21; refine (HMa.out _).mono ?_; rintro e v10 ⟨rfl, hb10⟩)
      refine hQ2 _ _ (fun _ => S0.trans (hb10.mono S0.size)) ?_
      clear hQ2 Q2
      have S10 := S0.trans (hb10.mono S0.size)
      refine anyG_two (i := 5) (j := 9) (by kernel_rfl) rfl (by rfl) rfl (by rfl) (fun Q2 hQ2 => ?_) (fun Q2 hQ2 => ?_)
      ·
        go_wp2_with (go_at_call 24; refine (HAdd.out _).mono ?_; rintro e v11 ⟨rfl, hb11⟩)
        refine hQ2 _ _ (fun _ => S10.trans (hb11.mono S10.size)) ?_
        clear hQ2 Q2
        have S11 := S10.trans (hb11.mono S10.size)
        refine anyG_take (i := 6) (v := _) rfl (by kernel_rfl) (by kernel_rfl) (by kernel_rfl) (by kernel_rfl) rfl (by kernel_rfl) (fun j hj => by first | (simp at hj; done) | (simp at hj; simp; omega)) (fun _ _ _ h => h) (Or.inl ⟨by rfl, fun W1 hW1 => by first | rfl | go_simp⟩) (S11) ?_
        refine anyG_take (i := 7) (v := _) rfl (by kernel_rfl) (by kernel_rfl) (by kernel_rfl) (by kernel_rfl) rfl (by kernel_rfl) (fun j hj => by first | (simp at hj; done) | (simp at hj; simp; omega)) (fun _ _ _ h => h) (Or.inl ⟨by rfl, fun W1 hW1 => by first | rfl | go_simp⟩) (S11) ?_
        refine anyG_take (i := 8) (v := _) rfl (by kernel_rfl) (by kernel_rfl) (by kernel_rfl) (by kernel_rfl) rfl (by kernel_rfl) (fun j hj => by first | (simp at hj; done) | (simp at hj; simp; omega)) (fun _ _ _ h => h) (Or.inl ⟨by rfl, fun W1 hW1 => by first | rfl | go_simp⟩) (S11) ?_
        refine anyG_one (k := 9) (by kernel_rfl) rfl (by rfl) (fun Q2 hQ2 => ?_)
        have nG := new_at (S := S11) Try.zeroCells38 38
        obtain ⟨G, hG, bG, lG⟩ := nG
        go_wp2_with fail
        refine hQ2 _ _ (fun _ => S11.alloc S11.size _) ?_
        clear hQ2 Q2
        (try simp only [hG])
        clear hG
        have SG := S11.alloc S11.size (.cells Try.zeroCells38 38)
        refine anyG_one (k := 10) (by kernel_rfl) rfl (by rfl) (fun Q2 hQ2 => ?_); go_wp2_with (refine wpList_store_row rfl 38 (.tmp 9) _ rfl _ _ _ (bitsA _) rfl rfl (bG) (by first | (rw [bitsA_size, bitsA_size]; done) | (rw [bitsA_size]; kernel_rfl)) (info_num _) (bitsA_one _) ?_; intro uG huG hwG); refine hQ2 _ _ (fun _ => SG.trans (Only.below hwG lG SG.size)) ?_; clear hQ2 Q2
        have SsG := SG.trans (Only.below hwG lG SG.size)
        refine anyG_one (k := 11) (by kernel_rfl) rfl (by rfl) (fun Q2 hQ2 => ?_); go_wp2_with fail; refine hQ2 _ _ (fun _ => SsG) ?_; clear hQ2 Q2
        refine anyG_done (by kernel_rfl) ?_ _
        have D0 := Lib.hid (A9.out.call SsG)
        have DG := Lib.hid (huG)
        have DB := Lib.hid (E9.out.trans (SsG.mono E9.out.size))
        go_wp2
        refine wp_region_any (by kernel_rfl) ?_; change wpAny _ _ _ _ _ _ _ (World.drew uG); refine any_of_anyG (late := fun j => [3, 4, 5, 6, 7, 8].contains j) (S := fun w1 => Below uG.heap.size uG w1) _ _ _ _ ?_
        have S0 := (Below.refl uG.heap.size uG).drew
        refine anyG_take (i := 0) (v := _) rfl (by kernel_rfl) (by kernel_rfl) (by kernel_rfl) (by kernel_rfl) rfl (by kernel_rfl) (fun j hj => by first | (simp at hj; done) | (simp at hj; simp; omega)) (fun _ _ _ h => h) (Or.inl ⟨by rfl, fun W1 hW1 => exec_load (ty := 38) (x := .tmp 9) rfl rfl (run_loadAt_blk _ _ _ _ _ _ (DG.out.call hW1) Try.underlying38 rfl (by first | exact info_num _ | kernel_rfl))⟩) (S0) ?_
        refine anyG_one (k := 1) (by kernel_rfl) rfl (by rfl) (fun Q2 hQ2 => ?_); go_wp2_with fail; refine hQ2 _ _ (fun _ => S0) ?_; clear hQ2 Q2
        refine anyG_one (k := 2) (by kernel_rfl) rfl (by rfl) (fun Q2 hQ2 => ?_); go_wp2_with (go_at_call 22; refine (HOr.out _).mono ?_; rintro e v12 ⟨rfl, hb12⟩); refine hQ2 _ _ (fun _ => S0.trans (hb12.mono S0.size)) ?_; clear hQ2 Q2
        have S12 := S0.trans (hb12.mono S0.size)
        refine anyG_of_any _ _ _ _ (by kernel_rfl) ?_
        refine any_one (k := 3) (by kernel_rfl) rfl (by rfl) (fun Q2 hQ2 => ?_); go_wp2_with (go_at_call 24; refine (HAdd2.out _).mono ?_; rintro e v13 ⟨rfl, hb13⟩); (try refine hQ2 _ _ ?_); (try clear hQ2 Q2)
        have S13 := S12.trans (hb13.mono S12.size)
        refine any_one (k := 4) (by kernel_rfl) rfl (by rfl) (fun Q2 hQ2 => ?_); go_wp2_with fail; (try refine hQ2 _ _ ?_); (try clear hQ2 Q2)
        refine wpAny_take (i := 5) (v := _) rfl (by kernel_rfl) (by kernel_rfl) (by kernel_rfl) (fun _ _ _ h => h) (Or.inl ⟨by rfl, fun W => by rfl⟩) ?_
        refine wpAny_take (i := 6) (v := _) rfl (by kernel_rfl) (by kernel_rfl) (by kernel_rfl) (fun _ _ _ h => h) (Or.inl ⟨by rfl, fun W => by rfl⟩) ?_
        refine any_one (k := 7) (by kernel_rfl) rfl (by rfl) (fun Q2 hQ2 => ?_); go_wp2_with (refine wpList_store_row rfl 38 (.tmp 9) _ rfl _ _ _ (bitsA _) rfl rfl (DG.out.call S13) (by rw [bitsA_size, bitsA_size]) (info_num _) (bitsA_one _) ?_; intro uX huX hwX); (try refine hQ2 _ _ ?_); (try clear hQ2 Q2)
        refine any_one (k := 8) (by kernel_rfl) rfl (by rfl) (fun Q2 hQ2 => ?_); go_wp2_with fail; (try refine hQ2 _ _ ?_); (try clear hQ2 Q2)
        refine wpAny_done (by kernel_rfl) ?_ _
        have F0 := Lib.hid ((D0.out.call S13).grown hwX (by have := A9.out.lt; have := lG; simp; omega))
        have FB := Lib.hid (DB.out.trans (S13.mono DB.out.size))
        have FB2 := Lib.hid (FB.out.trans (Only.below hwX (by have := A9.out.lt; have := lG; omega) FB.out.size))
        have FX := Lib.hid huX
        go_wp2
        have heq := HEq.out
        refine wp_region_any (by kernel_rfl) ?_; change wpAny _ _ _ _ _ _ _ (World.drew uX); refine any_of_anyG (late := fun _ => false) (S := fun w1 => Below uX.heap.size uX w1) _ _ _ _ ?_
        have S0 := (Below.refl uX.heap.size uX).drew
        refine anyG_one (k := 0) (by kernel_rfl) rfl (by rfl) (fun Q2 hQ2 => ?_); go_wp2_with fail; refine hQ2 _ _ (fun _ => S0) ?_; clear hQ2 Q2
        refine anyG_one (k := 1) (by kernel_rfl) rfl (by rfl) (fun Q2 hQ2 => ?_); go_wp2_with fail; refine hQ2 _ _ (fun _ => S0) ?_; clear hQ2 Q2
        refine anyG_take (i := 2) (v := _) rfl (by kernel_rfl) (by kernel_rfl) (by kernel_rfl) (by kernel_rfl) rfl (by kernel_rfl) (fun j hj => by first | (simp at hj; done) | (simp at hj; simp; omega)) (fun _ _ _ h => h) (Or.inl ⟨by rfl, fun W1 hW1 => exec_load (ty := 38) (x := .tmp 9) rfl rfl (run_loadAt_blk _ _ _ _ _ _ (FX.out.call hW1) Try.underlying38 rfl (by first | exact info_num _ | kernel_rfl))⟩) (S0) ?_
        refine anyG_take (i := 3) (v := _) rfl (by kernel_rfl) (by kernel_rfl) (by kernel_rfl) (by kernel_rfl) rfl (by kernel_rfl) (fun j hj => by first | (simp at hj; done) | (simp at hj; simp; omega)) (fun _ _ _ h => h) (Or.inl ⟨by rfl, fun W1 hW1 => exec_load (ty := 32) (x := .tmp 2) rfl rfl (run_loadAt_blk _ _ _ _ _ _ (F0.out.call hW1) Try.underlying32 rfl (by first | exact info_num _ | kernel_rfl))⟩) (S0) ?_
        refine anyG_one (k := 4) (by kernel_rfl) rfl (by rfl) (fun Q2 hQ2 => ?_); go_wp2_with (go_at_call 25; refine (law_numN N _ HN.out).mono ?_; rintro e v15 ⟨rfl, hb15⟩); refine hQ2 _ _ (fun _ => S0.trans (hb15.mono S0.size)) ?_; clear hQ2 Q2
        have S15 := S0.trans (hb15.mono S0.size)
        refine anyG_one (k := 5) (by kernel_rfl) rfl (by rfl) (fun Q2 hQ2 => ?_); go_wp2_with fail; refine hQ2 _ _ (fun _ => S15) ?_; clear hQ2 Q2
        refine anyG_one (k := 6) (by kernel_rfl) rfl (by rfl) (fun Q2 hQ2 => ?_); go_wp2_with fail; refine hQ2 _ _ (fun _ => S15) ?_; clear hQ2 Q2
        refine anyG_one (k := 7) (by kernel_rfl) rfl (by rfl) (fun Q2 hQ2 => ?_); go_wp2_with fail; refine hQ2 _ _ (fun _ => S15) ?_; clear hQ2 Q2
        refine anyG_done (by kernel_rfl) ?_ _
        go_wp2
        go_ret
        exact ⟨rfl, FB2.out.trans (S15.mono FB2.out.size)⟩
      ·
        skip
        have nG := new_at (S := S10) Try.zeroCells38 38
        obtain ⟨G, hG, bG, lG⟩ := nG
        go_wp2_with fail
        refine hQ2 _ _ (fun _ => S10.alloc S10.size _) ?_
        clear hQ2 Q2
        (try simp only [hG])
        clear hG
        have SG := S10.alloc S10.size (.cells Try.zeroCells38 38)
        refine anyG_one (k := 5) (by kernel_rfl) rfl (by rfl) (fun Q2 hQ2 => ?_); go_wp2_with (go_at_call 24; refine (HAdd.out _).mono ?_; rintro e v11 ⟨rfl, hb11⟩); refine hQ2 _ _ (fun _ => SG.trans (hb11.mono SG.size)) ?_; clear hQ2 Q2
        have S11 := SG.trans (hb11.mono SG.size)
        refine anyG_one (k := 6) (by kernel_rfl) rfl (by rfl) (fun Q2 hQ2 => ?_); go_wp2_with fail; refine hQ2 _ _ (fun _ => S11) ?_; clear hQ2 Q2
        refine anyG_take (i := 7) (v := _) rfl (by kernel_rfl) (by kernel_rfl) (by kernel_rfl) (by kernel_rfl) rfl (by kernel_rfl) (fun j hj => by first | (simp at hj; done) | (simp at hj; simp; omega)) (fun _ _ _ h => h) (Or.inl ⟨by rfl, fun W1 hW1 => by first | rfl | go_simp⟩) (S11) ?_
        refine anyG_take (i := 8) (v := _) rfl (by kernel_rfl) (by kernel_rfl) (by kernel_rfl) (by kernel_rfl) rfl (by kernel_rfl) (fun j hj => by first | (simp at hj; done) | (simp at hj; simp; omega)) (fun _ _ _ h => h) (Or.inl ⟨by rfl, fun W1 hW1 => by first | rfl | go_simp⟩) (S11) ?_
        refine anyG_one (k := 10) (by kernel_rfl) rfl (by rfl) (fun Q2 hQ2 => ?_); go_wp2_with (refine wpList_store_row rfl 38 (.tmp 9) _ rfl _ _ _ (bitsA _) rfl rfl ((bG).call hb11) (by first | (rw [bitsA_size, bitsA_size]; done) | (rw [bitsA_size]; kernel_rfl)) (info_num _) (bitsA_one _) ?_; intro uG huG hwG); refine hQ2 _ _ (fun _ => S11.trans (Only.below hwG lG S11.size)) ?_; clear hQ2 Q2
        have SsG := S11.trans (Only.below hwG lG S11.size)
        refine anyG_one (k := 11) (by kernel_rfl) rfl (by rfl) (fun Q2 hQ2 => ?_); go_wp2_with fail; refine hQ2 _ _ (fun _ => SsG) ?_; clear hQ2 Q2
        refine anyG_done (by kernel_rfl) ?_ _
        have D0 := Lib.hid (A9.out.call SsG)
        have DG := Lib.hid (huG)
        have DB := Lib.hid (E9.out.trans (SsG.mono E9.out.size))
        go_wp2
        refine wp_region_any (by kernel_rfl) ?_; change wpAny _ _ _ _ _ _ _ (World.drew uG); refine any_of_anyG (late := fun j => [3, 4, 5, 6, 7, 8].contains j) (S := fun w1 => Below uG.heap.size uG w1) _ _ _ _ ?_
        have S0 := (Below.refl uG.heap.size uG).drew
        refine anyG_take (i := 0) (v := _) rfl (by kernel_rfl) (by kernel_rfl) (by kernel_rfl) (by kernel_rfl) rfl (by kernel_rfl) (fun j hj => by first | (simp at hj; done) | (simp at hj; simp; omega)) (fun _ _ _ h => h) (Or.inl ⟨by rfl, fun W1 hW1 => exec_load (ty := 38) (x := .tmp 9) rfl rfl (run_loadAt_blk _ _ _ _ _ _ (DG.out.call hW1) Try.underlying38 rfl (by first | exact info_num _ | kernel_rfl))⟩) (S0) ?_
        refine anyG_one (k := 1) (by kernel_rfl) rfl (by rfl) (fun Q2 hQ2 => ?_); go_wp2_with fail; refine hQ2 _ _ (fun _ => S0) ?_; clear hQ2 Q2
        refine anyG_one (k := 2) (by kernel_rfl) rfl (by rfl) (fun Q2 hQ2 => ?_); go_wp2_with (go_at_call 22; refine (HOr.out _).mono ?_; rintro e v12 ⟨rfl, hb12⟩); refine hQ2 _ _ (fun _ => S0.trans (hb12.mono S0.size)) ?_; clear hQ2 Q2
        have S12 := S0.trans (hb12.mono S0.size)
        refine anyG_of_any _ _ _ _ (by kernel_rfl) ?_
        refine any_one (k := 3) (by kernel_rfl) rfl (by rfl) (fun Q2 hQ2 => ?_); go_wp2_with (go_at_call 24; refine (HAdd2.out _).mono ?_; rintro e v13 ⟨rfl, hb13⟩); (try refine hQ2 _ _ ?_); (try clear hQ2 Q2)
        have S13 := S12.trans (hb13.mono S12.size)
        refine any_one (k := 4) (by kernel_rfl) rfl (by rfl) (fun Q2 hQ2 => ?_); go_wp2_with fail; (try refine hQ2 _ _ ?_); (try clear hQ2 Q2)
        refine wpAny_take (i := 5) (v := _) rfl (by kernel_rfl) (by kernel_rfl) (by kernel_rfl) (fun _ _ _ h => h) (Or.inl ⟨by rfl, fun W => by rfl⟩) ?_
        refine wpAny_take (i := 6) (v := _) rfl (by kernel_rfl) (by kernel_rfl) (by kernel_rfl) (fun _ _ _ h => h) (Or.inl ⟨by rfl, fun W => by rfl⟩) ?_
        refine any_one (k := 7) (by kernel_rfl) rfl (by rfl) (fun Q2 hQ2 => ?_); go_wp2_with (refine wpList_store_row rfl 38 (.tmp 9) _ rfl _ _ _ (bitsA _) rfl rfl (DG.out.call S13) (by rw [bitsA_size, bitsA_size]) (info_num _) (bitsA_one _) ?_; intro uX huX hwX); (try refine hQ2 _ _ ?_); (try clear hQ2 Q2)
        refine any_one (k := 8) (by kernel_rfl) rfl (by rfl) (fun Q2 hQ2 => ?_); go_wp2_with fail; (try refine hQ2 _ _ ?_); (try clear hQ2 Q2)
        refine wpAny_done (by kernel_rfl) ?_ _
        have F0 := Lib.hid ((D0.out.call S13).grown hwX (by have := A9.out.lt; have := lG; simp; omega))
        have FB := Lib.hid (DB.out.trans (S13.mono DB.out.size))
        have FB2 := Lib.hid (FB.out.trans (Only.below hwX (by have := A9.out.lt; have := lG; omega) FB.out.size))
        have FX := Lib.hid huX
        go_wp2
        have heq := HEq.out
        refine wp_region_any (by kernel_rfl) ?_; change wpAny _ _ _ _ _ _ _ (World.drew uX); refine any_of_anyG (late := fun _ => false) (S := fun w1 => Below uX.heap.size uX w1) _ _ _ _ ?_
        have S0 := (Below.refl uX.heap.size uX).drew
        refine anyG_one (k := 0) (by kernel_rfl) rfl (by rfl) (fun Q2 hQ2 => ?_); go_wp2_with fail; refine hQ2 _ _ (fun _ => S0) ?_; clear hQ2 Q2
        refine anyG_one (k := 1) (by kernel_rfl) rfl (by rfl) (fun Q2 hQ2 => ?_); go_wp2_with fail; refine hQ2 _ _ (fun _ => S0) ?_; clear hQ2 Q2
        refine anyG_take (i := 2) (v := _) rfl (by kernel_rfl) (by kernel_rfl) (by kernel_rfl) (by kernel_rfl) rfl (by kernel_rfl) (fun j hj => by first | (simp at hj; done) | (simp at hj; simp; omega)) (fun _ _ _ h => h) (Or.inl ⟨by rfl, fun W1 hW1 => exec_load (ty := 38) (x := .tmp 9) rfl rfl (run_loadAt_blk _ _ _ _ _ _ (FX.out.call hW1) Try.underlying38 rfl (by first | exact info_num _ | kernel_rfl))⟩) (S0) ?_
        refine anyG_take (i := 3) (v := _) rfl (by kernel_rfl) (by kernel_rfl) (by kernel_rfl) (by kernel_rfl) rfl (by kernel_rfl) (fun j hj => by first | (simp at hj; done) | (simp at hj; simp; omega)) (fun _ _ _ h => h) (Or.inl ⟨by rfl, fun W1 hW1 => exec_load (ty := 32) (x := .tmp 2) rfl rfl (run_loadAt_blk _ _ _ _ _ _ (F0.out.call hW1) Try.underlying32 rfl (by first | exact info_num _ | kernel_rfl))⟩) (S0) ?_
        refine anyG_one (k := 4) (by kernel_rfl) rfl (by rfl) (fun Q2 hQ2 => ?_); go_wp2_with (go_at_call 25; refine (law_numN N _ HN.out).mono ?_; rintro e v15 ⟨rfl, hb15⟩); refine hQ2 _ _ (fun _ => S0.trans (hb15.mono S0.size)) ?_; clear hQ2 Q2
        have S15 := S0.trans (hb15.mono S0.size)
        refine anyG_one (k := 5) (by kernel_rfl) rfl (by rfl) (fun Q2 hQ2 => ?_); go_wp2_with fail; refine hQ2 _ _ (fun _ => S15) ?_; clear hQ2 Q2
        refine anyG_one (k := 6) (by kernel_rfl) rfl (by rfl) (fun Q2 hQ2 => ?_); go_wp2_with fail; refine hQ2 _ _ (fun _ => S15) ?_; clear hQ2 Q2
        refine anyG_one (k := 7) (by kernel_rfl) rfl (by rfl) (fun Q2 hQ2 => ?_); go_wp2_with fail; refine hQ2 _ _ (fun _ => S15) ?_; clear hQ2 Q2
        refine anyG_done (by kernel_rfl) ?_ _
        go_wp2
        go_ret
        exact ⟨rfl, FB2.out.trans (S15.mono FB2.out.size)⟩
    ·
      skip
      have nG := new_at (S := S0) Try.zeroCells38 38
      obtain ⟨G, hG, bG, lG⟩ := nG
      go_wp2_with fail
      refine hQ2 _ _ (fun _ => S0.alloc S0.size _) ?_
      clear hQ2 Q2
      (try simp only [hG])
      clear hG
      have SG := S0.alloc S0.size (.cells Try.zeroCells38 38)
      refine anyG_one (k := 3) (by kernel_rfl) rfl (by rfl) (fun Q2 hQ2 => ?_); go_wp2_with (go_at_call 21; refine (HMa.out _).mono ?_; rintro e v10 ⟨rfl, hb10⟩); refine hQ2 _ _ (fun _ => SG.trans (hb10.mono SG.size)) ?_; clear hQ2 Q2
      have S10 := SG.trans (hb10.mono SG.size)
      refine anyG_one (k := 5) (by kernel_rfl) rfl (by rfl) (fun Q2 hQ2 => ?_); go_wp2_with (go_at_call 24; refine (HAdd.out _).mono ?_; rintro e v11 ⟨rfl, hb11⟩); refine hQ2 _ _ (fun _ => S10.trans (hb11.mono S10.size)) ?_; clear hQ2 Q2
      have S11 := S10.trans (hb11.mono S10.size)
      refine anyG_one (k := 6) (by kernel_rfl) rfl (by rfl) (fun Q2 hQ2 => ?_); go_wp2_with fail; refine hQ2 _ _ (fun _ => S11) ?_; clear hQ2 Q2
      refine anyG_take (i := 7) (v := _) rfl (by kernel_rfl) (by kernel_rfl) (by kernel_rfl) (by kernel_rfl) rfl (by kernel_rfl) (fun j hj => by first | (simp at hj; done) | (simp at hj; simp; omega)) (fun _ _ _ h => h) (Or.inl ⟨by rfl, fun W1 hW1 => by first | rfl | go_simp⟩) (S11) ?_
      refine anyG_take (i := 8) (v := _) rfl (by kernel_rfl) (by kernel_rfl) (by kernel_rfl) (by kernel_rfl) rfl (by kernel_rfl) (fun j hj => by first | (simp at hj; done) | (simp at hj; simp; omega)) (fun _ _ _ h => h) (Or.inl ⟨by rfl, fun W1 hW1 => by first | rfl | go_simp⟩) (S11) ?_
      refine anyG_one (k := 10) (by kernel_rfl) rfl (by rfl) (fun Q2 hQ2 => ?_); go_wp2_with (refine wpList_store_row rfl 38 (.tmp 9) _ rfl _ _ _ (bitsA _) rfl rfl (((bG).call hb10).call hb11) (by first | (rw [bitsA_size, bitsA_size]; done) | (rw [bitsA_size]; kernel_rfl)) (info_num _) (bitsA_one _) ?_; intro uG huG hwG); refine hQ2 _ _ (fun _ => S11.trans (Only.below hwG lG S11.size)) ?_; clear hQ2 Q2
      have SsG := S11.trans (Only.below hwG lG S11.size)
      refine anyG_one (k := 11) (by kernel_rfl) rfl (by rfl) (fun Q2 hQ2 => ?_); go_wp2_with fail; refine hQ2 _ _ (fun _ => SsG) ?_; clear hQ2 Q2
      refine anyG_done (by kernel_rfl) ?_ _
      have D0 := Lib.hid (A9.out.call SsG)
      have DG := Lib.hid (huG)
      have DB := Lib.hid (E9.out.trans (SsG.mono E9.out.size))
      go_wp2
      refine wp_region_any (by kernel_rfl) ?_; change wpAny _ _ _ _ _ _ _ (World.drew uG); refine any_of_anyG (late := fun j => [3, 4, 5, 6, 7, 8].contains j) (S := fun w1 => Below uG.heap.size uG w1) _ _ _ _ ?_
      have S0 := (Below.refl uG.heap.size uG).drew
      refine anyG_take (i := 0) (v := _) rfl (by kernel_rfl) (by kernel_rfl) (by kernel_rfl) (by kernel_rfl) rfl (by kernel_rfl) (fun j hj => by first | (simp at hj; done) | (simp at hj; simp; omega)) (fun _ _ _ h => h) (Or.inl ⟨by rfl, fun W1 hW1 => exec_load (ty := 38) (x := .tmp 9) rfl rfl (run_loadAt_blk _ _ _ _ _ _ (DG.out.call hW1) Try.underlying38 rfl (by first | exact info_num _ | kernel_rfl))⟩) (S0) ?_
      refine anyG_one (k := 1) (by kernel_rfl) rfl (by rfl) (fun Q2 hQ2 => ?_); go_wp2_with fail; refine hQ2 _ _ (fun _ => S0) ?_; clear hQ2 Q2
      refine anyG_one (k := 2) (by kernel_rfl) rfl (by rfl) (fun Q2 hQ2 => ?_); go_wp2_with (go_at_call 22; refine (HOr.out _).mono ?_; rintro e v12 ⟨rfl, hb12⟩); refine hQ2 _ _ (fun _ => S0.trans (hb12.mono S0.size)) ?_; clear hQ2 Q2
      have S12 := S0.trans (hb12.mono S0.size)
      refine anyG_of_any _ _ _ _ (by kernel_rfl) ?_
      refine any_one (k := 3) (by kernel_rfl) rfl (by rfl) (fun Q2 hQ2 => ?_); go_wp2_with (go_at_call 24; refine (HAdd2.out _).mono ?_; rintro e v13 ⟨rfl, hb13⟩); (try refine hQ2 _ _ ?_); (try clear hQ2 Q2)
      have S13 := S12.trans (hb13.mono S12.size)
      refine any_one (k := 4) (by kernel_rfl) rfl (by rfl) (fun Q2 hQ2 => ?_); go_wp2_with fail; (try refine hQ2 _ _ ?_); (try clear hQ2 Q2)
      refine wpAny_take (i := 5) (v := _) rfl (by kernel_rfl) (by kernel_rfl) (by kernel_rfl) (fun _ _ _ h => h) (Or.inl ⟨by rfl, fun W => by rfl⟩) ?_
      refine wpAny_take (i := 6) (v := _) rfl (by kernel_rfl) (by kernel_rfl) (by kernel_rfl) (fun _ _ _ h => h) (Or.inl ⟨by rfl, fun W => by rfl⟩) ?_
      refine any_one (k := 7) (by kernel_rfl) rfl (by rfl) (fun Q2 hQ2 => ?_); go_wp2_with (refine wpList_store_row rfl 38 (.tmp 9) _ rfl _ _ _ (bitsA _) rfl rfl (DG.out.call S13) (by rw [bitsA_size, bitsA_size]) (info_num _) (bitsA_one _) ?_; intro uX huX hwX); (try refine hQ2 _ _ ?_); (try clear hQ2 Q2)
      refine any_one (k := 8) (by kernel_rfl) rfl (by rfl) (fun Q2 hQ2 => ?_); go_wp2_with fail; (try refine hQ2 _ _ ?_); (try clear hQ2 Q2)
      refine wpAny_done (by kernel_rfl) ?_ _
      have F0 := Lib.hid ((D0.out.call S13).grown hwX (by have := A9.out.lt; have := lG; simp; omega))
      have FB := Lib.hid (DB.out.trans (S13.mono DB.out.size))
      have FB2 := Lib.hid (FB.out.trans (Only.below hwX (by have := A9.out.lt; have := lG; omega) FB.out.size))
      have FX := Lib.hid huX
      go_wp2
      have heq := HEq.out
      refine wp_region_any (by kernel_rfl) ?_; change wpAny _ _ _ _ _ _ _ (World.drew uX); refine any_of_anyG (late := fun _ => false) (S := fun w1 => Below uX.heap.size uX w1) _ _ _ _ ?_
      have S0 := (Below.refl uX.heap.size uX).drew
      refine anyG_one (k := 0) (by kernel_rfl) rfl (by rfl) (fun Q2 hQ2 => ?_); go_wp2_with fail; refine hQ2 _ _ (fun _ => S0) ?_; clear hQ2 Q2
      refine anyG_one (k := 1) (by kernel_rfl) rfl (by rfl) (fun Q2 hQ2 => ?_); go_wp2_with fail; refine hQ2 _ _ (fun _ => S0) ?_; clear hQ2 Q2
      refine anyG_take (i := 2) (v := _) rfl (by kernel_rfl) (by kernel_rfl) (by kernel_rfl) (by kernel_rfl) rfl (by kernel_rfl) (fun j hj => by first | (simp at hj; done) | (simp at hj; simp; omega)) (fun _ _ _ h => h) (Or.inl ⟨by rfl, fun W1 hW1 => exec_load (ty := 38) (x := .tmp 9) rfl rfl (run_loadAt_blk _ _ _ _ _ _ (FX.out.call hW1) Try.underlying38 rfl (by first | exact info_num _ | kernel_rfl))⟩) (S0) ?_
      refine anyG_take (i := 3) (v := _) rfl (by kernel_rfl) (by kernel_rfl) (by kernel_rfl) (by kernel_rfl) rfl (by kernel_rfl) (fun j hj => by first | (simp at hj; done) | (simp at hj; simp; omega)) (fun _ _ _ h => h) (Or.inl ⟨by rfl, fun W1 hW1 => exec_load (ty := 32) (x := .tmp 2) rfl rfl (run_loadAt_blk _ _ _ _ _ _ (F0.out.call hW1) Try.underlying32 rfl (by first | exact info_num _ | kernel_rfl))⟩) (S0) ?_
      refine anyG_one (k := 4) (by kernel_rfl) rfl (by rfl) (fun Q2 hQ2 => ?_); go_wp2_with (go_at_call 25; refine (law_numN N _ HN.out).mono ?_; rintro e v15 ⟨rfl, hb15⟩); refine hQ2 _ _ (fun _ => S0.trans (hb15.mono S0.size)) ?_; clear hQ2 Q2
      have S15 := S0.trans (hb15.mono S0.size)
      refine anyG_one (k := 5) (by kernel_rfl) rfl (by rfl) (fun Q2 hQ2 => ?_); go_wp2_with fail; refine hQ2 _ _ (fun _ => S15) ?_; clear hQ2 Q2
      refine anyG_one (k := 6) (by kernel_rfl) rfl (by rfl) (fun Q2 hQ2 => ?_); go_wp2_with fail; refine hQ2 _ _ (fun _ => S15) ?_; clear hQ2 Q2
      refine anyG_one (k := 7) (by kernel_rfl) rfl (by rfl) (fun Q2 hQ2 => ?_); go_wp2_with fail; refine hQ2 _ _ (fun _ => S15) ?_; clear hQ2 Q2
      refine anyG_done (by kernel_rfl) ?_ _
      go_wp2
      go_ret
      exact ⟨rfl, FB2.out.trans (S15.mono FB2.out.size)⟩
end Go.Proofs.Ytlodmnohmlkjmaa
