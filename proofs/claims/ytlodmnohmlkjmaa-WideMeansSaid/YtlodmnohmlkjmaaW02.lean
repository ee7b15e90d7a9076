/- The laws on package wide: WideAdds. -/
import Derived.Test.YtlodmnohmlkjmaaLaw02
namespace Go.Proofs.Ytlodmnohmlkjmaa
open Go.RowKit
set_option linter.unusedSimpArgs false
set_option linter.unusedVariables false
set_option maxHeartbeats 4000000
set_option maxRecDepth 100000
theorem law_numN (N : Nat) (w : World) (hN : N < 2 ^ 128) :
    Calls Try.prog 25 #[.agg #[.int .u64 ((hiQ N : Nat) : Int), .int .u64 ((loQ N : Nat) : Int)]] w fun e w' => e = .returned (.agg (bitsA N)) ∧ Below w.heap.size w w' := by
  have := law_num (hiQ N) (loQ N) w (hiQ_lt hN) (loQ_lt N)
  rw [two_eq] at this; exact this
theorem num_AddS (a b : Nat) (w : World) (ha : a < 2 ^ 128) (hb : b < 2 ^ 128) :
    Calls Try.prog 24 #[.agg (bitsA a), .agg (bitsA b)] w fun e w' => e = .returned (.tuple #[.agg (bitsA (sumRow (a + b))), .bool (sumFits (a + b))]) ∧ Below w.heap.size w w' := num_Add a b w ha hb
theorem ints_lit2 (w : World) (a b : Int) (t : TypeId) : IntsAre (w.alloc (.cells #[.int .i64 a, .int .i64 b] t)) (some ⟨w.heap.size, 0, none⟩) 2 2 [a, b] := by
  refine ⟨rfl, Nat.le_refl _, by decide, (fun h => by cases h), fun ad had => ?_⟩
  cases had
  refine ⟨fun i x hi j v hj => ?_, fun _ => ⟨by simp, rfl⟩⟩
  have hc := (Blk.new w t #[.int .i64 a, .int .i64 b]).cell
  match j, hj with
  | 0, hj =>
    simp at hj; subst hj
    rw [show (⟨w.heap.size, 0, none⟩ : Addr).add (i * 1 + 0) = ⟨w.heap.size, i, none⟩ by simp [Addr.add]; omega, hc i]
    match i, hi with
    | 0, hi => simp at hi; subst hi; rfl
    | 1, hi => simp at hi; subst hi; rfl
  | j + 1, hj => simp at hj
theorem ex_scale (w : World) : Calls Try.prog 28 #[.int .i64 10, .int .i64 3, .int .i64 4] w fun e w' => e = .returned (.int .i64 8) ∧ Below w.heap.size w w' :=
  (wide_Scale 10 3 4 w (by unfold I64; omega) (by unfold I64; omega) (by unfold I64; omega)).mono fun _ _ h => by
    rw [show scaleq 10 3 4 = 8 by decide +kernel] at h; exact h
theorem ex_mul (w : World) : Calls Try.prog 46 #[.int .u64 9223372036854775808, .int .u64 4] w fun e w' => e = .returned (.agg #[.int .u64 2, .int .u64 0]) ∧ Below w.heap.size w w' :=
  (wide_Mul 9223372036854775808 4 w (by omega) (by omega)).mono fun _ _ h => by
    rw [show hiQ (9223372036854775808 * 4) = 2 by decide +kernel, show loQ (9223372036854775808 * 4) = 0 by decide +kernel] at h; exact h
theorem ex_mean (A : Option Addr) (w : World) (h : IntsAre w A 2 2 [1, 2]) : Calls Try.prog 31 #[.slice A 2 2] w fun e w' => e = .returned (.int .i64 2) ∧ Below w.heap.size w w' :=
  (wide_Mean A 2 2 [1, 2] w h (fun x hx => by simp at hx; unfold I64; omega) (by omega)).mono fun _ _ h => by
    rw [show meanq [1, 2] = 2 by decide +kernel] at h; exact h
theorem awake02 (w : World) : Calls Try.prog 18 #[] w fun e w' => e = .returned (.bool true) ∧ Below w.heap.size w w' := by
  go_enter Try.func18, Try.ntmps18
  go_wp2_with (first | (go_at_call 28; refine (ex_scale _).mono ?_; rintro e v1 ⟨rfl, hb1⟩; have hB1 : Below w.heap.size w v1 := Below.trans (by go_grown) (hb1.mono (by first | omega | (simp; done) | (simp; omega))); have hs1 := hb1.size; (try simp only [World.size_alloc, World.size_setCell, World.size_drew] at hs1)) | (go_at_call 46; refine (ex_mul _).mono ?_; rintro e v2 ⟨rfl, hb2⟩; have hB2 : Below w.heap.size w v2 := Below.trans (by go_grown) (hb2.mono (by first | omega | (simp; done) | (simp; omega))); have hs2 := hb2.size; (try simp only [World.size_alloc, World.size_setCell, World.size_drew] at hs2)) | (go_at_call 31; refine (ex_mean _ _ (ints_lit2 _ 1 2 _)).mono ?_; rintro e v3 ⟨rfl, hb3⟩; have hB3 : Below w.heap.size w v3 := Below.trans (by go_grown) (hb3.mono (by first | omega | (simp; done) | (simp; omega))); have hs3 := hb3.size; (try simp only [World.size_alloc, World.size_setCell, World.size_drew] at hs3)))
  go_ret
  exact ⟨rfl, hB3⟩
theorem walk_WideAddsN (a b N M : Nat) (w : World) (ha : a < 18446744073709551616) (hb : b < 18446744073709551616) (hN : N < 2 ^ 128) (hM : M < 2 ^ 128) :
    Calls Try.prog 9 #[.int .u64 a, .int .u64 b, .agg #[.int .u64 ((hiQ N : Nat) : Int), .int .u64 ((loQ N : Nat) : Int)], .agg #[.int .u64 ((hiQ M : Nat) : Int), .int .u64 ((loQ M : Nat) : Int)]] w fun e w' => e = .returned (.bool true) ∧ Below w.heap.size w w' := by
  have HN := Lib.hid hN
  have HM := Lib.hid hM
  have HA := Lib.hid (show a < 2 ^ 64 by omega)
  have HBB := Lib.hid (show b < 2 ^ 64 by omega)
  have HSum := Lib.hid (show sumRow (N + M) < 2 ^ 128 by unfold sumRow; split <;> omega)
  have HAB := Lib.hid (mul_lt128q (show a < 2 ^ 64 by omega) (show b < 2 ^ 64 by omega))
  obtain ⟨S, hS⟩ : ∃ S, S = sumRow (N + M) := ⟨_, rfl⟩
  obtain ⟨F, hF⟩ : ∃ F, F = sumFits (N + M) := ⟨_, rfl⟩
  have HC1 := Lib.hid (fun W => wide_AddN N M W HN.out HM.out)
  have HC2 := Lib.hid (fun W => num_AddS N M W HN.out HM.out)
  have HC3 := Lib.hid (fun W => wide_Mul a b W ha hb)
  have HC4 := Lib.hid (fun W => num_MulM a b (a * b) W rfl HA.out HBB.out)
  have HC5 := Lib.hid (fun W => law_is (a * b) W HAB.out)
  have HC6 := Lib.hid (fun W => law_is (sumRow (N + M)) W HSum.out)
  rw [← hS] at HC1 HC2 HC6
  rw [← hF] at HC1 HC2
  generalize a * b = AB at *
  clear hS hF ha hb hN hM HA HBB HSum HAB
  go_enter Try.func9, Try.ntmps9
  go_wp2_with (first | (go_at_call 18; refine (awake02 _).mono ?_; rintro e v1 ⟨rfl, hb1⟩; obtain ⟨hc1, hf1⟩ := bcell hb1; have hs1 := hb1.size; simp only [World.size_alloc] at hs1) | (go_at_call 45; refine (HC1.out _).mono ?_; rintro e v2 ⟨rfl, hb2⟩))
  have b0 := (((((Blk.new w 32 #[.int .u64 ((hiQ N : Nat) : Int), .int .u64 ((loQ N : Nat) : Int)]).alloc (.cells #[.int .u64 ((hiQ M : Nat) : Int), .int .u64 ((loQ M : Nat) : Int)] 32)).call hb1).call hb2).alloc (.cells #[.int .u64 ((hiQ S : Nat) : Int), .int .u64 ((loQ S : Nat) : Int)] 32))
  have b1 := ((((Blk.new_ w (.cells #[.int .u64 ((hiQ N : Nat) : Int), .int .u64 ((loQ N : Nat) : Int)] 32) 32 #[.int .u64 ((hiQ M : Nat) : Int), .int .u64 ((loQ M : Nat) : Int)]).call hb1).call hb2).alloc (.cells #[.int .u64 ((hiQ S : Nat) : Int), .int .u64 ((loQ S : Nat) : Int)] 32))
  have b2 := Blk.new v2 32 #[.int .u64 ((hiQ S : Nat) : Int), .int .u64 ((loQ S : Nat) : Int)]
  have hB : Below w.heap.size w (v2.alloc (.cells #[.int .u64 ((hiQ S : Nat) : Int), .int .u64 ((loQ S : Nat) : Int)] 32)) := by
    have e0 : Below w.heap.size w ((w.alloc (.cells #[.int .u64 ((hiQ N : Nat) : Int), .int .u64 ((loQ N : Nat) : Int)] 32)).alloc (.cells #[.int .u64 ((hiQ M : Nat) : Int), .int .u64 ((loQ M : Nat) : Int)] 32)) := by go_grown
    have e1 := e0.trans (hb1.mono e0.size)
    have e2 := e1.trans (hb2.mono e1.size)
    exact e2.alloc e2.size _
  clear hc1 hf1 hs1 hb1 hb2
  generalize hg : v2.heap.size = gS at *
  clear hg
  generalize v2.alloc (.cells #[.int .u64 ((hiQ S : Nat) : Int), .int .u64 ((loQ S : Nat) : Int)] 32) = W at *
  have B0 := Lib.hid b0
  have B1 := Lib.hid b1
  have B2 := Lib.hid b2
  have HB := Lib.hid hB
  clear b0 b1 b2 hB
  refine wp_region_any (by kernel_rfl) ?_; change wpAny _ _ _ _ _ _ _ (World.drew W); refine any_of_anyG (late := fun _ => false) (S := fun w1 => Below W.heap.size W w1) _ _ _ _ ?_
  have S0 := (Below.refl W.heap.size W).drew
  refine anyG_take (i := 0) (v := _) rfl (by kernel_rfl) (by kernel_rfl) (by kernel_rfl) (by kernel_rfl) rfl (by kernel_rfl) (fun j hj => by first | (simp at hj; done) | (simp at hj; simp; omega)) (fun _ _ _ h => h) (Or.inl ⟨by rfl, fun W1 hW1 => exec_load (ty := 32) (x := .tmp 6) rfl rfl (run_loadAt_blk _ _ _ _ _ _ (B0.out.call hW1) Try.underlying32 rfl (by first | exact info_num _ | kernel_rfl))⟩) (S0) ?_
  refine anyG_take (i := 2) (v := _) rfl (by kernel_rfl) (by kernel_rfl) (by kernel_rfl) (by kernel_rfl) rfl (by kernel_rfl) (fun j hj => by first | (simp at hj; done) | (simp at hj; simp; omega)) (fun _ _ _ h => h) (Or.inl ⟨by rfl, fun W1 hW1 => exec_load (ty := 32) (x := .tmp 7) rfl rfl (run_loadAt_blk _ _ _ _ _ _ (B1.out.call hW1) Try.underlying32 rfl (by first | exact info_num _ | kernel_rfl))⟩) (S0) ?_
  refine anyG_two (i := 1) (j := 8) (by kernel_rfl) rfl (by rfl) rfl (by rfl) (fun Q2 hQ2 => ?_) (fun Q2 hQ2 => ?_)
  ·
    go_wp2_with (go_at_call 25; refine (law_numN N _ HN.out).mono ?_; rintro e v3 ⟨rfl, hb3⟩)
    refine hQ2 _ _ (fun _ => S0.trans (hb3.mono S0.size)) ?_
    clear hQ2 Q2
    have S3 := S0.trans (hb3.mono S0.size)
    refine anyG_two (i := 3) (j := 8) (by kernel_rfl) rfl (by rfl) rfl (by rfl) (fun Q2 hQ2 => ?_) (fun Q2 hQ2 => ?_)
    ·
      go_wp2_with (go_at_call 25; refine (law_numN M _ HM.out).mono ?_; rintro e v4 ⟨rfl, hb4⟩)
      refine hQ2 _ _ (fun _ => S3.trans (hb4.mono S3.size)) ?_
      clear hQ2 Q2
      have S4 := S3.trans (hb4.mono S3.size)
      refine anyG_two (i := 4) (j := 8) (by kernel_rfl) rfl (by rfl) rfl (by rfl) (fun Q2 hQ2 => ?_) (fun Q2 hQ2 => ?_)
      ·
        go_wp2_with (go_at_call 24; refine (HC2.out _).mono ?_; rintro e v5 ⟨rfl, hb5⟩)
        refine hQ2 _ _ (fun _ => S4.trans (hb5.mono S4.size)) ?_
        clear hQ2 Q2
        have S5 := S4.trans (hb5.mono S4.size)
        refine anyG_take (i := 5) (v := _) rfl (by kernel_rfl) (by kernel_rfl) (by kernel_rfl) (by kernel_rfl) rfl (by kernel_rfl) (fun j hj => by first | (simp at hj; done) | (simp at hj; simp; omega)) (fun _ _ _ h => h) (Or.inl ⟨by rfl, fun W1 hW1 => by first | rfl | (go_simp; done) | (go_simp; with_reducible rfl)⟩) (S5) ?_
        refine anyG_take (i := 6) (v := _) rfl (by kernel_rfl) (by kernel_rfl) (by kernel_rfl) (by kernel_rfl) rfl (by kernel_rfl) (fun j hj => by first | (simp at hj; done) | (simp at hj; simp; omega)) (fun _ _ _ h => h) (Or.inl ⟨by rfl, fun W1 hW1 => by first | rfl | (go_simp; done) | (go_simp; with_reducible rfl)⟩) (S5) ?_
        refine anyG_take (i := 7) (v := _) rfl (by kernel_rfl) (by kernel_rfl) (by kernel_rfl) (by kernel_rfl) rfl (by kernel_rfl) (fun j hj => by first | (simp at hj; done) | (simp at hj; simp; omega)) (fun _ _ _ h => h) (Or.inl ⟨by rfl, fun W1 hW1 => by first | rfl | (go_simp; done) | (go_simp; with_reducible rfl)⟩) (S5) ?_
        refine anyG_one (k := 8) (by kernel_rfl) rfl (by rfl) (fun Q2 hQ2 => ?_)
        have nG := new_at (S := S5) Try.zeroCells38 38
        obtain ⟨G, hG, bG, lG⟩ := nG
        go_wp2_with fail
        refine hQ2 _ _ (fun _ => S5.alloc S5.size _) ?_
        clear hQ2 Q2
        (try simp only [hG])
        clear hG
        have SG := S5.alloc S5.size (.cells Try.zeroCells38 38)
        refine anyG_one (k := 9) (by kernel_rfl) rfl (by rfl) (fun Q2 hQ2 => ?_); go_wp2_with (refine wpList_store_row rfl 38 (.tmp 11) _ rfl _ _ _ (bitsA _) rfl rfl (bG) (by first | (rw [bitsA_size, bitsA_size]; done) | (rw [bitsA_size]; kernel_rfl)) (info_num _) (bitsA_one _) ?_; intro uG huG hwG); refine hQ2 _ _ (fun _ => SG.trans (Only.below hwG lG SG.size)) ?_; clear hQ2 Q2
        have SsG := SG.trans (Only.below hwG lG SG.size)
        refine anyG_one (k := 10) (by kernel_rfl) rfl (by rfl) (fun Q2 hQ2 => ?_); go_wp2_with fail; refine hQ2 _ _ (fun _ => SsG) ?_; clear hQ2 Q2
        refine anyG_done (by kernel_rfl) ?_ _
        go_wp2
        have D0 := Lib.hid (B0.out.call SsG)
        have D1 := Lib.hid (B1.out.call SsG)
        have D2 := Lib.hid (B2.out.call SsG)
        have DG := Lib.hid (huG)
        have DB := Lib.hid (HB.out.trans (SsG.mono HB.out.size))
        refine wp_region_any (by kernel_rfl) ?_; change wpAny _ _ _ _ _ _ _ (World.drew uG); refine any_of_anyG (late := fun _ => false) (S := fun w1 => Below uG.heap.size uG w1) _ _ _ _ ?_
        have S0 := (Below.refl uG.heap.size uG).drew
        refine anyG_take (i := 0) (v := _) rfl (by kernel_rfl) (by kernel_rfl) (by kernel_rfl) (by kernel_rfl) rfl (by kernel_rfl) (fun j hj => by first | (simp at hj; done) | (simp at hj; simp; omega)) (fun _ _ _ h => h) (Or.inl ⟨by rfl, fun W1 hW1 => by first | rfl | (go_simp; done) | (go_simp; with_reducible rfl)⟩) (S0) ?_
        refine anyG_take (i := 1) (v := _) rfl (by kernel_rfl) (by kernel_rfl) (by kernel_rfl) (by kernel_rfl) rfl (by kernel_rfl) (fun j hj => by first | (simp at hj; done) | (simp at hj; simp; omega)) (fun _ _ _ h => h) (Or.inl ⟨by rfl, fun W1 hW1 => by first | rfl | (go_simp; done) | (go_simp; with_reducible rfl)⟩) (S0) ?_
        refine anyG_take (i := 3) (v := _) rfl (by kernel_rfl) (by kernel_rfl) (by kernel_rfl) (by kernel_rfl) rfl (by kernel_rfl) (fun j hj => by first | (simp at hj; done) | (simp at hj; simp; omega)) (fun _ _ _ h => h) (Or.inl ⟨by rfl, fun W1 hW1 => by first | rfl | (go_simp; done) | (go_simp; with_reducible rfl)⟩) (S0) ?_
        refine anyG_take (i := 4) (v := _) rfl (by kernel_rfl) (by kernel_rfl) (by kernel_rfl) (by kernel_rfl) rfl (by kernel_rfl) (fun j hj => by first | (simp at hj; done) | (simp at hj; simp; omega)) (fun _ _ _ h => h) (Or.inl ⟨by rfl, fun W1 hW1 => by first | rfl | (go_simp; done) | (go_simp; with_reducible rfl)⟩) (S0) ?_
        refine anyG_one (k := 2) (by kernel_rfl) rfl (by rfl) (fun Q2 hQ2 => ?_); go_wp2_with (go_at_call 46; refine (HC3.out _).mono ?_; rintro e v10 ⟨rfl, hb10⟩); refine hQ2 _ _ (fun _ => S0.trans (hb10.mono S0.size)) ?_; clear hQ2 Q2
        have S10 := S0.trans (hb10.mono S0.size)
        refine anyG_one (k := 5) (by kernel_rfl) rfl (by rfl) (fun Q2 hQ2 => ?_); go_wp2_with (go_at_call 21; refine (HC4.out _).mono ?_; rintro e v11 ⟨rfl, hb11⟩); refine hQ2 _ _ (fun _ => S10.trans (hb11.mono S10.size)) ?_; clear hQ2 Q2
        have S11 := S10.trans (hb11.mono S10.size)
        refine anyG_one (k := 6) (by kernel_rfl) rfl (by rfl) (fun Q2 hQ2 => ?_); go_wp2_with (go_at_call 32; refine (HC5.out _).mono ?_; rintro e v12 ⟨rfl, hb12⟩); refine hQ2 _ _ (fun _ => S11.trans (hb12.mono S11.size)) ?_; clear hQ2 Q2
        have S12 := S11.trans (hb12.mono S11.size)
        refine anyG_one (k := 7) (by kernel_rfl) rfl (by rfl) (fun Q2 hQ2 => ?_); go_wp2_with fail; refine hQ2 _ _ (fun _ => S12) ?_; clear hQ2 Q2
        refine anyG_take (i := 8) (v := _) rfl (by kernel_rfl) (by kernel_rfl) (by kernel_rfl) (by kernel_rfl) rfl (by kernel_rfl) (fun j hj => by first | (simp at hj; done) | (simp at hj; simp; omega)) (fun _ _ _ h => h) (Or.inl ⟨by rfl, fun W1 hW1 => by first | rfl | (go_simp; done) | (go_simp; with_reducible rfl)⟩) (S12) ?_
        refine anyG_one (k := 9) (by kernel_rfl) rfl (by rfl) (fun Q2 hQ2 => ?_); go_wp2_with fail; refine hQ2 _ _ (fun _ => S12) ?_; clear hQ2 Q2
        refine anyG_one (k := 10) (by kernel_rfl) rfl (by rfl) (fun Q2 hQ2 => ?_); go_wp2_with fail; refine hQ2 _ _ (fun _ => S12) ?_; clear hQ2 Q2
        refine anyG_one (k := 11) (by kernel_rfl) rfl (by rfl) (fun Q2 hQ2 => ?_); go_wp2_with fail; refine hQ2 _ _ (fun _ => S12) ?_; clear hQ2 Q2
        refine anyG_one (k := 12) (by kernel_rfl) rfl (by rfl) (fun Q2 hQ2 => ?_); go_wp2_with fail; refine hQ2 _ _ (fun _ => S12) ?_; clear hQ2 Q2
        refine anyG_take (i := 13) (v := _) rfl (by kernel_rfl) (by kernel_rfl) (by kernel_rfl) (by kernel_rfl) rfl (by kernel_rfl) (fun j hj => by first | (simp at hj; done) | (simp at hj; simp; omega)) (fun _ _ _ h => h) (Or.inl ⟨by rfl, fun W1 hW1 => exec_load (ty := 32) (x := .tmp 9) rfl rfl (run_loadAt_blk _ _ _ _ _ _ (D2.out.call hW1) Try.underlying32 rfl (by first | exact info_num _ | kernel_rfl))⟩) (S12) ?_
        refine anyG_take (i := 14) (v := _) rfl (by kernel_rfl) (by kernel_rfl) (by kernel_rfl) (by kernel_rfl) rfl (by kernel_rfl) (fun j hj => by first | (simp at hj; done) | (simp at hj; simp; omega)) (fun _ _ _ h => h) (Or.inl ⟨by rfl, fun W1 hW1 => exec_load (ty := 38) (x := .tmp 11) rfl rfl (run_loadAt_blk _ _ _ _ _ _ (DG.out.call hW1) Try.underlying38 rfl (by first | exact info_num _ | kernel_rfl))⟩) (S12) ?_
        refine anyG_one (k := 15) (by kernel_rfl) rfl (by rfl) (fun Q2 hQ2 => ?_); go_wp2_with (go_at_call 32; refine (HC6.out _).mono ?_; rintro e v13 ⟨rfl, hb13⟩); refine hQ2 _ _ (fun _ => S12.trans (hb13.mono S12.size)) ?_; clear hQ2 Q2
        have S13 := S12.trans (hb13.mono S12.size)
        refine anyG_one (k := 16) (by kernel_rfl) rfl (by rfl) (fun Q2 hQ2 => ?_); go_wp2_with fail; refine hQ2 _ _ (fun _ => S13) ?_; clear hQ2 Q2
        refine anyG_one (k := 17) (by kernel_rfl) rfl (by rfl) (fun Q2 hQ2 => ?_); go_wp2_with fail; refine hQ2 _ _ (fun _ => S13) ?_; clear hQ2 Q2
        refine anyG_take (i := 18) (v := _) rfl (by kernel_rfl) (by kernel_rfl) (by kernel_rfl) (by kernel_rfl) rfl (by kernel_rfl) (fun j hj => by first | (simp at hj; done) | (simp at hj; simp; omega)) (fun _ _ _ h => h) (Or.inl ⟨by rfl, fun W1 hW1 => exec_load (ty := 32) (x := .tmp 6) rfl rfl (run_loadAt_blk _ _ _ _ _ _ (D0.out.call hW1) Try.underlying32 rfl (by first | exact info_num _ | kernel_rfl))⟩) (S13) ?_
        refine anyG_take (i := 19) (v := _) rfl (by kernel_rfl) (by kernel_rfl) (by kernel_rfl) (by kernel_rfl) rfl (by kernel_rfl) (fun j hj => by first | (simp at hj; done) | (simp at hj; simp; omega)) (fun _ _ _ h => h) (Or.inl ⟨by rfl, fun W1 hW1 => exec_load (ty := 32) (x := .tmp 7) rfl rfl (run_loadAt_blk _ _ _ _ _ _ (D1.out.call hW1) Try.underlying32 rfl (by first | exact info_num _ | kernel_rfl))⟩) (S13) ?_
        refine anyG_take (i := 21) (v := _) rfl (by kernel_rfl) (by kernel_rfl) (by kernel_rfl) (by kernel_rfl) rfl (by kernel_rfl) (fun j hj => by first | (simp at hj; done) | (simp at hj; simp; omega)) (fun _ _ _ h => h) (Or.inl ⟨by rfl, fun W1 hW1 => exec_load (ty := 32) (x := .tmp 6) rfl rfl (run_loadAt_blk _ _ _ _ _ _ (D0.out.call hW1) Try.underlying32 rfl (by first | exact info_num _ | kernel_rfl))⟩) (S13) ?_
        refine anyG_take (i := 23) (v := _) rfl (by kernel_rfl) (by kernel_rfl) (by kernel_rfl) (by kernel_rfl) rfl (by kernel_rfl) (fun j hj => by first | (simp at hj; done) | (simp at hj; simp; omega)) (fun _ _ _ h => h) (Or.inl ⟨by rfl, fun W1 hW1 => exec_load (ty := 32) (x := .tmp 7) rfl rfl (run_loadAt_blk _ _ _ _ _ _ (D1.out.call hW1) Try.underlying32 rfl (by first | exact info_num _ | kernel_rfl))⟩) (S13) ?_
        refine anyG_one (k := 20) (by kernel_rfl) rfl (by rfl) (fun Q2 hQ2 => ?_); go_wp2_with (go_at_call 47; refine (wide_CmpN N M _).mono ?_; rintro e v14 ⟨rfl, hb14⟩); refine hQ2 _ _ (fun _ => S13.trans (hb14.mono S13.size)) ?_; clear hQ2 Q2
        have S14 := S13.trans (hb14.mono S13.size)
        refine anyG_one (k := 22) (by kernel_rfl) rfl (by rfl) (fun Q2 hQ2 => ?_); go_wp2_with (go_at_call 25; refine (law_numN N _ HN.out).mono ?_; rintro e v15 ⟨rfl, hb15⟩); refine hQ2 _ _ (fun _ => S14.trans (hb15.mono S14.size)) ?_; clear hQ2 Q2
        have S15 := S14.trans (hb15.mono S14.size)
        refine anyG_one (k := 24) (by kernel_rfl) rfl (by rfl) (fun Q2 hQ2 => ?_); go_wp2_with (go_at_call 25; refine (law_numN M _ HM.out).mono ?_; rintro e v16 ⟨rfl, hb16⟩); refine hQ2 _ _ (fun _ => S15.trans (hb16.mono S15.size)) ?_; clear hQ2 Q2
        have S16 := S15.trans (hb16.mono S15.size)
        refine anyG_one (k := 25) (by kernel_rfl) rfl (by rfl) (fun Q2 hQ2 => ?_); go_wp2_with (go_at_call 29; refine (num_Cmp N M _ HN.out HM.out).mono ?_; rintro e v17 ⟨rfl, hb17⟩); refine hQ2 _ _ (fun _ => S16.trans (hb17.mono S16.size)) ?_; clear hQ2 Q2
        have S17 := S16.trans (hb17.mono S16.size)
        refine anyG_one (k := 26) (by kernel_rfl) rfl (by rfl) (fun Q2 hQ2 => ?_); go_wp2_with fail; refine hQ2 _ _ (fun _ => S17) ?_; clear hQ2 Q2
        refine anyG_one (k := 27) (by kernel_rfl) rfl (by rfl) (fun Q2 hQ2 => ?_); go_wp2_with fail; refine hQ2 _ _ (fun _ => S17) ?_; clear hQ2 Q2
        refine anyG_one (k := 28) (by kernel_rfl) rfl (by rfl) (fun Q2 hQ2 => ?_); go_wp2_with fail; refine hQ2 _ _ (fun _ => S17) ?_; clear hQ2 Q2
        refine anyG_done (by kernel_rfl) ?_ _
        go_wp2
        go_ret
        exact ⟨rfl, DB.out.trans (S17.mono DB.out.size)⟩
      ·
        skip
        have nG := new_at (S := S4) Try.zeroCells38 38
        obtain ⟨G, hG, bG, lG⟩ := nG
        go_wp2_with fail
        refine hQ2 _ _ (fun _ => S4.alloc S4.size _) ?_
        clear hQ2 Q2
        (try simp only [hG])
        clear hG
        have SG := S4.alloc S4.size (.cells Try.zeroCells38 38)
        refine anyG_one (k := 4) (by kernel_rfl) rfl (by rfl) (fun Q2 hQ2 => ?_); go_wp2_with (go_at_call 24; refine (HC2.out _).mono ?_; rintro e v5 ⟨rfl, hb5⟩); refine hQ2 _ _ (fun _ => SG.trans (hb5.mono SG.size)) ?_; clear hQ2 Q2
        have S5 := SG.trans (hb5.mono SG.size)
        refine anyG_one (k := 5) (by kernel_rfl) rfl (by rfl) (fun Q2 hQ2 => ?_); go_wp2_with fail; refine hQ2 _ _ (fun _ => S5) ?_; clear hQ2 Q2
        refine anyG_take (i := 6) (v := _) rfl (by kernel_rfl) (by kernel_rfl) (by kernel_rfl) (by kernel_rfl) rfl (by kernel_rfl) (fun j hj => by first | (simp at hj; done) | (simp at hj; simp; omega)) (fun _ _ _ h => h) (Or.inl ⟨by rfl, fun W1 hW1 => by first | rfl | (go_simp; done) | (go_simp; with_reducible rfl)⟩) (S5) ?_
        refine anyG_take (i := 7) (v := _) rfl (by kernel_rfl) (by kernel_rfl) (by kernel_rfl) (by kernel_rfl) rfl (by kernel_rfl) (fun j hj => by first | (simp at hj; done) | (simp at hj; simp; omega)) (fun _ _ _ h => h) (Or.inl ⟨by rfl, fun W1 hW1 => by first | rfl | (go_simp; done) | (go_simp; with_reducible rfl)⟩) (S5) ?_
        refine anyG_one (k := 9) (by kernel_rfl) rfl (by rfl) (fun Q2 hQ2 => ?_); go_wp2_with (refine wpList_store_row rfl 38 (.tmp 11) _ rfl _ _ _ (bitsA _) rfl rfl ((bG).call hb5) (by first | (rw [bitsA_size, bitsA_size]; done) | (rw [bitsA_size]; kernel_rfl)) (info_num _) (bitsA_one _) ?_; intro uG huG hwG); refine hQ2 _ _ (fun _ => S5.trans (Only.below hwG lG S5.size)) ?_; clear hQ2 Q2
        have SsG := S5.trans (Only.below hwG lG S5.size)
        refine anyG_one (k := 10) (by kernel_rfl) rfl (by rfl) (fun Q2 hQ2 => ?_); go_wp2_with fail; refine hQ2 _ _ (fun _ => SsG) ?_; clear hQ2 Q2
        refine anyG_done (by kernel_rfl) ?_ _
        go_wp2
        have D0 := Lib.hid (B0.out.call SsG)
        have D1 := Lib.hid (B1.out.call SsG)
        have D2 := Lib.hid (B2.out.call SsG)
        have DG := Lib.hid (huG)
        have DB := Lib.hid (HB.out.trans (SsG.mono HB.out.size))
        refine wp_region_any (by kernel_rfl) ?_; change wpAny _ _ _ _ _ _ _ (World.drew uG); refine any_of_anyG (late := fun _ => false) (S := fun w1 => Below uG.heap.size uG w1) _ _ _ _ ?_
        have S0 := (Below.refl uG.heap.size uG).drew
        refine anyG_take (i := 0) (v := _) rfl (by kernel_rfl) (by kernel_rfl) (by kernel_rfl) (by kernel_rfl) rfl (by kernel_rfl) (fun j hj => by first | (simp at hj; done) | (simp at hj; simp; omega)) (fun _ _ _ h => h) (Or.inl ⟨by rfl, fun W1 hW1 => by first | rfl | (go_simp; done) | (go_simp; with_reducible rfl)⟩) (S0) ?_
        refine anyG_take (i := 1) (v := _) rfl (by kernel_rfl) (by kernel_rfl) (by kernel_rfl) (by kernel_rfl) rfl (by kernel_rfl) (fun j hj => by first | (simp at hj; done) | (simp at hj; simp; omega)) (fun _ _ _ h => h) (Or.inl ⟨by rfl, fun W1 hW1 => by first | rfl | (go_simp; done) | (go_simp; with_reducible rfl)⟩) (S0) ?_
        refine anyG_take (i := 3) (v := _) rfl (by kernel_rfl) (by kernel_rfl) (by kernel_rfl) (by kernel_rfl) rfl (by kernel_rfl) (fun j hj => by first | (simp at hj; done) | (simp at hj; simp; omega)) (fun _ _ _ h => h) (Or.inl ⟨by rfl, fun W1 hW1 => by first | rfl | (go_simp; done) | (go_simp; with_reducible rfl)⟩) (S0) ?_
        refine anyG_take (i := 4) (v := _) rfl (by kernel_rfl) (by kernel_rfl) (by kernel_rfl) (by kernel_rfl) rfl (by kernel_rfl) (fun j hj => by first | (simp at hj; done) | (simp at hj; simp; omega)) (fun _ _ _ h => h) (Or.inl ⟨by rfl, fun W1 hW1 => by first | rfl | (go_simp; done) | (go_simp; with_reducible rfl)⟩) (S0) ?_
        refine anyG_one (k := 2) (by kernel_rfl) rfl (by rfl) (fun Q2 hQ2 => ?_); go_wp2_with (go_at_call 46; refine (HC3.out _).mono ?_; rintro e v10 ⟨rfl, hb10⟩); refine hQ2 _ _ (fun _ => S0.trans (hb10.mono S0.size)) ?_; clear hQ2 Q2
        have S10 := S0.trans (hb10.mono S0.size)
        refine anyG_one (k := 5) (by kernel_rfl) rfl (by rfl) (fun Q2 hQ2 => ?_); go_wp2_with (go_at_call 21; refine (HC4.out _).mono ?_; rintro e v11 ⟨rfl, hb11⟩); refine hQ2 _ _ (fun _ => S10.trans (hb11.mono S10.size)) ?_; clear hQ2 Q2
        have S11 := S10.trans (hb11.mono S10.size)
        refine anyG_one (k := 6) (by kernel_rfl) rfl (by rfl) (fun Q2 hQ2 => ?_); go_wp2_with (go_at_call 32; refine (HC5.out _).mono ?_; rintro e v12 ⟨rfl, hb12⟩); refine hQ2 _ _ (fun _ => S11.trans (hb12.mono S11.size)) ?_; clear hQ2 Q2
        have S12 := S11.trans (hb12.mono S11.size)
        refine anyG_one (k := 7) (by kernel_rfl) rfl (by rfl) (fun Q2 hQ2 => ?_); go_wp2_with fail; refine hQ2 _ _ (fun _ => S12) ?_; clear hQ2 Q2
        refine anyG_take (i := 8) (v := _) rfl (by kernel_rfl) (by kernel_rfl) (by kernel_rfl) (by kernel_rfl) rfl (by kernel_rfl) (fun j hj => by first | (simp at hj; done) | (simp at hj; simp; omega)) (fun _ _ _ h => h) (Or.inl ⟨by rfl, fun W1 hW1 => by first | rfl | (go_simp; done) | (go_simp; with_reducible rfl)⟩) (S12) ?_
        refine anyG_one (k := 9) (by kernel_rfl) rfl (by rfl) (fun Q2 hQ2 => ?_); go_wp2_with fail; refine hQ2 _ _ (fun _ => S12) ?_; clear hQ2 Q2
        refine anyG_one (k := 10) (by kernel_rfl) rfl (by rfl) (fun Q2 hQ2 => ?_); go_wp2_with fail; refine hQ2 _ _ (fun _ => S12) ?_; clear hQ2 Q2
        refine anyG_one (k := 11) (by kernel_rfl) rfl (by rfl) (fun Q2 hQ2 => ?_); go_wp2_with fail; refine hQ2 _ _ (fun _ => S12) ?_; clear hQ2 Q2
        refine anyG_one (k := 12) (by kernel_rfl) rfl (by rfl) (fun Q2 hQ2 => ?_); go_wp2_with fail; refine hQ2 _ _ (fun _ => S12) ?_; clear hQ2 Q2
        refine anyG_take (i := 13) (v := _) rfl (by kernel_rfl) (by kernel_rfl) (by kernel_rfl) (by kernel_rfl) rfl (by kernel_rfl) (fun j hj => by first | (simp at hj; done) | (simp at hj; simp; omega)) (fun _ _ _ h => h) (Or.inl ⟨by rfl, fun W1 hW1 => exec_load (ty := 32) (x := .tmp 9) rfl rfl (run_loadAt_blk _ _ _ _ _ _ (D2.out.call hW1) Try.underlying32 rfl (by first | exact info_num _ | kernel_rfl))⟩) (S12) ?_
        refine anyG_take (i := 14) (v := _) rfl (by kernel_rfl) (by kernel_rfl) (by kernel_rfl) (by kernel_rfl) rfl (by kernel_rfl) (fun j hj => by first | (simp at hj; done) | (simp at hj; simp; omega)) (fun _ _ _ h => h) (Or.inl ⟨by rfl, fun W1 hW1 => exec_load (ty := 38) (x := .tmp 11) rfl rfl (run_loadAt_blk _ _ _ _ _ _ (DG.out.call hW1) Try.underlying38 rfl (by first | exact info_num _ | kernel_rfl))⟩) (S12) ?_
        refine anyG_one (k := 15) (by kernel_rfl) rfl (by rfl) (fun Q2 hQ2 => ?_); go_wp2_with (go_at_call 32; refine (HC6.out _).mono ?_; rintro e v13 ⟨rfl, hb13⟩); refine hQ2 _ _ (fun _ => S12.trans (hb13.mono S12.size)) ?_; clear hQ2 Q2
        have S13 := S12.trans (hb13.mono S12.size)
        refine anyG_one (k := 16) (by kernel_rfl) rfl (by rfl) (fun Q2 hQ2 => ?_); go_wp2_with fail; refine hQ2 _ _ (fun _ => S13) ?_; clear hQ2 Q2
        refine anyG_one (k := 17) (by kernel_rfl) rfl (by rfl) (fun Q2 hQ2 => ?_); go_wp2_with fail; refine hQ2 _ _ (fun _ => S13) ?_; clear hQ2 Q2
        refine anyG_take (i := 18) (v := _) rfl (by kernel_rfl) (by kernel_rfl) (by kernel_rfl) (by kernel_rfl) rfl (by kernel_rfl) (fun j hj => by first | (simp at hj; done) | (simp at hj; simp; omega)) (fun _ _ _ h => h) (Or.inl ⟨by rfl, fun W1 hW1 => exec_load (ty := 32) (x := .tmp 6) rfl rfl (run_loadAt_blk _ _ _ _ _ _ (D0.out.call hW1) Try.underlying32 rfl (by first | exact info_num _ | kernel_rfl))⟩) (S13) ?_
        refine anyG_take (i := 19) (v := _) rfl (by kernel_rfl) (by kernel_rfl) (by kernel_rfl) (by kernel_rfl) rfl (by kernel_rfl) (fun j hj => by first | (simp at hj; done) | (simp at hj; simp; omega)) (fun _ _ _ h => h) (Or.inl ⟨by rfl, fun W1 hW1 => exec_load (ty := 32) (x := .tmp 7) rfl rfl (run_loadAt_blk _ _ _ _ _ _ (D1.out.call hW1) Try.underlying32 rfl (by first | exact info_num _ | kernel_rfl))⟩) (S13) ?_
        refine anyG_take (i := 21) (v := _) rfl (by kernel_rfl) (by kernel_rfl) (by kernel_rfl) (by kernel_rfl) rfl (by kernel_rfl) (fun j hj => by first | (simp at hj; done) | (simp at hj; simp; omega)) (fun _ _ _ h => h) (Or.inl ⟨by rfl, fun W1 hW1 => exec_load (ty := 32) (x := .tmp 6) rfl rfl (run_loadAt_blk _ _ _ _ _ _ (D0.out.call hW1) Try.underlying32 rfl (by first | exact info_num _ | kernel_rfl))⟩) (S13) ?_
        refine anyG_take (i := 23) (v := _) rfl (by kernel_rfl) (by kernel_rfl) (by kernel_rfl) (by kernel_rfl) rfl (by kernel_rfl) (fun j hj => by first | (simp at hj; done) | (simp at hj; simp; omega)) (fun _ _ _ h => h) (Or.inl ⟨by rfl, fun W1 hW1 => exec_load (ty := 32) (x := .tmp 7) rfl rfl (run_loadAt_blk _ _ _ _ _ _ (D1.out.call hW1) Try.underlying32 rfl (by first | exact info_num _ | kernel_rfl))⟩) (S13) ?_
        refine anyG_one (k := 20) (by kernel_rfl) rfl (by rfl) (fun Q2 hQ2 => ?_); go_wp2_with (go_at_call 47; refine (wide_CmpN N M _).mono ?_; rintro e v14 ⟨rfl, hb14⟩); refine hQ2 _ _ (fun _ => S13.trans (hb14.mono S13.size)) ?_; clear hQ2 Q2
        have S14 := S13.trans (hb14.mono S13.size)
        refine anyG_one (k := 22) (by kernel_rfl) rfl (by rfl) (fun Q2 hQ2 => ?_); go_wp2_with (go_at_call 25; refine (law_numN N _ HN.out).mono ?_; rintro e v15 ⟨rfl, hb15⟩); refine hQ2 _ _ (fun _ => S14.trans (hb15.mono S14.size)) ?_; clear hQ2 Q2
        have S15 := S14.trans (hb15.mono S14.size)
        refine anyG_one (k := 24) (by kernel_rfl) rfl (by rfl) (fun Q2 hQ2 => ?_); go_wp2_with (go_at_call 25; refine (law_numN M _ HM.out).mono ?_; rintro e v16 ⟨rfl, hb16⟩); refine hQ2 _ _ (fun _ => S15.trans (hb16.mono S15.size)) ?_; clear hQ2 Q2
        have S16 := S15.trans (hb16.mono S15.size)
        refine anyG_one (k := 25) (by kernel_rfl) rfl (by rfl) (fun Q2 hQ2 => ?_); go_wp2_with (go_at_call 29; refine (num_Cmp N M _ HN.out HM.out).mono ?_; rintro e v17 ⟨rfl, hb17⟩); refine hQ2 _ _ (fun _ => S16.trans (hb17.mono S16.size)) ?_; clear hQ2 Q2
        have S17 := S16.trans (hb17.mono S16.size)
        refine anyG_one (k := 26) (by kernel_rfl) rfl (by rfl) (fun Q2 hQ2 => ?_); go_wp2_with fail; refine hQ2 _ _ (fun _ => S17) ?_; clear hQ2 Q2
        refine anyG_one (k := 27) (by kernel_rfl) rfl (by rfl) (fun Q2 hQ2 => ?_); go_wp2_with fail; refine hQ2 _ _ (fun _ => S17) ?_; clear hQ2 Q2
        refine anyG_one (k := 28) (by kernel_rfl) rfl (by rfl) (fun Q2 hQ2 => ?_); go_wp2_with fail; refine hQ2 _ _ (fun _ => S17) ?_; clear hQ2 Q2
        refine anyG_done (by kernel_rfl) ?_ _
        go_wp2
        go_ret
        exact ⟨rfl, DB.out.trans (S17.mono DB.out.size)⟩
    ·
      skip
      have nG := new_at (S := S3) Try.zeroCells38 38
      obtain ⟨G, hG, bG, lG⟩ := nG
      go_wp2_with fail
      refine hQ2 _ _ (fun _ => S3.alloc S3.size _) ?_
      clear hQ2 Q2
      (try simp only [hG])
      clear hG
      have SG := S3.alloc S3.size (.cells Try.zeroCells38 38)
      refine anyG_one (k := 3) (by kernel_rfl) rfl (by rfl) (fun Q2 hQ2 => ?_); go_wp2_with (go_at_call 25; refine (law_numN M _ HM.out).mono ?_; rintro e v4 ⟨rfl, hb4⟩); refine hQ2 _ _ (fun _ => SG.trans (hb4.mono SG.size)) ?_; clear hQ2 Q2
      have S4 := SG.trans (hb4.mono SG.size)
      refine anyG_one (k := 4) (by kernel_rfl) rfl (by rfl) (fun Q2 hQ2 => ?_); go_wp2_with (go_at_call 24; refine (HC2.out _).mono ?_; rintro e v5 ⟨rfl, hb5⟩); refine hQ2 _ _ (fun _ => S4.trans (hb5.mono S4.size)) ?_; clear hQ2 Q2
      have S5 := S4.trans (hb5.mono S4.size)
      refine anyG_one (k := 5) (by kernel_rfl) rfl (by rfl) (fun Q2 hQ2 => ?_); go_wp2_with fail; refine hQ2 _ _ (fun _ => S5) ?_; clear hQ2 Q2
      refine anyG_take (i := 6) (v := _) rfl (by kernel_rfl) (by kernel_rfl) (by kernel_rfl) (by kernel_rfl) rfl (by kernel_rfl) (fun j hj => by first | (simp at hj; done) | (simp at hj; simp; omega)) (fun _ _ _ h => h) (Or.inl ⟨by rfl, fun W1 hW1 => by first | rfl | (go_simp; done) | (go_simp; with_reducible rfl)⟩) (S5) ?_
      refine anyG_take (i := 7) (v := _) rfl (by kernel_rfl) (by kernel_rfl) (by kernel_rfl) (by kernel_rfl) rfl (by kernel_rfl) (fun j hj => by first | (simp at hj; done) | (simp at hj; simp; omega)) (fun _ _ _ h => h) (Or.inl ⟨by rfl, fun W1 hW1 => by first | rfl | (go_simp; done) | (go_simp; with_reducible rfl)⟩) (S5) ?_
      refine anyG_one (k := 9) (by kernel_rfl) rfl (by rfl) (fun Q2 hQ2 => ?_); go_wp2_with (refine wpList_store_row rfl 38 (.tmp 11) _ rfl _ _ _ (bitsA _) rfl rfl (((bG).call hb4).call hb5) (by first | (rw [bitsA_size, bitsA_size]; done) | (rw [bitsA_size]; kernel_rfl)) (info_num _) (bitsA_one _) ?_; intro uG huG hwG); refine hQ2 _ _ (fun _ => S5.trans (Only.below hwG lG S5.size)) ?_; clear hQ2 Q2
      have SsG := S5.trans (Only.below hwG lG S5.size)
      refine anyG_one (k := 10) (by kernel_rfl) rfl (by rfl) (fun Q2 hQ2 => ?_); go_wp2_with fail; refine hQ2 _ _ (fun _ => SsG) ?_; clear hQ2 Q2
      refine anyG_done (by kernel_rfl) ?_ _
      go_wp2
      have D0 := Lib.hid (B0.out.call SsG)
      have D1 := Lib.hid (B1.out.call SsG)
      have D2 := Lib.hid (B2.out.call SsG)
      have DG := Lib.hid (huG)
      have DB := Lib.hid (HB.out.trans (SsG.mono HB.out.size))
      refine wp_region_any (by kernel_rfl) ?_; change wpAny _ _ _ _ _ _ _ (World.drew uG); refine any_of_anyG (late := fun _ => false) (S := fun w1 => Below uG.heap.size uG w1) _ _ _ _ ?_
      have S0 := (Below.refl uG.heap.size uG).drew
      refine anyG_take (i := 0) (v := _) rfl (by kernel_rfl) (by kernel_rfl) (by kernel_rfl) (by kernel_rfl) rfl (by kernel_rfl) (fun j hj => by first | (simp at hj; done) | (simp at hj; simp; omega)) (fun _ _ _ h => h) (Or.inl ⟨by rfl, fun W1 hW1 => by first | rfl | (go_simp; done) | (go_simp; with_reducible rfl)⟩) (S0) ?_
      refine anyG_take (i := 1) (v := _) rfl (by kernel_rfl) (by kernel_rfl) (by kernel_rfl) (by kernel_rfl) rfl (by kernel_rfl) (fun j hj => by first | (simp at hj; done) | (simp at hj; simp; omega)) (fun _ _ _ h => h) (Or.inl ⟨by rfl, fun W1 hW1 => by first | rfl | (go_simp; done) | (go_simp; with_reducible rfl)⟩) (S0) ?_
      refine anyG_take (i := 3) (v := _) rfl (by kernel_rfl) (by kernel_rfl) (by kernel_rfl) (by kernel_rfl) rfl (by kernel_rfl) (fun j hj => by first | (simp at hj; done) | (simp at hj; simp; omega)) (fun _ _ _ h => h) (Or.inl ⟨by rfl, fun W1 hW1 => by first | rfl | (go_simp; done) | (go_simp; with_reducible rfl)⟩) (S0) ?_
      refine anyG_take (i := 4) (v := _) rfl (by kernel_rfl) (by kernel_rfl) (by kernel_rfl) (by kernel_rfl) rfl (by kernel_rfl) (fun j hj => by first | (simp at hj; done) | (simp at hj; simp; omega)) (fun _ _ _ h => h) (Or.inl ⟨by rfl, fun W1 hW1 => by first | rfl | (go_simp; done) | (go_simp; with_reducible rfl)⟩) (S0) ?_
      refine anyG_one (k := 2) (by kernel_rfl) rfl (by rfl) (fun Q2 hQ2 => ?_); go_wp2_with (go_at_call 46; refine (HC3.out _).mono ?_; rintro e v10 ⟨rfl, hb10⟩); refine hQ2 _ _ (fun _ => S0.trans (hb10.mono S0.size)) ?_; clear hQ2 Q2
      have S10 := S0.trans (hb10.mono S0.size)
      refine anyG_one (k := 5) (by kernel_rfl) rfl (by rfl) (fun Q2 hQ2 => ?_); go_wp2_with (go_at_call 21; refine (HC4.out _).mono ?_; rintro e v11 ⟨rfl, hb11⟩); refine hQ2 _ _ (fun _ => S10.trans (hb11.mono S10.size)) ?_; clear hQ2 Q2
      have S11 := S10.trans (hb11.mono S10.size)
      refine anyG_one (k := 6) (by kernel_rfl) rfl (by rfl) (fun Q2 hQ2 => ?_); go_wp2_with (go_at_call 32; refine (HC5.out _).mono ?_; rintro e v12 ⟨rfl, hb12⟩); refine hQ2 _ _ (fun _ => S11.trans (hb12.mono S11.size)) ?_; clear hQ2 Q2
      have S12 := S11.trans (hb12.mono S11.size)
      refine anyG_one (k := 7) (by kernel_rfl) rfl (by rfl) (fun Q2 hQ2 => ?_); go_wp2_with fail; refine hQ2 _ _ (fun _ => S12) ?_; clear hQ2 Q2
      refine anyG_take (i := 8) (v := _) rfl (by kernel_rfl) (by kernel_rfl) (by kernel_rfl) (by kernel_rfl) rfl (by kernel_rfl) (fun j hj => by first | (simp at hj; done) | (simp at hj; simp; omega)) (fun _ _ _ h => h) (Or.inl ⟨by rfl, fun W1 hW1 => by first | rfl | (go_simp; done) | (go_simp; with_reducible rfl)⟩) (S12) ?_
      refine anyG_one (k := 9) (by kernel_rfl) rfl (by rfl) (fun Q2 hQ2 => ?_); go_wp2_with fail; refine hQ2 _ _ (fun _ => S12) ?_; clear hQ2 Q2
      refine anyG_one (k := 10) (by kernel_rfl) rfl (by rfl) (fun Q2 hQ2 => ?_); go_wp2_with fail; refine hQ2 _ _ (fun _ => S12) ?_; clear hQ2 Q2
      refine anyG_one (k := 11) (by kernel_rfl) rfl (by rfl) (fun Q2 hQ2 => ?_); go_wp2_with fail; refine hQ2 _ _ (fun _ => S12) ?_; clear hQ2 Q2
      refine anyG_one (k := 12) (by kernel_rfl) rfl (by rfl) (fun Q2 hQ2 => ?_); go_wp2_with fail; refine hQ2 _ _ (fun _ => S12) ?_; clear hQ2 Q2
      refine anyG_take (i := 13) (v := _) rfl (by kernel_rfl) (by kernel_rfl) (by kernel_rfl) (by kernel_rfl) rfl (by kernel_rfl) (fun j hj => by first | (simp at hj; done) | (simp at hj; simp; omega)) (fun _ _ _ h => h) (Or.inl ⟨by rfl, fun W1 hW1 => exec_load (ty := 32) (x := .tmp 9) rfl rfl (run_loadAt_blk _ _ _ _ _ _ (D2.out.call hW1) Try.underlying32 rfl (by first | exact info_num _ | kernel_rfl))⟩) (S12) ?_
      refine anyG_take (i := 14) (v := _) rfl (by kernel_rfl) (by kernel_rfl) (by kernel_rfl) (by kernel_rfl) rfl (by kernel_rfl) (fun j hj => by first | (simp at hj; done) | (simp at hj; simp; omega)) (fun _ _ _ h => h) (Or.inl ⟨by rfl, fun W1 hW1 => exec_load (ty := 38) (x := .tmp 11) rfl rfl (run_loadAt_blk _ _ _ _ _ _ (DG.out.call hW1) Try.underlying38 rfl (by first | exact info_num _ | kernel_rfl))⟩) (S12) ?_
      refine anyG_one (k := 15) (by kernel_rfl) rfl (by rfl) (fun Q2 hQ2 => ?_); go_wp2_with (go_at_call 32; refine (HC6.out _).mono ?_; rintro e v13 ⟨rfl, hb13⟩); refine hQ2 _ _ (fun _ => S12.trans (hb13.mono S12.size)) ?_; clear hQ2 Q2
      have S13 := S12.trans (hb13.mono S12.size)
      refine anyG_one (k := 16) (by kernel_rfl) rfl (by rfl) (fun Q2 hQ2 => ?_); go_wp2_with fail; refine hQ2 _ _ (fun _ => S13) ?_; clear hQ2 Q2
      refine anyG_one (k := 17) (by kernel_rfl) rfl (by rfl) (fun Q2 hQ2 => ?_); go_wp2_with fail; refine hQ2 _ _ (fun _ => S13) ?_; clear hQ2 Q2
      refine anyG_take (i := 18) (v := _) rfl (by kernel_rfl) (by kernel_rfl) (by kernel_rfl) (by kernel_rfl) rfl (by kernel_rfl) (fun j hj => by first | (simp at hj; done) | (simp at hj; simp; omega)) (fun _ _ _ h => h) (Or.inl ⟨by rfl, fun W1 hW1 => exec_load (ty := 32) (x := .tmp 6) rfl rfl (run_loadAt_blk _ _ _ _ _ _ (D0.out.call hW1) Try.underlying32 rfl (by first | exact info_num _ | kernel_rfl))⟩) (S13) ?_
      refine anyG_take (i := 19) (v := _) rfl (by kernel_rfl) (by kernel_rfl) (by kernel_rfl) (by kernel_rfl) rfl (by kernel_rfl) (fun j hj => by first | (simp at hj; done) | (simp at hj; simp; omega)) (fun _ _ _ h => h) (Or.inl ⟨by rfl, fun W1 hW1 => exec_load (ty := 32) (x := .tmp 7) rfl rfl (run_loadAt_blk _ _ _ _ _ _ (D1.out.call hW1) Try.underlying32 rfl (by first | exact info_num _ | kernel_rfl))⟩) (S13) ?_
      refine anyG_take (i := 21) (v := _) rfl (by kernel_rfl) (by kernel_rfl) (by kernel_rfl) (by kernel_rfl) rfl (by kernel_rfl) (fun j hj => by first | (simp at hj; done) | (simp at hj; simp; omega)) (fun _ _ _ h => h) (Or.inl ⟨by rfl, fun W1 hW1 => exec_load (ty := 32) (x := .tmp 6) rfl rfl (run_loadAt_blk _ _ _ _ _ _ (D0.out.call hW1) Try.underlying32 rfl (by first | exact info_num _ | kernel_rfl))⟩) (S13) ?_
      refine anyG_take (i := 23) (v := _) rfl (by kernel_rfl) (by kernel_rfl) (by kernel_rfl) (by kernel_rfl) rfl (by kernel_rfl) (fun j hj => by first | (simp at hj; done) | (simp at hj; simp; omega)) (fun _ _ _ h => h) (Or.inl ⟨by rfl, fun W1 hW1 => exec_load (ty := 32) (x := .tmp 7) rfl rfl (run_loadAt_blk _ _ _ _ _ _ (D1.out.call hW1) Try.underlying32 rfl (by first | exact info_num _ | kernel_rfl))⟩) (S13) ?_
      refine anyG_one (k := 20) (by kernel_rfl) rfl (by rfl) (fun Q2 hQ2 => ?_); go_wp2_with (go_at_call 47; refine (wide_CmpN N M _).mono ?_; rintro e v14 ⟨rfl, hb14⟩); refine hQ2 _ _ (fun _ => S13.trans (hb14.mono S13.size)) ?_; clear hQ2 Q2
      have S14 := S13.trans (hb14.mono S13.size)
      refine anyG_one (k := 22) (by kernel_rfl) rfl (by rfl) (fun Q2 hQ2 => ?_); go_wp2_with (go_at_call 25; refine (law_numN N _ HN.out).mono ?_; rintro e v15 ⟨rfl, hb15⟩); refine hQ2 _ _ (fun _ => S14.trans (hb15.mono S14.size)) ?_; clear hQ2 Q2
      have S15 := S14.trans (hb15.mono S14.size)
      refine anyG_one (k := 24) (by kernel_rfl) rfl (by rfl) (fun Q2 hQ2 => ?_); go_wp2_with (go_at_call 25; refine (law_numN M _ HM.out).mono ?_; rintro e v16 ⟨rfl, hb16⟩); refine hQ2 _ _ (fun _ => S15.trans (hb16.mono S15.size)) ?_; clear hQ2 Q2
      have S16 := S15.trans (hb16.mono S15.size)
      refine anyG_one (k := 25) (by kernel_rfl) rfl (by rfl) (fun Q2 hQ2 => ?_); go_wp2_with (go_at_call 29; refine (num_Cmp N M _ HN.out HM.out).mono ?_; rintro e v17 ⟨rfl, hb17⟩); refine hQ2 _ _ (fun _ => S16.trans (hb17.mono S16.size)) ?_; clear hQ2 Q2
      have S17 := S16.trans (hb17.mono S16.size)
      refine anyG_one (k := 26) (by kernel_rfl) rfl (by rfl) (fun Q2 hQ2 => ?_); go_wp2_with fail; refine hQ2 _ _ (fun _ => S17) ?_; clear hQ2 Q2
      refine anyG_one (k := 27) (by kernel_rfl) rfl (by rfl) (fun Q2 hQ2 => ?_); go_wp2_with fail; refine hQ2 _ _ (fun _ => S17) ?_; clear hQ2 Q2
      refine anyG_one (k := 28) (by kernel_rfl) rfl (by rfl) (fun Q2 hQ2 => ?_); go_wp2_with fail; refine hQ2 _ _ (fun _ => S17) ?_; clear hQ2 Q2
      refine anyG_done (by kernel_rfl) ?_ _
      go_wp2
      go_ret
      exact ⟨rfl, DB.out.trans (S17.mono DB.out.size)⟩
  ·
    skip
    have nG := new_at (S := S0) Try.zeroCells38 38
    obtain ⟨G, hG, bG, lG⟩ := nG
    go_wp2_with fail
    refine hQ2 _ _ (fun _ => S0.alloc S0.size _) ?_
    clear hQ2 Q2
    (try simp only [hG])
    clear hG
    have SG := S0.alloc S0.size (.cells Try.zeroCells38 38)
    refine anyG_one (k := 1) (by kernel_rfl) rfl (by rfl) (fun Q2 hQ2 => ?_); go_wp2_with (go_at_call 25; refine (law_numN N _ HN.out).mono ?_; rintro e v3 ⟨rfl, hb3⟩); refine hQ2 _ _ (fun _ => SG.trans (hb3.mono SG.size)) ?_; clear hQ2 Q2
    have S3 := SG.trans (hb3.mono SG.size)
    refine anyG_one (k := 3) (by kernel_rfl) rfl (by rfl) (fun Q2 hQ2 => ?_); go_wp2_with (go_at_call 25; refine (law_numN M _ HM.out).mono ?_; rintro e v4 ⟨rfl, hb4⟩); refine hQ2 _ _ (fun _ => S3.trans (hb4.mono S3.size)) ?_; clear hQ2 Q2
    have S4 := S3.trans (hb4.mono S3.size)
    refine anyG_one (k := 4) (by kernel_rfl) rfl (by rfl) (fun Q2 hQ2 => ?_); go_wp2_with (go_at_call 24; refine (HC2.out _).mono ?_; rintro e v5 ⟨rfl, hb5⟩); refine hQ2 _ _ (fun _ => S4.trans (hb5.mono S4.size)) ?_; clear hQ2 Q2
    have S5 := S4.trans (hb5.mono S4.size)
    refine anyG_one (k := 5) (by kernel_rfl) rfl (by rfl) (fun Q2 hQ2 => ?_); go_wp2_with fail; refine hQ2 _ _ (fun _ => S5) ?_; clear hQ2 Q2
    refine anyG_take (i := 6) (v := _) rfl (by kernel_rfl) (by kernel_rfl) (by kernel_rfl) (by kernel_rfl) rfl (by kernel_rfl) (fun j hj => by first | (simp at hj; done) | (simp at hj; simp; omega)) (fun _ _ _ h => h) (Or.inl ⟨by rfl, fun W1 hW1 => by first | rfl | (go_simp; done) | (go_simp; with_reducible rfl)⟩) (S5) ?_
    refine anyG_take (i := 7) (v := _) rfl (by kernel_rfl) (by kernel_rfl) (by kernel_rfl) (by kernel_rfl) rfl (by kernel_rfl) (fun j hj => by first | (simp at hj; done) | (simp at hj; simp; omega)) (fun _ _ _ h => h) (Or.inl ⟨by rfl, fun W1 hW1 => by first | rfl | (go_simp; done) | (go_simp; with_reducible rfl)⟩) (S5) ?_
    refine anyG_one (k := 9) (by kernel_rfl) rfl (by rfl) (fun Q2 hQ2 => ?_); go_wp2_with (refine wpList_store_row rfl 38 (.tmp 11) _ rfl _ _ _ (bitsA _) rfl rfl ((((bG).call hb3).call hb4).call hb5) (by first | (rw [bitsA_size, bitsA_size]; done) | (rw [bitsA_size]; kernel_rfl)) (info_num _) (bitsA_one _) ?_; intro uG huG hwG); refine hQ2 _ _ (fun _ => S5.trans (Only.below hwG lG S5.size)) ?_; clear hQ2 Q2
    have SsG := S5.trans (Only.below hwG lG S5.size)
    refine anyG_one (k := 10) (by kernel_rfl) rfl (by rfl) (fun Q2 hQ2 => ?_); go_wp2_with fail; refine hQ2 _ _ (fun _ => SsG) ?_; clear hQ2 Q2
    refine anyG_done (by kernel_rfl) ?_ _
    go_wp2
    have D0 := Lib.hid (B0.out.call SsG)
    have D1 := Lib.hid (B1.out.call SsG)
    have D2 := Lib.hid (B2.out.call SsG)
    have DG := Lib.hid (huG)
    have DB := Lib.hid (HB.out.trans (SsG.mono HB.out.size))
    refine wp_region_any (by kernel_rfl) ?_; change wpAny _ _ _ _ _ _ _ (World.drew uG); refine any_of_anyG (late := fun _ => false) (S := fun w1 => Below uG.heap.size uG w1) _ _ _ _ ?_
    have S0 := (Below.refl uG.heap.size uG).drew
    refine anyG_take (i := 0) (v := _) rfl (by kernel_rfl) (by kernel_rfl) (by kernel_rfl) (by kernel_rfl) rfl (by kernel_rfl) (fun j hj => by first | (simp at hj; done) | (simp at hj; simp; omega)) (fun _ _ _ h => h) (Or.inl ⟨by rfl, fun W1 hW1 => by first | rfl | (go_simp; done) | (go_simp; with_reducible rfl)⟩) (S0) ?_
    refine anyG_take (i := 1) (v := _) rfl (by kernel_rfl) (by kernel_rfl) (by kernel_rfl) (by kernel_rfl) rfl (by kernel_rfl) (fun j hj => by first | (simp at hj; done) | (simp at hj; simp; omega)) (fun _ _ _ h => h) (Or.inl ⟨by rfl, fun W1 hW1 => by first | rfl | (go_simp; done) | (go_simp; with_reducible rfl)⟩) (S0) ?_
    refine anyG_take (i := 3) (v := _) rfl (by kernel_rfl) (by kernel_rfl) (by kernel_rfl) (by kernel_rfl) rfl (by kernel_rfl) (fun j hj => by first | (simp at hj; done) | (simp at hj; simp; omega)) (fun _ _ _ h => h) (Or.inl ⟨by rfl, fun W1 hW1 => by first | rfl | (go_simp; done) | (go_simp; with_reducible rfl)⟩) (S0) ?_
    refine anyG_take (i := 4) (v := _) rfl (by kernel_rfl) (by kernel_rfl) (by kernel_rfl) (by kernel_rfl) rfl (by kernel_rfl) (fun j hj => by first | (simp at hj; done) | (simp at hj; simp; omega)) (fun _ _ _ h => h) (Or.inl ⟨by rfl, fun W1 hW1 => by first | rfl | (go_simp; done) | (go_simp; with_reducible rfl)⟩) (S0) ?_
    refine anyG_one (k := 2) (by kernel_rfl) rfl (by rfl) (fun Q2 hQ2 => ?_); go_wp2_with (go_at_call 46; refine (HC3.out _).mono ?_; rintro e v10 ⟨rfl, hb10⟩); refine hQ2 _ _ (fun _ => S0.trans (hb10.mono S0.size)) ?_; clear hQ2 Q2
    have S10 := S0.trans (hb10.mono S0.size)
    refine anyG_one (k := 5) (by kernel_rfl) rfl (by rfl) (fun Q2 hQ2 => ?_); go_wp2_with (go_at_call 21; refine (HC4.out _).mono ?_; rintro e v11 ⟨rfl, hb11⟩); refine hQ2 _ _ (fun _ => S10.trans (hb11.mono S10.size)) ?_; clear hQ2 Q2
    have S11 := S10.trans (hb11.mono S10.size)
    refine anyG_one (k := 6) (by kernel_rfl) rfl (by rfl) (fun Q2 hQ2 => ?_); go_wp2_with (go_at_call 32; refine (HC5.out _).mono ?_; rintro e v12 ⟨rfl, hb12⟩); refine hQ2 _ _ (fun _ => S11.trans (hb12.mono S11.size)) ?_; clear hQ2 Q2
    have S12 := S11.trans (hb12.mono S11.size)
    refine anyG_one (k := 7) (by kernel_rfl) rfl (by rfl) (fun Q2 hQ2 => ?_); go_wp2_with fail; refine hQ2 _ _ (fun _ => S12) ?_; clear hQ2 Q2
    refine anyG_take (i := 8) (v := _) rfl (by kernel_rfl) (by kernel_rfl) (by kernel_rfl) (by kernel_rfl) rfl (by kernel_rfl) (fun j hj => by first | (simp at hj; done) | (simp at hj; simp; omega)) (fun _ _ _ h => h) (Or.inl ⟨by rfl, fun W1 hW1 => by first | rfl | (go_simp; done) | (go_simp; with_reducible rfl)⟩) (S12) ?_
    refine anyG_one (k := 9) (by kernel_rfl) rfl (by rfl) (fun Q2 hQ2 => ?_); go_wp2_with fail; refine hQ2 _ _ (fun _ => S12) ?_; clear hQ2 Q2
    refine anyG_one (k := 10) (by kernel_rfl) rfl (by rfl) (fun Q2 hQ2 => ?_); go_wp2_with fail; refine hQ2 _ _ (fun _ => S12) ?_; clear hQ2 Q2
    refine anyG_one (k := 11) (by kernel_rfl) rfl (by rfl) (fun Q2 hQ2 => ?_); go_wp2_with fail; refine hQ2 _ _ (fun _ => S12) ?_; clear hQ2 Q2
    refine anyG_one (k := 12) (by kernel_rfl) rfl (by rfl) (fun Q2 hQ2 => ?_); go_wp2_with fail; refine hQ2 _ _ (fun _ => S12) ?_; clear hQ2 Q2
    refine anyG_take (i := 13) (v := _) rfl (by kernel_rfl) (by kernel_rfl) (by kernel_rfl) (by kernel_rfl) rfl (by kernel_rfl) (fun j hj => by first | (simp at hj; done) | (simp at hj; simp; omega)) (fun _ _ _ h => h) (Or.inl ⟨by rfl, fun W1 hW1 => exec_load (ty := 32) (x := .tmp 9) rfl rfl (run_loadAt_blk _ _ _ _ _ _ (D2.out.call hW1) Try.underlying32 rfl (by first | exact info_num _ | kernel_rfl))⟩) (S12) ?_
    refine anyG_take (i := 14) (v := _) rfl (by kernel_rfl) (by kernel_rfl) (by kernel_rfl) (by kernel_rfl) rfl (by kernel_rfl) (fun j hj => by first | (simp at hj; done) | (simp at hj; simp; omega)) (fun _ _ _ h => h) (Or.inl ⟨by rfl, fun W1 hW1 => exec_load (ty := 38) (x := .tmp 11) rfl rfl (run_loadAt_blk _ _ _ _ _ _ (DG.out.call hW1) Try.underlying38 rfl (by first | exact info_num _ | kernel_rfl))⟩) (S12) ?_
    refine anyG_one (k := 15) (by kernel_rfl) rfl (by rfl) (fun Q2 hQ2 => ?_); go_wp2_with (go_at_call 32; refine (HC6.out _).mono ?_; rintro e v13 ⟨rfl, hb13⟩); refine hQ2 _ _ (fun _ => S12.trans (hb13.mono S12.size)) ?_; clear hQ2 Q2
    have S13 := S12.trans (hb13.mono S12.size)
    refine anyG_one (k := 16) (by kernel_rfl) rfl (by rfl) (fun Q2 hQ2 => ?_); go_wp2_with fail; refine hQ2 _ _ (fun _ => S13) ?_; clear hQ2 Q2
    refine anyG_one (k := 17) (by kernel_rfl) rfl (by rfl) (fun Q2 hQ2 => ?_); go_wp2_with fail; refine hQ2 _ _ (fun _ => S13) ?_; clear hQ2 Q2
    refine anyG_take (i := 18) (v := _) rfl (by kernel_rfl) (by kernel_rfl) (by kernel_rfl) (by kernel_rfl) rfl (by kernel_rfl) (fun j hj => by first | (simp at hj; done) | (simp at hj; simp; omega)) (fun _ _ _ h => h) (Or.inl ⟨by rfl, fun W1 hW1 => exec_load (ty := 32) (x := .tmp 6) rfl rfl (run_loadAt_blk _ _ _ _ _ _ (D0.out.call hW1) Try.underlying32 rfl (by first | exact info_num _ | kernel_rfl))⟩) (S13) ?_
    refine anyG_take (i := 19) (v := _) rfl (by kernel_rfl) (by kernel_rfl) (by kernel_rfl) (by kernel_rfl) rfl (by kernel_rfl) (fun j hj => by first | (simp at hj; done) | (simp at hj; simp; omega)) (fun _ _ _ h => h) (Or.inl ⟨by rfl, fun W1 hW1 => exec_load (ty := 32) (x := .tmp 7) rfl rfl (run_loadAt_blk _ _ _ _ _ _ (D1.out.call hW1) Try.underlying32 rfl (by first | exact info_num _ | kernel_rfl))⟩) (S13) ?_
    refine anyG_take (i := 21) (v := _) rfl (by kernel_rfl) (by kernel_rfl) (by kernel_rfl) (by kernel_rfl) rfl (by kernel_rfl) (fun j hj => by first | (simp at hj; done) | (simp at hj; simp; omega)) (fun _ _ _ h => h) (Or.inl ⟨by rfl, fun W1 hW1 => exec_load (ty := 32) (x := .tmp 6) rfl rfl (run_loadAt_blk _ _ _ _ _ _ (D0.out.call hW1) Try.underlying32 rfl (by first | exact info_num _ | kernel_rfl))⟩) (S13) ?_
    refine anyG_take (i := 23) (v := _) rfl (by kernel_rfl) (by kernel_rfl) (by kernel_rfl) (by kernel_rfl) rfl (by kernel_rfl) (fun j hj => by first | (simp at hj; done) | (simp at hj; simp; omega)) (fun _ _ _ h => h) (Or.inl ⟨by rfl, fun W1 hW1 => exec_load (ty := 32) (x := .tmp 7) rfl rfl (run_loadAt_blk _ _ _ _ _ _ (D1.out.call hW1) Try.underlying32 rfl (by first | exact info_num _ | kernel_rfl))⟩) (S13) ?_
    refine anyG_one (k := 20) (by kernel_rfl) rfl (by rfl) (fun Q2 hQ2 => ?_); go_wp2_with (go_at_call 47; refine (wide_CmpN N M _).mono ?_; rintro e v14 ⟨rfl, hb14⟩); refine hQ2 _ _ (fun _ => S13.trans (hb14.mono S13.size)) ?_; clear hQ2 Q2
    have S14 := S13.trans (hb14.mono S13.size)
    refine anyG_one (k := 22) (by kernel_rfl) rfl (by rfl) (fun Q2 hQ2 => ?_); go_wp2_with (go_at_call 25; refine (law_numN N _ HN.out).mono ?_; rintro e v15 ⟨rfl, hb15⟩); refine hQ2 _ _ (fun _ => S14.trans (hb15.mono S14.size)) ?_; clear hQ2 Q2
    have S15 := S14.trans (hb15.mono S14.size)
    refine anyG_one (k := 24) (by kernel_rfl) rfl (by rfl) (fun Q2 hQ2 => ?_); go_wp2_with (go_at_call 25; refine (law_numN M _ HM.out).mono ?_; rintro e v16 ⟨rfl, hb16⟩); refine hQ2 _ _ (fun _ => S15.trans (hb16.mono S15.size)) ?_; clear hQ2 Q2
    have S16 := S15.trans (hb16.mono S15.size)
    refine anyG_one (k := 25) (by kernel_rfl) rfl (by rfl) (fun Q2 hQ2 => ?_); go_wp2_with (go_at_call 29; refine (num_Cmp N M _ HN.out HM.out).mono ?_; rintro e v17 ⟨rfl, hb17⟩); refine hQ2 _ _ (fun _ => S16.trans (hb17.mono S16.size)) ?_; clear hQ2 Q2
    have S17 := S16.trans (hb17.mono S16.size)
    refine anyG_one (k := 26) (by kernel_rfl) rfl (by rfl) (fun Q2 hQ2 => ?_); go_wp2_with fail; refine hQ2 _ _ (fun _ => S17) ?_; clear hQ2 Q2
    refine anyG_one (k := 27) (by kernel_rfl) rfl (by rfl) (fun Q2 hQ2 => ?_); go_wp2_with fail; refine hQ2 _ _ (fun _ => S17) ?_; clear hQ2 Q2
    refine anyG_one (k := 28) (by kernel_rfl) rfl (by rfl) (fun Q2 hQ2 => ?_); go_wp2_with fail; refine hQ2 _ _ (fun _ => S17) ?_; clear hQ2 Q2
    refine anyG_done (by kernel_rfl) ?_ _
    go_wp2
    go_ret
    exact ⟨rfl, DB.out.trans (S17.mono DB.out.size)⟩
end Go.Proofs.Ytlodmnohmlkjmaa
