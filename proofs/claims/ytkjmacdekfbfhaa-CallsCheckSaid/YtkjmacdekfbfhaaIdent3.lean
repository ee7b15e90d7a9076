/- ident.Pack: the walk. (fast region) -/
import Derived.Test.YtkjmacdekfbfhaaIdent2
import Derived.Deep.Cut
namespace Go.Proofs.Ytkjmacdekfbfhaa
open Go.RowKit
set_option linter.unusedSimpArgs false
set_option linter.unusedVariables false
set_option maxHeartbeats 4000000
set_option maxRecDepth 100000
theorem iterPos_at {W : World} {s : ByteArray} {j n : Nat} (hz : W.heap.size = n) : (W.iter s j).iterPos n = j := by subst hz; simp
theorem shl_num {C : Int} {U : Int} (h0 : 0 ≤ C) (h1 : C ≤ 39) (hu : 0 ≤ U) (hu2 : U ≤ 54) : IntKind.u64.wrap (C * 2 ^ U.toNat) = ((C.toNat <<< U.toNat : Nat) : Int) := by
  rw [IntKind.wrap_u64, Nat.shiftLeft_eq]
  obtain ⟨c, rfl⟩ := Int.eq_ofNat_of_zero_le h0
  have hp : 2 ^ U.toNat ≤ 2 ^ 54 := Nat.pow_le_pow_right (by decide) (by omega)
  have hm : c * 2 ^ U.toNat ≤ 39 * 2 ^ 54 := Nat.mul_le_mul (by omega) hp
  simp only [Int.toNat_natCast]
  rw [show ((2 : Int) ^ U.toNat) = ((2 ^ U.toNat : Nat) : Int) from by simp, ← Int.natCast_mul]
  omega
theorem shl_lt {C : Int} {U : Nat} (h1 : C ≤ 39) (hu2 : U ≤ 54) : C.toNat <<< U < 18446744073709551616 := by
  rw [Nat.shiftLeft_eq]
  have hp : 2 ^ U ≤ 2 ^ 54 := Nat.pow_le_pow_right (by decide) hu2
  have hm : C.toNat * 2 ^ U ≤ 39 * 2 ^ 54 := Nat.mul_le_mul (by omega) hp
  omega
theorem ident_Pack (s : ByteArray) (w : World) (hs : s.size ≤ maxLen) :
    Calls Try.prog 65 #[.string s] w fun e w' => e = .returned (.tuple #[.agg #[.int .u64 (keyHi s : Nat), .int .u64 (keyLo s : Nat)], .int .i64 (idErr s)]) ∧ Below w.heap.size w w' := by
  have HI := Lib.hid (fun W => ident_Check s W hs)
  unfold maxLen at hs
  have B0 := Lib.hid (And.intro (Blk.new w 103 #[.int .u64 0, .int .u64 0]) (show Below w.heap.size w (w.alloc (.cells #[.int .u64 0, .int .u64 0] 103)) by go_grown))
  cases hi : idOk s
  · have he : idErr s = 2 := by unfold idErr; rw [hi]; rfl
    have h1 : keyHi s = 0 := by unfold keyHi; rw [hi]; rfl
    have h2 : keyLo s = 0 := by unfold keyLo; rw [hi]; rfl
    rw [he] at HI
    rw [h1, h2, he]
    clear hi h1 h2 he
    go_enter Try.func65, Try.ntmps65
    go_wp2_with (go_at_call 98; refine (HI.out _).mono ?_; rintro e w1 ⟨rfl, hb1⟩; have D1 := Lib.hid (B0.out.2.trans (hb1.mono B0.out.2.size)); have B1 := Lib.hid (B0.out.1.call hb1); have z1 := B1.out.lt; have c0 := B1.out.cellv (i := 0) (v := .int .u64 0) rfl; have c1 := B1.out.cellv (i := 1) (v := .int .u64 0) rfl; have f0 := B1.out.frozen 0; have f1 := B1.out.frozen 1; clear hb1)
    refine bodyPost_ret (results_row_tmp rfl _ _ w.heap.size _ _ _ rfl ((B1.out.set_ 0 _).set_ 1 _) Try.underlying103 rfl (by kernel_rfl)) rfl ⟨rfl, (D1.out.setCell (by simp) _).setCell (by simp) _⟩
  · obtain ⟨⟨h1, h2⟩, h3⟩ := idOk_at hi
    have eh : keyHi s = kHi ((codesI s).take s.size) := by unfold keyHi; rw [hi, List.take_of_length_le (by rw [codesI_len]; exact Nat.le_refl _)]; rfl
    have el : keyLo s = kLo ((codesI s).take s.size) := by unfold keyLo; rw [hi, List.take_of_length_le (by rw [codesI_len]; exact Nat.le_refl _)]; rfl
    have he : idErr s = 0 := by unfold idErr; rw [hi]; rfl
    rw [he] at HI
    rw [eh, el, he]
    have HN := Lib.hid h3
    have HA := Lib.hid (fun k (hk : k < s.size) => (show (s[k]'hk).toNat < 128 from Decidable.byContradiction fun hn => h3 k hk (codeq_high (by omega))))
    have HB := Lib.hid (fun k (hk : k < s.size) (h10 : k < 10) => kHi_snoc (codesI_at hk) (by have := codeq_bd ((s[k]'hk).toNat : Int); omega) h10)
    have HL := Lib.hid (fun k (hk : k < s.size) (h10 : 10 ≤ k) => kLo_snoc (codesI_at hk) (by have := codeq_bd ((s[k]'hk).toNat : Int); omega) h10 (by omega))
    have HH := Lib.hid (fun k (h : 10 ≤ k) => kHi_high (l := codesI s) (i := k) h)
    have HW := Lib.hid (fun k (h : k ≤ 10) => kLo_low (l := codesI s) (i := k) h)
    have HLt := Lib.hid (fun k => And.intro (kHi_lt (l := (codesI s).take k) (fun c hc => codesI_lt s c (List.mem_of_mem_take hc))) (kLo_lt (l := (codesI s).take k) (by simp; have := codesI_len s; omega) (fun c hc => codesI_lt s c (List.mem_of_mem_take hc))))
    have R0 := Lib.hid (show kHi ((codesI s).take 0) = 0 from by simp [kHi, wordq, hq])
    have R1 := Lib.hid (show kLo ((codesI s).take 0) = 0 from by simp [kLo, wordq, hq])
    have HHs := Lib.hid (fun k (h : 10 ≤ k) => (show kHi ((codesI s).take (k + 1)) = kHi ((codesI s).take k) from by rw [kHi_high (by omega), kHi_high h]))
    have HWs := Lib.hid (fun k (h : k < 10) => (show kLo ((codesI s).take (k + 1)) = kLo ((codesI s).take k) from by rw [kLo_low (by omega), kLo_low (by omega)]))
    obtain ⟨rh, hrh⟩ : ∃ rh : Nat → Nat, rh = fun k => kHi ((codesI s).take k) := ⟨_, rfl⟩
    obtain ⟨rl, hrl⟩ : ∃ rl : Nat → Nat, rl = fun k => kLo ((codesI s).take k) := ⟨_, rfl⟩
    have e1 : ∀ k, kHi ((codesI s).take k) = rh k := fun k => by rw [hrh]
    have e2 : ∀ k, kLo ((codesI s).take k) = rl k := fun k => by rw [hrl]
    simp only [e1, e2] at HB HL HLt R0 R1 HHs HWs ⊢
    clear hi h1 h3 eh el he hrh hrl e1 e2 HH HW
    go_enter Try.func65, Try.ntmps65
    go_wp2_with (go_at_call 98; refine (HI.out _).mono ?_; rintro e w1 ⟨rfl, hb1⟩; have D1 := Lib.hid (B0.out.2.trans (hb1.mono B0.out.2.size)); have B1 := Lib.hid (B0.out.1.call hb1); have z1 := B1.out.lt; clear hb1)
    go_loopw [6] (fun i wr => ∃ (k : Nat) (W : World), wr = W.iter s k ∧ k ≤ s.size ∧ W.heap.size = w1.heap.size + 1 ∧ Blk W w1.heap.size 103 #[.int .u64 (rh k : Nat), .int .u64 (rl k : Nat)] ∧ Blk W w.heap.size 103 #[.int .u64 0, .int .u64 0] ∧ Below w.heap.size w W) (fun _ wr => s.size - wr.iterPos (w1.heap.size + 1))
    case atStart => exact ⟨0, w1.alloc (.cells #[.int .u64 0, .int .u64 0] 103), rfl, Nat.zero_le _, by simp, by rw [R0.out, R1.out]; exact Blk.new _ _ _, B1.out.alloc _, D1.out.alloc D1.out.size _⟩
    case round =>
      obtain ⟨k, W, rfl, hk, hWz, hbg, hb0, hbel⟩ := hrel
      have HZ := Lib.hid hWz
      have HBg := Lib.hid hbg
      have HB0 := Lib.hid hb0
      have HBe := Lib.hid hbel
      clear hWz hbg hb0 hbel
      by_cases hp : k < s.size
      · have hnx : ∀ ty, (Instr.next (.pointer (some ⟨w1.heap.size + 1, 0, none⟩)) true ty).run Try.prog (W.iter s k) = .ok (.tuple #[.bool true, .int .i64 k, .int .i32 (s[k]'hp).toNat]) (W.iter s (k + 1)) := fun ty => by
          have := run_next_ascii (P := Try.prog) W s k ty hp (HA.out k hp)
          rw [HZ.out] at this
          exact this
        have HXg := Lib.hid (show Blk (W.iter s (k + 1)) w1.heap.size 103 #[.int .u64 (rh k : Nat), .int .u64 (rl k : Nat)] from HBg.out.alloc _)
        have hb8 := HA.out k hp
        have HCo := Lib.hid (fun W => ident_code ((s[k]'hp).toNat : Int) W (by omega) (by omega))
        obtain ⟨b1, b2⟩ := codeq_bd ((s[k]'hp).toNat : Int)
        have h20 : k < 20 := by omega
        have hlt := HLt.out k
        obtain ⟨q1, q2⟩ := hlt
        by_cases h10 : k < 10
        · have HX := Lib.hid (HB.out k hp h10)
          have HY := Lib.hid (HWs.out k h10)
          generalize codeq ((s[k]'hp).toNat : Int) = C at *
          have hm : (k : Int) % 10 = (k : Int) := by omega
          have d10 : decide ((k : Int) < 10) = true := by simp; omega
          have hu : (6 * (9 - (k : Int))).toNat = 6 * (9 - k) := by omega
          have hsh : IntKind.u64.wrap (C * 2 ^ (6 * (9 - (k : Int))).toNat) = ((C.toNat <<< (6 * (9 - k)) : Nat) : Int) := by
            have := shl_num b1 b2 (U := 6 * (9 - (k : Int))) (by omega) (by omega)
            rw [hu] at this ⊢; exact this
          have hsl := shl_lt (C := C) (U := 6 * (9 - k)) b2 (by omega)
          generalize C.toNat <<< (6 * (9 - k)) = SH at *
          have hor := u64_or_nat (rh k) SH (by omega) hsl
          rw [← HX.out] at hor
          clear hu
          focus (go_upto_region 10 with (fail))
          obtain ⟨W0, hw0⟩ : ∃ W0, W0 = W.iter s (k + 1) := ⟨_, rfl⟩
          rw [← hw0] at HXg ⊢
          have HQ := Lib.hid hw0
          clear hw0
          have fz := HXg.out.frozen 0
          have cz := HXg.out.cellv (i := 0) (v := .int .u64 (rh k : Nat)) rfl
          refine wp_region_any (by kernel_rfl) ?_; change wpAny _ _ _ _ _ _ _ (World.drew W0); refine any_of_anyG (late := fun j => [8].contains j) (S := fun wS => Below W0.heap.size W0 wS) _ _ _ _ ?_
          have S0 := (Below.refl W0.heap.size W0).drew
          refine anyG_takes (is := [0, 1, 2, 4]) (vs := [_, .int .u64 (rh k : Nat), _, _]) (m := 5) (listed2 := #[true, true, true, false, true, false, false, false, false]) (a2 := ⟨#[_, _, _, _, _, _, _, _, _, _, _, _, _, _, _, _, _, _, _, _, _, _, _, _, _, _, _, _, _, _, _, _, _, _, _, _, _, _, _, _, _, _, _, _, _], _⟩) (by kernel_rfl) (fun j hj => by first | (simp at hj; done) | (simp at hj; simp; omega)) (by kernel_rfl) (fun _ _ _ _ _ h => h) (Ys.cons rfl (Or.inl ⟨by rfl, fun W1 hW1 => by first | rfl | (go_simp; done) | (go_simp; with_reducible rfl)⟩) (Ys.cons rfl (Or.inl ⟨by rfl, fun W1 hW1 => by have c := (HXg.out.call hW1).cellv (i := 0) (v := .int .u64 (rh k : Nat)) rfl; go_simp⟩) (Ys.cons rfl (Or.inl ⟨by rfl, fun W1 hW1 => by first | rfl | (go_simp; done) | (go_simp; with_reducible rfl)⟩) (Ys.cons rfl (Or.inl ⟨by rfl, fun W1 hW1 => by first | rfl | (go_simp; done) | (go_simp; with_reducible rfl)⟩) (Ys.nil))))) (S0) (by rfl) (by rfl) ?_
          refine anyG_one (k := 3) (by kernel_rfl) rfl (by rfl) (fun Q2 hQ2 => ?_); go_wp2_with (go_at_call 106; refine (HCo.out _).mono ?_; rintro e v5 ⟨rfl, rfl⟩); refine hQ2 _ _ (fun _ => S0) ?_; clear hQ2 Q2
          refine anyG_takes (is := [5, 6, 7]) (vs := [.int .u64 (SH : Nat), .int .u64 (rh (k + 1) : Nat), .pointer (some ⟨w1.heap.size, 0, none⟩)]) (m := 1) (listed2 := #[true, true, true, true, true, true, true, true, false]) (a2 := ⟨#[_, _, _, _, _, _, _, _, _, _, _, _, _, _, _, _, _, _, _, _, _, _, _, _, _, _, _, _, _, _, _, _, _, _, _, _, _, _, _, _, _, _, _, _, _], _⟩) (by kernel_rfl) (fun j hj => by first | (simp at hj; done) | (simp at hj; simp; omega)) (by kernel_rfl) (fun _ _ _ _ _ h => h) (Ys.cons rfl (Or.inl ⟨by rfl, fun W1 hW1 => by go_simp⟩) (Ys.cons rfl (Or.inl ⟨by rfl, fun W1 hW1 => by go_simp⟩) (Ys.cons rfl (Or.inl ⟨by rfl, fun W1 hW1 => by first | rfl | (go_simp; done)⟩) (Ys.nil)))) (S0) (by rfl) (by rfl) ?_
          refine anyG_of_any _ _ _ _ (by kernel_rfl) ?_
          refine any_one (k := 8) (by kernel_rfl) rfl (by rfl) (fun Q2 hQ2 => ?_); go_wp2_with fail; (try refine hQ2 _ _ ?_); (try clear hQ2 Q2)
          refine wpAny_done (by kernel_rfl) ?_ _
          go_wp2
          go_roundw
          case rel =>
            have e0 : W0 = W.iter s (k + 1) := HQ.out
            subst e0
            have hgz : w1.heap.size < W.heap.size := by rw [HZ.out]; omega
            refine ⟨k + 1, (W.setCell ⟨w1.heap.size, 0, none⟩ (.int .u64 (rh (k + 1) : Nat))).drew, ?_, by omega, by simp [HZ.out], ?_, ?_, ?_⟩
            · rw [iter_set hgz]; rfl
            · rw [HY.out]; exact HBg.out.set_ 0 _
            · exact HB0.out.far (by show w.heap.size ≠ w1.heap.size; omega) _
            · exact (HBe.out.setCell (by show w.heap.size ≤ w1.heap.size; omega) _).drew
          case measure =>
            have e0 : W0 = W.iter s (k + 1) := HQ.out
            subst e0
            have hgz : w1.heap.size < W.heap.size := by rw [HZ.out]; omega
            rw [iter_set hgz, iterPos_at HZ.out]
            have : ((W.setCell ⟨w1.heap.size, 0, none⟩ (.int .u64 (rh (k + 1) : Nat))).iter s (k + 1)).drew.iterPos (w1.heap.size + 1) = k + 1 := iterPos_at (W := (W.setCell ⟨w1.heap.size, 0, none⟩ (.int .u64 (rh (k + 1) : Nat))).drew) (by simp [HZ.out])
            rw [this]
            omega
        · have HX := Lib.hid (HL.out k hp (by omega))
          have HY := Lib.hid (HHs.out k (by omega))
          generalize codeq ((s[k]'hp).toNat : Int) = C at *
          have hm : (k : Int) % 10 = (k : Int) - 10 := by omega
          have d10 : decide ((k : Int) < 10) = false := by simp; omega
          have hu : (6 * (9 - ((k : Int) - 10))).toNat = 6 * (19 - k) := by omega
          have hsh : IntKind.u64.wrap (C * 2 ^ (6 * (9 - ((k : Int) - 10))).toNat) = ((C.toNat <<< (6 * (19 - k)) : Nat) : Int) := by
            have := shl_num b1 b2 (U := 6 * (9 - ((k : Int) - 10))) (by omega) (by omega)
            rw [hu] at this ⊢; exact this
          have hsl := shl_lt (C := C) (U := 6 * (19 - k)) b2 (by omega)
          generalize C.toNat <<< (6 * (19 - k)) = SH at *
          have hor := u64_or_nat (rl k) SH (by omega) hsl
          rw [← HX.out] at hor
          clear hu
          focus (go_upto_region 11 with (fail))
          obtain ⟨W0, hw0⟩ : ∃ W0, W0 = W.iter s (k + 1) := ⟨_, rfl⟩
          rw [← hw0] at HXg ⊢
          have HQ := Lib.hid hw0
          clear hw0
          have fz := HXg.out.frozen 1
          have cz := HXg.out.cellv (i := 1) (v := .int .u64 (rl k : Nat)) rfl
          refine wp_region_any (by kernel_rfl) ?_; change wpAny _ _ _ _ _ _ _ (World.drew W0); refine any_of_anyG (late := fun j => [8].contains j) (S := fun wS => Below W0.heap.size W0 wS) _ _ _ _ ?_
          have S0 := (Below.refl W0.heap.size W0).drew
          refine anyG_takes (is := [0, 1, 2, 4]) (vs := [_, .int .u64 (rl k : Nat), _, _]) (m := 5) (listed2 := #[true, true, true, false, true, false, false, false, false]) (a2 := ⟨#[_, _, _, _, _, _, _, _, _, _, _, _, _, _, _, _, _, _, _, _, _, _, _, _, _, _, _, _, _, _, _, _, _, _, _, _, _, _, _, _, _, _, _, _, _], _⟩) (by kernel_rfl) (fun j hj => by first | (simp at hj; done) | (simp at hj; simp; omega)) (by kernel_rfl) (fun _ _ _ _ _ h => h) (Ys.cons rfl (Or.inl ⟨by rfl, fun W1 hW1 => by first | rfl | (go_simp; done) | (go_simp; with_reducible rfl)⟩) (Ys.cons rfl (Or.inl ⟨by rfl, fun W1 hW1 => by have c := (HXg.out.call hW1).cellv (i := 1) (v := .int .u64 (rl k : Nat)) rfl; go_simp⟩) (Ys.cons rfl (Or.inl ⟨by rfl, fun W1 hW1 => by first | rfl | (go_simp; done) | (go_simp; with_reducible rfl)⟩) (Ys.cons rfl (Or.inl ⟨by rfl, fun W1 hW1 => by first | rfl | (go_simp; done) | (go_simp; with_reducible rfl)⟩) (Ys.nil))))) (S0) (by rfl) (by rfl) ?_
          refine anyG_one (k := 3) (by kernel_rfl) rfl (by rfl) (fun Q2 hQ2 => ?_); go_wp2_with (go_at_call 106; refine (HCo.out _).mono ?_; rintro e v5 ⟨rfl, rfl⟩); refine hQ2 _ _ (fun _ => S0) ?_; clear hQ2 Q2
          refine anyG_takes (is := [5, 6, 7]) (vs := [.int .u64 (SH : Nat), .int .u64 (rl (k + 1) : Nat), .pointer (some ⟨w1.heap.size, 1, none⟩)]) (m := 1) (listed2 := #[true, true, true, true, true, true, true, true, false]) (a2 := ⟨#[_, _, _, _, _, _, _, _, _, _, _, _, _, _, _, _, _, _, _, _, _, _, _, _, _, _, _, _, _, _, _, _, _, _, _, _, _, _, _, _, _, _, _, _, _], _⟩) (by kernel_rfl) (fun j hj => by first | (simp at hj; done) | (simp at hj; simp; omega)) (by kernel_rfl) (fun _ _ _ _ _ h => h) (Ys.cons rfl (Or.inl ⟨by rfl, fun W1 hW1 => by go_simp⟩) (Ys.cons rfl (Or.inl ⟨by rfl, fun W1 hW1 => by go_simp⟩) (Ys.cons rfl (Or.inl ⟨by rfl, fun W1 hW1 => by first | rfl | (go_simp; done)⟩) (Ys.nil)))) (S0) (by rfl) (by rfl) ?_
          refine anyG_of_any _ _ _ _ (by kernel_rfl) ?_
          refine any_one (k := 8) (by kernel_rfl) rfl (by rfl) (fun Q2 hQ2 => ?_); go_wp2_with fail; (try refine hQ2 _ _ ?_); (try clear hQ2 Q2)
          refine wpAny_done (by kernel_rfl) ?_ _
          go_wp2
          go_roundw
          case rel =>
            have e0 : W0 = W.iter s (k + 1) := HQ.out
            subst e0
            have hgz : w1.heap.size < W.heap.size := by rw [HZ.out]; omega
            refine ⟨k + 1, (W.setCell ⟨w1.heap.size, 1, none⟩ (.int .u64 (rl (k + 1) : Nat))).drew, ?_, by omega, by simp [HZ.out], ?_, ?_, ?_⟩
            · rw [iter_set hgz]; rfl
            · rw [HY.out]; exact HBg.out.set_ 1 _
            · exact HB0.out.far (by show w.heap.size ≠ w1.heap.size; omega) _
            · exact (HBe.out.setCell (by show w.heap.size ≤ w1.heap.size; omega) _).drew
          case measure =>
            have e0 : W0 = W.iter s (k + 1) := HQ.out
            subst e0
            have hgz : w1.heap.size < W.heap.size := by rw [HZ.out]; omega
            rw [iter_set hgz, iterPos_at HZ.out]
            have : ((W.setCell ⟨w1.heap.size, 1, none⟩ (.int .u64 (rl (k + 1) : Nat))).iter s (k + 1)).drew.iterPos (w1.heap.size + 1) = k + 1 := iterPos_at (W := (W.setCell ⟨w1.heap.size, 1, none⟩ (.int .u64 (rl (k + 1) : Nat))).drew) (by simp [HZ.out])
            rw [this]
            omega
      · obtain rfl : k = s.size := by omega
        have hnx : ∀ ty, (Instr.next (.pointer (some ⟨w1.heap.size + 1, 0, none⟩)) true ty).run Try.prog (W.iter s s.size) = .ok (.tuple #[.bool false]) (W.iter s s.size) := fun ty => by
          have := run_next_end (P := Try.prog) W s s.size ty (by omega)
          rw [HZ.out] at this
          exact this
        have HXg := Lib.hid (show Blk (W.iter s s.size) w1.heap.size 103 #[.int .u64 (rh s.size : Nat), .int .u64 (rl s.size : Nat)] from HBg.out.alloc _)
        have HX0 := Lib.hid (show Blk (W.iter s s.size) w.heap.size 103 #[.int .u64 0, .int .u64 0] from HB0.out.alloc _)
        have HXe := Lib.hid (show Below w.heap.size w (W.iter s s.size) from HBe.out.alloc HBe.out.size _)
        generalize W.iter s s.size = W9 at *
        have c0 := HXg.out.cellv (i := 0) (v := .int .u64 (rh s.size : Nat)) rfl
        have c1 := HXg.out.cellv (i := 1) (v := .int .u64 (rl s.size : Nat)) rfl
        have e0 := HX0.out.cellv (i := 0) (v := .int .u64 0) rfl
        have e1 := HX0.out.cellv (i := 1) (v := .int .u64 0) rfl
        have f0 := HX0.out.frozen 0
        have f1 := HX0.out.frozen 1
        go_wp2
        refine bodyPost_ret (results_row_tmp rfl _ _ w.heap.size _ _ _ rfl ((HX0.out.set_ 0 _).set_ 1 _) Try.underlying103 rfl (by kernel_rfl)) rfl ⟨rfl, (HXe.out.setCell (by simp) _).setCell (by simp) _⟩
end Go.Proofs.Ytkjmacdekfbfhaa
