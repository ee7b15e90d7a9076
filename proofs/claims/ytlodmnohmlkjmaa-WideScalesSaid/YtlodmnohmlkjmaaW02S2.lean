/- The law WideScales: the walk where no end is met. -/
import Derived.Test.YtlodmnohmlkjmaaW02S
namespace Go.Proofs.Ytlodmnohmlkjmaa
open Go.RowKit
set_option linter.unusedSimpArgs false
set_option linter.unusedVariables false
set_option maxHeartbeats 4000000
set_option maxRecDepth 100000
theorem walk_WideScalesM (p q c : Int) (N : Nat) (w : World) (hp : I64 p) (hq : I64 q) (hc : I64 c) (hN : N < 2 ^ 128) (h1 : ¬ p < 0) (h2 : ¬ q < 0) (h3 : ¬ c < 1) (hmax0 : ¬ smallQ (upq (p.toNat * q.toNat) c.toNat) = 9223372036854775807) :
    Calls Try.prog 5 #[.int .i64 p, .int .i64 q, .int .i64 c, .agg #[.int .u64 ((hiQ N : Nat) : Int), .int .u64 ((loQ N : Nat) : Int)]] w fun e w' => e = .returned (.bool true) ∧ Below w.heap.size w w' := by
  have HN := Lib.hid hN
  have HS := Lib.hid (fun W => wide_Scale p q c W hp hq hc)
  have hsq : scaleq p q c = (smallQ (upq (p.toNat * q.toNat) c.toNat) : Nat) := if_neg (by omega)
  rw [hsq] at HS
  obtain ⟨P, rfl⟩ := Int.eq_ofNat_of_zero_le (show 0 ≤ p by omega)
  obtain ⟨Q, rfl⟩ := Int.eq_ofNat_of_zero_le (show 0 ≤ q by omega)
  obtain ⟨C, rfl⟩ := Int.eq_ofNat_of_zero_le (show 0 ≤ c by omega)
  rw [Int.toNat_natCast, Int.toNat_natCast, Int.toNat_natCast] at HS hmax0
  unfold I64 at hp hq hc
  clear hsq
  obtain ⟨M, hM⟩ : ∃ M, M = P * Q := ⟨_, rfl⟩
  rw [← hM] at HS hmax0
  obtain ⟨s, hs⟩ : ∃ s, s = smallQ (upq M C) := ⟨_, rfl⟩
  have hsp := scale_spec (n := M) (c := C) (s := s) (by omega) hs
  have hsb : s ≤ 9223372036854775807 := by rw [hs]; unfold smallQ; split <;> omega
  rw [← hs] at HS
  have hml : M < 2 ^ 126 := by rw [hM]; exact mul_lt126 (by omega) (by omega)
  have HMl := Lib.hid (show M < 2 ^ 128 by omega)
  have HM1 := Lib.hid (fun W => num_MulM P Q M W hM (by omega) (by omega))
  have HUp := Lib.hid (fun W => num_Up M C s W (by omega) (by omega) (by omega))
  have hmax : ¬ s = 9223372036854775807 := by rw [hs]; exact hmax0
  rw [hsp.1 hmax] at HUp
  have dmax : ((s : Int) == 9223372036854775807) = false := by simp; omega
  clear hsp hs hM hml hN hmax0 hmax
  go_enter Try.func5, Try.ntmps5
  go_wp2_with (first | (go_at_call 18; refine (awake02 _).mono ?_; rintro e v1 ⟨rfl, hb1⟩))
  have b0 := (Blk.new w 32 #[.int .u64 ((hiQ N : Nat) : Int), .int .u64 ((loQ N : Nat) : Int)]).call hb1
  have e0 : Below w.heap.size w (w.alloc (.cells #[.int .u64 ((hiQ N : Nat) : Int), .int .u64 ((loQ N : Nat) : Int)] 32)) := by go_grown
  have e1 := e0.trans (hb1.mono e0.size)
  have B0 := Lib.hid b0
  have E1 := Lib.hid e1
  clear b0 e0 e1 hb1
  refine wp_region_any (by kernel_rfl) ?_; change wpAny _ _ _ _ _ _ _ (World.drew v1); refine any_of_anyG (late := fun _ => false) (S := fun w1 => Below v1.heap.size v1 w1) _ _ _ _ ?_
  have S0 := (Below.refl v1.heap.size v1).drew
  refine anyG_take (i := 0) (v := _) rfl (by kernel_rfl) (by kernel_rfl) (by kernel_rfl) (by kernel_rfl) rfl (by kernel_rfl) (fun j hj => by first | (simp at hj; done) | (simp at hj; simp; omega)) (fun _ _ _ h => h) (Or.inl ⟨by rfl, fun W1 hW1 => exec_load (ty := 32) (x := .tmp 7) rfl rfl (run_loadAt_blk _ _ _ _ _ _ (B0.out.call hW1) Try.underlying32 rfl (by first | exact info_num _ | kernel_rfl))⟩) (S0) ?_
  refine anyG_take (i := 2) (v := _) rfl (by kernel_rfl) (by kernel_rfl) (by kernel_rfl) (by kernel_rfl) rfl (by kernel_rfl) (fun j hj => by first | (simp at hj; done) | (simp at hj; simp; omega)) (fun _ _ _ h => h) (Or.inl ⟨by rfl, fun W1 hW1 => exec_load (ty := 32) (x := .tmp 7) rfl rfl (run_loadAt_blk _ _ _ _ _ _ (B0.out.call hW1) Try.underlying32 rfl (by first | exact info_num _ | kernel_rfl))⟩) (S0) ?_
  refine anyG_one (k := 1) (by kernel_rfl) rfl (by rfl) (fun Q2 hQ2 => ?_); go_wp2_with (go_at_call 26; refine (wide_SmallN N _ HN.out).mono ?_; rintro e v2 ⟨rfl, hb2⟩); refine hQ2 _ _ (fun _ => S0.trans (hb2.mono S0.size)) ?_; clear hQ2 Q2
  have S2 := S0.trans (hb2.mono S0.size)
  refine anyG_one (k := 3) (by kernel_rfl) rfl (by rfl) (fun Q2 hQ2 => ?_); go_wp2_with (go_at_call 25; refine (law_numN N _ HN.out).mono ?_; rintro e v3 ⟨rfl, hb3⟩); refine hQ2 _ _ (fun _ => S2.trans (hb3.mono S2.size)) ?_; clear hQ2 Q2
  have S3 := S2.trans (hb3.mono S2.size)
  refine anyG_one (k := 4) (by kernel_rfl) rfl (by rfl) (fun Q2 hQ2 => ?_); go_wp2_with (go_at_call 27; refine (num_Small N _ HN.out).mono ?_; rintro e v4 ⟨rfl, hb4⟩); refine hQ2 _ _ (fun _ => S3.trans (hb4.mono S3.size)) ?_; clear hQ2 Q2
  have S4 := S3.trans (hb4.mono S3.size)
  refine anyG_one (k := 5) (by kernel_rfl) rfl (by rfl) (fun Q2 hQ2 => ?_); go_wp2_with fail; refine hQ2 _ _ (fun _ => S4) ?_; clear hQ2 Q2
  refine anyG_done (by kernel_rfl) ?_ _
  have E2 := Lib.hid (E1.out.trans (S4.mono E1.out.size))
  go_wp2_with (first | (go_at_call 28; refine (HS.out _).mono ?_; rintro e v5 ⟨rfl, hb5⟩) | (go_at_call 21; refine (HM1.out _).mono ?_; rintro e v6 ⟨rfl, hb6⟩) | (refine wpList_store_fresh rfl 38 _ _ rfl _ _ _ (bitsA _) rfl rfl rfl (by rw [bitsA_size]; kernel_rfl) (info_num _) (bitsA_one _) ?_) | (refine Blk.loadG 38 (.tmp 10) rfl v6.heap.size _ _ _ rfl (Blk.new v6 _ _) Try.underlying38 rfl (info_num _) ?_) | (go_at_call 30; refine (HUp.out _).mono ?_; rintro e v7 ⟨rfl, hb7⟩))
  refine Blk.loadG 38 (.tmp 10) rfl v6.heap.size _ _ _ rfl (Blk.new v6 _ _) Try.underlying38 rfl (info_num _) ?_
  go_wp2_with (go_at_call 30; refine (HUp.out _).mono ?_; rintro e v7 ⟨rfl, hb7⟩)
  go_ret
  have E6 := ((E2.out.trans (hb5.mono E2.out.size)).trans (hb6.mono (E2.out.trans (hb5.mono E2.out.size)).size))
  have E7 := (E6.alloc E6.size (.cells (bitsA M) 38))
  exact ⟨rfl, E7.trans (hb7.mono E7.size)⟩
end Go.Proofs.Ytlodmnohmlkjmaa
