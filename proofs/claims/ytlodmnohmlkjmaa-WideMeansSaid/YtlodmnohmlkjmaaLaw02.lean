/- The helpers of the laws on package wide: num, is, and the equality of numbers. -/
import Derived.Test.YtlodmnohmlkjmaaMean
import Derived.Test.YtlodmnohmlkjmaaNum6
import Derived.DeepKeys
namespace Go.Proofs.Ytlodmnohmlkjmaa
open Go.RowKit
set_option linter.unusedSimpArgs false
set_option linter.unusedVariables false
set_option maxHeartbeats 400000
set_option maxRecDepth 100000
theorem key_num (N : Nat) : (keyOf Try.prog 38 (.agg (bitsA N))).isSome = true := by kernel_rfl
theorem eql_num (N : Nat) (w : World) : (Op.equal 38 (.agg (bitsA N)) (.agg (bitsA N))).run Try.prog w = .ok true w := by
  obtain ⟨l, hl⟩ := Option.isSome_iff_exists.1 (key_num N)
  obtain ⟨r, h1, h2⟩ := run_equal_deep (P := Try.prog) w (m := 20) (by decide) (k := 38) (by kernel_rfl) (by kernel_rfl) hl hl
  rw [h1, h2.2 rfl]
theorem law_num (h l : Nat) (w : World) (h1 : h < 2 ^ 64) (h2 : l < 2 ^ 64) :
    Calls Try.prog 25 #[.agg #[.int .u64 h, .int .u64 l]] w fun e w' => e = .returned (.agg (bitsA (two h l))) ∧ Below w.heap.size w w' := by
  have H1 := Lib.hid h1
  have H2 := Lib.hid h2
  clear h1 h2
  go_enter Try.func25, Try.ntmps25
  go_wp2_with (first | (go_at_call 22; refine (num_Of h l _ H1.out H2.out).mono ?_; rintro e v2 ⟨rfl, hb2⟩; have k2 := (Blk.new_ w (.cells #[.int .u64 h, .int .u64 l] 32) 38 Try.zeroCells38).call hb2) | (refine wpList_store_row rfl 38 (.tmp 2) _ rfl (w.heap.size + 1) 38 _ (bitsA _) rfl rfl k2 (by rw [bitsA_size]; kernel_rfl) (info_num _) (bitsA_one _) ?_; intro v3 hb3 hg3))
  refine bodyPost_ret (results_row rfl _ _ (w.heap.size + 1) _ _ _ rfl hb3 Try.underlying38 rfl (info_num _)) rfl ⟨rfl, ?_⟩
  have e1 : Below w.heap.size w v2 := Below.trans (by go_grown) (hb2.mono (by simp; omega))
  exact e1.trans (Only.below hg3 (by omega) e1.size)
theorem law_is (N : Nat) (w : World) (hN : N < 2 ^ 128) :
    Calls Try.prog 32 #[.agg #[.int .u64 ((hiQ N : Nat) : Int), .int .u64 ((loQ N : Nat) : Int)], .agg (bitsA N)] w fun e w' => e = .returned (.bool true) ∧ Below w.heap.size w w' := by
  have HN := Lib.hid hN
  clear hN
  go_enter Try.func32, Try.ntmps32
  go_wp2
  have b0 := (Blk.new w 32 #[.int .u64 ((hiQ N : Nat) : Int), .int .u64 ((loQ N : Nat) : Int)]).alloc (.cells (bitsA N) 38)
  have b1 := Blk.new_ w (.cells #[.int .u64 ((hiQ N : Nat) : Int), .int .u64 ((loQ N : Nat) : Int)] 32) 38 (bitsA N)
  have hB : Below w.heap.size w ((w.alloc (.cells #[.int .u64 ((hiQ N : Nat) : Int), .int .u64 ((loQ N : Nat) : Int)] 32)).alloc (.cells (bitsA N) 38)) := by go_grown
  generalize (w.alloc (.cells #[.int .u64 ((hiQ N : Nat) : Int), .int .u64 ((loQ N : Nat) : Int)] 32)).alloc (.cells (bitsA N) 38) = W at *
  have r0 := b0.drew.cellv (i := 0) (v := .int .u64 ((hiQ N : Nat) : Int)) rfl
  have r1 := b0.drew.cellv (i := 1) (v := .int .u64 ((loQ N : Nat) : Int)) rfl
  have B0 := Lib.hid b0
  have B1 := Lib.hid b1
  have HB := Lib.hid hB
  clear b0 b1 hB
  refine wp_region_any (by kernel_rfl) ?_; change wpAny _ _ _ _ _ _ _ (World.drew W); refine any_of_anyG (late := fun _ => false) (S := fun w1 => Below W.heap.size W w1) _ _ _ _ ?_
  have S0 := (Below.refl W.heap.size W).drew
  refine anyG_take (i := 0) (v := _) rfl (by kernel_rfl) (by kernel_rfl) (by kernel_rfl) (by kernel_rfl) rfl (by kernel_rfl) (fun j hj => by first | (simp at hj; done) | (simp at hj; simp; omega)) (fun _ _ _ h => h) (Or.inl ⟨by rfl, fun W1 hW1 => by first | rfl | (go_simp; done) | (go_simp; with_reducible rfl)⟩) (S0) ?_
  refine anyG_take (i := 1) (v := .int .u64 ((hiQ N : Nat) : Int)) rfl (by kernel_rfl) (by kernel_rfl) (by kernel_rfl) (by kernel_rfl) rfl (by kernel_rfl) (fun j hj => by first | (simp at hj; done) | (simp at hj; simp; omega)) (fun _ _ _ h => h) (Or.inl ⟨by rfl, fun W1 hW1 => by have c := (B0.out.call hW1).cellv (i := 0) (v := .int .u64 ((hiQ N : Nat) : Int)) rfl; go_simp⟩) (S0) ?_
  refine anyG_take (i := 2) (v := _) rfl (by kernel_rfl) (by kernel_rfl) (by kernel_rfl) (by kernel_rfl) rfl (by kernel_rfl) (fun j hj => by first | (simp at hj; done) | (simp at hj; simp; omega)) (fun _ _ _ h => h) (Or.inl ⟨by rfl, fun W1 hW1 => exec_load (ty := 38) (x := .tmp 3) rfl rfl (run_loadAt_blk _ _ _ _ _ _ (B1.out.call hW1) Try.underlying38 rfl (by first | exact info_num _ | kernel_rfl))⟩) (S0) ?_
  refine anyG_one (k := 3) (by kernel_rfl) rfl (by rfl) (fun Q2 hQ2 => ?_); go_wp2_with (go_at_call 20; refine (num_Hi N _ HN.out).mono ?_; rintro e v2 ⟨rfl, hb2⟩); refine hQ2 _ _ (fun _ => S0.trans (hb2.mono S0.size)) ?_; clear hQ2 Q2
  have S2 := S0.trans (hb2.mono S0.size)
  refine anyG_one (k := 4) (by kernel_rfl) rfl (by rfl) (fun Q2 hQ2 => ?_); go_wp2_with fail; refine hQ2 _ _ (fun _ => S2) ?_; clear hQ2 Q2
  refine anyG_one (k := 5) (by kernel_rfl) rfl (by rfl) (fun Q2 hQ2 => ?_); go_wp2_with fail; refine hQ2 _ _ (fun _ => S2) ?_; clear hQ2 Q2
  refine anyG_take (i := 6) (v := _) rfl (by kernel_rfl) (by kernel_rfl) (by kernel_rfl) (by kernel_rfl) rfl (by kernel_rfl) (fun j hj => by first | (simp at hj; done) | (simp at hj; simp; omega)) (fun _ _ _ h => h) (Or.inl ⟨by rfl, fun W1 hW1 => by first | rfl | (go_simp; done) | (go_simp; with_reducible rfl)⟩) (S2) ?_
  refine anyG_take (i := 7) (v := .int .u64 ((loQ N : Nat) : Int)) rfl (by kernel_rfl) (by kernel_rfl) (by kernel_rfl) (by kernel_rfl) rfl (by kernel_rfl) (fun j hj => by first | (simp at hj; done) | (simp at hj; simp; omega)) (fun _ _ _ h => h) (Or.inl ⟨by rfl, fun W1 hW1 => by have c := (B0.out.call hW1).cellv (i := 1) (v := .int .u64 ((loQ N : Nat) : Int)) rfl; go_simp⟩) (S2) ?_
  refine anyG_take (i := 8) (v := _) rfl (by kernel_rfl) (by kernel_rfl) (by kernel_rfl) (by kernel_rfl) rfl (by kernel_rfl) (fun j hj => by first | (simp at hj; done) | (simp at hj; simp; omega)) (fun _ _ _ h => h) (Or.inl ⟨by rfl, fun W1 hW1 => exec_load (ty := 38) (x := .tmp 3) rfl rfl (run_loadAt_blk _ _ _ _ _ _ (B1.out.call hW1) Try.underlying38 rfl (by first | exact info_num _ | kernel_rfl))⟩) (S2) ?_
  refine anyG_one (k := 9) (by kernel_rfl) rfl (by rfl) (fun Q2 hQ2 => ?_); go_wp2_with (go_at_call 23; refine (num_Lo N _ HN.out).mono ?_; rintro e v3 ⟨rfl, hb3⟩); refine hQ2 _ _ (fun _ => S2.trans (hb3.mono S2.size)) ?_; clear hQ2 Q2
  have S3 := S2.trans (hb3.mono S2.size)
  refine anyG_one (k := 10) (by kernel_rfl) rfl (by rfl) (fun Q2 hQ2 => ?_); go_wp2_with fail; refine hQ2 _ _ (fun _ => S3) ?_; clear hQ2 Q2
  refine anyG_one (k := 11) (by kernel_rfl) rfl (by rfl) (fun Q2 hQ2 => ?_); go_wp2_with fail; refine hQ2 _ _ (fun _ => S3) ?_; clear hQ2 Q2
  refine anyG_one (k := 12) (by kernel_rfl) rfl (by rfl) (fun Q2 hQ2 => ?_); go_wp2_with fail; refine hQ2 _ _ (fun _ => S3) ?_; clear hQ2 Q2
  refine anyG_done (by kernel_rfl) ?_ _
  go_wp2
  go_ret
  exact ⟨rfl, HB.out.trans (S3.mono HB.out.size)⟩
end Go.Proofs.Ytlodmnohmlkjmaa
