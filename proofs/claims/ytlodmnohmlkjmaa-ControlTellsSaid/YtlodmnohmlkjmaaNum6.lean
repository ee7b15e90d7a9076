/- The reference's rounded quotients of 128 bits. -/
import Derived.Test.YtlodmnohmlkjmaaTotal
namespace Go.Proofs.Ytlodmnohmlkjmaa
open Go.RowKit
set_option linter.unusedSimpArgs false
set_option linter.unusedVariables false
set_option maxHeartbeats 400000
theorem cmpN_lt (X Y : Nat) : decide (cmpN X Y < 0) = decide (X < Y) := by
  unfold cmpN
  rw [Bool.eq_iff_iff]
  simp only [decide_eq_true_eq]
  split <;> (try split) <;> omega
theorem mul_lt128q {a b : Nat} (ha : a < 2 ^ 64) (hb : b < 2 ^ 64) : a * b < 2 ^ 128 := by
  have := Nat.mul_le_mul (show a ≤ 2 ^ 64 - 1 by omega) (show b ≤ 2 ^ 64 - 1 by omega)
  omega
theorem rangeAt_blk {w : World} {g : Nat} {t : TypeId} {cs : Array Value} (h : Blk w g t cs) : w.rangeAt g 0 cs.toList := fun j v hv => by
  rw [Nat.zero_add]; exact h.cellv (by simpa using hv)
theorem heldR {w0 W w1 : World} {g : Nat} {cs : List Value} (hb : Below W.heap.size W w1) (hr : W.rangeAt g 0 cs) (hs : g < W.heap.size) (hB : Below g w0 W) : w1.rangeAt g 0 cs ∧ g < w1.heap.size ∧ Below g w0 w1 :=
  ⟨fun j v hv => (hb.cell (p := ⟨g, 0 + j, none⟩) hs).trans (hr j v hv), Nat.lt_of_lt_of_le hs hb.size, hB.trans (hb.mono (Nat.le_of_lt hs))⟩
theorem info_list (N : Nat) : (Try.prog.info? 38).map (·.size) = some (bitsA N).toList.length := by rw [info_num N]; simp
theorem num_MulM (a b M : Nat) (w : World) (hM : M = a * b) (ha : a < 2 ^ 64) (hb : b < 2 ^ 64) :
    Calls Try.prog 21 #[.int .u64 a, .int .u64 b] w fun e w' => e = .returned (.agg (bitsA M)) ∧ Below w.heap.size w w' := by
  subst hM; exact num_Mul a b w ha hb
def upIs (n d q : Nat) : Bool := decide (n ≤ q * d ∧ (q = 0 ∨ (q - 1) * d < n))
set_option maxRecDepth 100000 in
theorem num_Up (n d q : Nat) (w : World) (hn : n < 2 ^ 128) (hd : d < 2 ^ 64) (hq : q < 2 ^ 64) :
    Calls Try.prog 30 #[.agg (bitsA n), .int .u64 d, .int .u64 q] w fun e w' => e = .returned (.bool (upIs n d q)) ∧ Below w.heap.size w w' := by
  have hqd := mul_lt128q hq hd
  have HN := Lib.hid hn
  have HD := Lib.hid hd
  have HQ := Lib.hid hq
  have HQD := Lib.hid hqd
  clear hn hd hqd
  obtain ⟨M, hM⟩ : ∃ M, M = q * d := ⟨_, rfl⟩
  by_cases h1 : M < n
  · have HU := Lib.hid (show upIs n d q = false by unfold upIs; simp only [decide_eq_false_iff_not]; omega)
    have hc : decide (cmpN M n < 0) = true := by rw [cmpN_lt]; simpa using h1
    have HM := Lib.hid hM
    clear h1 hM
    go_enter Try.func30, Try.ntmps30
    go_wp2_with (first | (go_at_call 21; refine (num_MulM q d M _ HM.out HQ.out HD.out).mono ?_; rintro e v2 ⟨rfl, hb2⟩; have hB2 : Below w.heap.size w v2 := Below.trans (by go_grown) (hb2.mono (by first | omega | (simp; done) | (simp; omega))); have hs2 := hb2.size; (try simp only [World.size_alloc, World.size_setCell, World.size_drew] at hs2)) | (refine Blk.load rfl 38 (.tmp 7) rfl v2.heap.size _ _ _ rfl (Blk.new v2 _ _) Try.underlying38 rfl (info_num _) ?_) | (refine Blk.load rfl 38 (.tmp 3) rfl w.heap.size _ _ _ rfl (((Blk.new w _ _).call hb2).alloc _) Try.underlying38 rfl (info_num _) ?_) | (go_at_call 29; refine (num_Cmp _ _ _ (by rw [HM.out]; exact HQD.out) HN.out).mono ?_; rintro e v3 ⟨rfl, hb3⟩; have hB3 : Below w.heap.size w v3 := Below.trans (by go_grown) (hb3.mono (by first | omega | (simp; done) | (simp; omega))); have hs3 := hb3.size; (try simp only [World.size_alloc, World.size_setCell, World.size_drew] at hs3)) | (refine wpList_store_fresh rfl 38 _ _ rfl _ _ _ (bitsA _) rfl rfl rfl (by rw [bitsA_size]; kernel_rfl) (info_num _) (bitsA_one _) ?_))
    go_ret
    exact ⟨ret_bool HU.out.symm, hB3⟩
  · have hc : decide (cmpN M n < 0) = false := by rw [cmpN_lt]; simpa using h1
    by_cases h2 : q = 0
    · have HU := Lib.hid (show upIs n d q = true by unfold upIs; simp only [decide_eq_true_eq]; omega)
      have hq0 : ((q : Int) == 0) = true := by simp; omega
      have HM := Lib.hid hM
      clear h1 hM h2
      go_enter Try.func30, Try.ntmps30
      go_wp2_with (first | (go_at_call 21; refine (num_MulM q d M _ HM.out HQ.out HD.out).mono ?_; rintro e v2 ⟨rfl, hb2⟩; have hB2 : Below w.heap.size w v2 := Below.trans (by go_grown) (hb2.mono (by first | omega | (simp; done) | (simp; omega))); have hs2 := hb2.size; (try simp only [World.size_alloc, World.size_setCell, World.size_drew] at hs2)) | (refine wpList_store_fresh rfl 38 _ _ rfl _ _ _ (bitsA _) rfl rfl rfl (by rw [bitsA_size]; kernel_rfl) (info_num _) (bitsA_one _) ?_) | (refine Blk.load rfl 38 (.tmp 7) rfl v2.heap.size _ _ _ rfl (Blk.new v2 _ _) Try.underlying38 rfl (info_num _) ?_) | (refine Blk.load rfl 38 (.tmp 3) rfl w.heap.size _ _ _ rfl (((Blk.new w _ _).call hb2).alloc _) Try.underlying38 rfl (info_num _) ?_) | (go_at_call 29; refine (num_Cmp _ _ _ (by rw [HM.out]; exact HQD.out) HN.out).mono ?_; rintro e v3 ⟨rfl, hb3⟩; have hB3 : Below w.heap.size w v3 := Below.trans (by go_grown) (hb3.mono (by first | omega | (simp; done) | (simp; omega))); have hs3 := hb3.size; (try simp only [World.size_alloc, World.size_setCell, World.size_drew] at hs3)))
      go_ret
      exact ⟨ret_bool HU.out.symm, hB3⟩
    · have hq0 : ((q : Int) == 0) = false := by simp; omega
      have hq1 : (q : Int) - 1 = ((q - 1 : Nat) : Int) := by omega
      have hq2 : IntKind.u64.wrap ((q : Int) - 1) = ((q - 1 : Nat) : Int) := by rw [IntKind.wrap_u64]; omega
      have hql : q - 1 < 2 ^ 64 := by have := HQ.out; omega
      have HQ1 := Lib.hid hql
      obtain ⟨K, hK⟩ : ∃ K, K = (q - 1) * d := ⟨_, rfl⟩
      have HU := Lib.hid (show upIs n d q = decide (K < n) by unfold upIs; rw [Bool.eq_iff_iff]; simp only [decide_eq_true_eq]; rw [← hM, hK]; omega)
      have HM := Lib.hid hM
      have HK := Lib.hid hK
      have HKL := Lib.hid (show K < 2 ^ 128 by rw [hK]; exact mul_lt128q hql HD.out)
      have HC2 := Lib.hid (cmpN_lt K n)
      clear h1 hM h2 hql hK
      generalize q - 1 = q1 at *
      have hq3 : IntKind.u64.wrap (q1 : Int) = (q1 : Int) := by rw [IntKind.wrap_u64]; have := HQ1.out; omega
      go_enter Try.func30, Try.ntmps30
      have hu : Try.prog.underlying 38 = some _ := Try.underlying38
      have HLD := Lib.hid (fun (W : World) (h : Blk W w.heap.size 38 (bitsA n)) => run_loadAt_blk (P := Try.prog) W w.heap.size 38 38 (bitsA n) _ h hu rfl (info_num n))
      clear hu
      go_wp2_with (first | (go_at_call 21; refine (num_MulM q d M _ HM.out HQ.out HD.out).mono ?_; rintro e v2 ⟨rfl, hb2⟩; have hB2 : Below w.heap.size w v2 := Below.trans (by go_grown) (hb2.mono (by first | omega | (simp; done) | (simp; omega))); have hs2 := hb2.size; (try simp only [World.size_alloc, World.size_setCell, World.size_drew] at hs2)) | (refine wpList_store_fresh rfl 38 _ _ rfl _ _ _ (bitsA _) rfl rfl rfl (by rw [bitsA_size]; kernel_rfl) (info_num _) (bitsA_one _) ?_) | (refine Blk.load rfl 38 (.tmp 7) rfl v2.heap.size _ _ _ rfl (Blk.new v2 _ _) Try.underlying38 rfl (info_num _) ?_) | (refine Blk.load rfl 38 (.tmp 3) rfl w.heap.size _ _ _ rfl (((Blk.new w _ _).call hb2).alloc _) Try.underlying38 rfl (info_num _) ?_) | (go_at_call 29; refine (num_Cmp M n _ (by rw [HM.out]; exact HQD.out) HN.out).mono ?_; rintro e v3 ⟨rfl, hb3⟩; have hB3 : Below w.heap.size w v3 := Below.trans (by go_grown) (hb3.mono (by first | omega | (simp; done) | (simp; omega))); have hs3 := hb3.size; (try simp only [World.size_alloc, World.size_setCell, World.size_drew] at hs3)))
      have hbl := (((Blk.new w 38 (bitsA n)).call hb2).alloc (.cells (bitsA M) 38)).call hb3

      have HBL := Lib.hid hbl
      clear hbl
      refine wp_region_any (by kernel_rfl) ?_
      refine wpAny_take (i := 0) (v := _) rfl (by kernel_rfl) (by kernel_rfl) (by kernel_rfl) (fun _ _ _ h => h) (Or.inl ⟨by rfl, fun W => by rfl⟩) ?_
      refine wpAny_take (i := 1) (v := .int .u64 q1) rfl (by kernel_rfl) (by kernel_rfl) (by kernel_rfl) (fun _ _ _ h => h) (Or.inl ⟨by rfl, fun W => by go_simp⟩) ?_
      refine wpAny_take (i := 2) (v := _) rfl (by kernel_rfl) (by kernel_rfl) (by kernel_rfl) (fun _ _ _ h => h) (Or.inl ⟨by rfl, fun W => by rfl⟩) ?_
      change wpAny _ _ _ _ _ _ _ (World.drew _)
      refine any_of_anyG (late := fun j => Nat.ble 5 j && Nat.blt j 8) (S := fun w' => Blk w' w.heap.size 38 (bitsA n)) _ _ _ _ ?_
      refine anyG_take (i := 4) (v := .agg (bitsA _)) rfl (by kernel_rfl) (by kernel_rfl) (by kernel_rfl) (by kernel_rfl) rfl (by kernel_rfl) (fun j hj => by first | (simp at hj; done) | (simp at hj; simp; omega)) (fun _ _ _ h => h) (Or.inl ⟨by rfl, fun W hW => exec_load (ty := 38) (x := .tmp 3) rfl rfl (HLD.out W hW)⟩) HBL.out.drew ?_
      refine anyG_one (k := 3) (by kernel_rfl) rfl (by rfl) (fun Q2 hQ2 => ?_); go_wp2_with (go_at_call 21; refine (num_MulM q1 d K _ HK.out HQ1.out HD.out).mono ?_; rintro e v4 ⟨rfl, hb4⟩); refine hQ2 _ _ (fun _ => HBL.out.drew.call hb4) ?_; clear hQ2 Q2
      refine anyG_of_any _ _ _ _ (by kernel_rfl) ?_
      refine any_one (k := 5) (by kernel_rfl) rfl (by rfl) (fun Q2 hQ2 => ?_); go_wp2_with (go_at_call 29; refine (num_Cmp K n _ HKL.out HN.out).mono ?_; rintro e v5 ⟨rfl, hb5⟩); (try refine hQ2 _ _ ?_); (try clear hQ2 Q2)
      refine any_one (k := 6) (by kernel_rfl) rfl (by rfl) (fun Q2 hQ2 => ?_); go_wp2_with fail; (try refine hQ2 _ _ ?_); (try clear hQ2 Q2)
      refine any_one (k := 7) (by kernel_rfl) rfl (by rfl) (fun Q2 hQ2 => ?_); go_wp2_with fail; (try refine hQ2 _ _ ?_); (try clear hQ2 Q2)
      refine wpAny_done (by kernel_rfl) ?_ _
      go_wp2
      go_ret
      refine ⟨ret_bool (by rw [HU.out, ← HC2.out]), ?_⟩
      have e1 := hB3.drew.trans (hb4.mono hB3.size)
      exact e1.trans (hb5.mono e1.size)
end Go.Proofs.Ytlodmnohmlkjmaa
