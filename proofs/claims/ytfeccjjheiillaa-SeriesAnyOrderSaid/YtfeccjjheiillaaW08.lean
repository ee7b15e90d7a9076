/- Chapter 08's laws: told, awake. -/
import Derived.Test.YtfeccjjheiillaaSer6
namespace Go.Proofs.Ytfeccjjheiillaa
open Go.RowKit
set_option linter.unusedSimpArgs false
set_option linter.unusedVariables false
set_option maxHeartbeats 4000000
set_option maxRecDepth 100000
theorem of08 (w : World) (A : Option Addr) (hs : SmpsAre w A 3 3 [⟨5, 0⟩, ⟨7, 0⟩, ⟨6, 1⟩]) : Calls Try.prog 18 #[.int .i64 2, .slice A 3 3] w (OfS w [⟨6, 1⟩, ⟨7, 0⟩] 2) := by
  have h := series_Of 2 A 3 3 _ w hs (by omega) (by omega) (by omega)
  rw [show serq 2 [⟨5, 0⟩, ⟨7, 0⟩, ⟨6, 1⟩] = [⟨6, 1⟩, ⟨7, 0⟩] by decide +kernel] at h
  exact h
theorem awake08 (w : World) : Calls Try.prog 17 #[] w fun e w' => e = .returned (.bool true) ∧ Below w.heap.size w w' := by
  have HP := Lib.hid (fun p W => series_Put_bad p (-1) (-1) 3 W (by omega) (by decide))
  go_enter Try.func17, Try.ntmps17
  go_wp2_with fail
  refine (of08 _ _ (slice_blk (l := ([⟨5, 0⟩, ⟨7, 0⟩, ⟨6, 1⟩] : List Smp)) (fun _ => rfl) (Blk.new w _ _) rfl (by decide))).mono ?_
  rintro e w1 ⟨g, v, rfl, hi⟩
  have I1 := Lib.hid hi
  have E1 := Lib.hid (show Below w.heap.size w w1 from Below.trans (by go_grown) (hi.2.2.1.mono (by simp)))
  clear hi
  go_wp2_with fail
  refine (series_List g v _ _ _ I1.out.1 (by simp)).mono ?_
  rintro e w2 ⟨A2, n2, c2, rfl, ho, hb⟩
  have I2 := Lib.hid (I1.out.1.call hb)
  have E2 := Lib.hid (E1.out.trans (hb.mono E1.out.size))
  have H2 := Lib.hid (ho.is smp_len)
  clear ho hb
  go_wp2_with fail
  refine (ref08_Same A2 _ n2 c2 2 2 [⟨6, 1⟩, ⟨7, 0⟩] [⟨6, 1⟩, ⟨7, 0⟩] _ (slice_keep H2.out ((Below.refl _ _).alloc (Nat.le_refl _) _)) (slice_blk (l := ([⟨6, 1⟩, ⟨7, 0⟩] : List Smp)) (fun _ => rfl) (Blk.new w2 _ _) rfl (by decide))).mono ?_
  rintro e w3 ⟨rfl, hb⟩
  have E3 := Lib.hid ((E2.out.alloc E2.out.size (.cells #[.int .i64 6, .int .i64 1, .int .i64 7, .int .i64 0] 34)).trans (hb.mono (E2.out.alloc E2.out.size _).size))
  clear hb
  rw [show decide ([(⟨6, 1⟩ : Smp), ⟨7, 0⟩] = [⟨6, 1⟩, ⟨7, 0⟩]) = true by decide]
  go_wp2_with (go_at_call 47; refine (HP.out _ _).mono ?_; rintro e w4 ⟨rfl, rfl⟩)
  go_ret
  exact ⟨rfl, E3.out⟩
end Go.Proofs.Ytfeccjjheiillaa
