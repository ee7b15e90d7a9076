/- The reference of package control: Load, Want, Bound, Near, Open. -/
import Derived.Test.YtjodpffdlggjgaaControl2
import Derived.Test.YtjodpffdlggjgaaNum6
namespace Go.Proofs.Ytjodpffdlggjgaa
open Go.RowKit
set_option linter.unusedSimpArgs false
set_option linter.unusedVariables false
set_option maxHeartbeats 4000000
set_option maxRecDepth 100000
theorem ref_Load (n : Int) (w : World) :
    Calls Try.prog 109 #[.int .i64 n] w fun e w' => e = .returned (.int .i64 (loadq n)) ∧ w = w' := by
  by_cases h : n < 0
  · have HQ := Lib.hid (show loadq n = 0 from if_pos h)
    go_enter Try.func109, Try.ntmps109
    go_wp2
    go_ret
    exact ⟨ret_int HQ.out.symm, rfl⟩
  · have HQ := Lib.hid (show loadq n = n from if_neg h)
    have d : decide (n < 0) = false := by simpa using h
    clear h
    go_enter Try.func109, Try.ntmps109
    go_wp2
    go_ret
    exact ⟨ret_int HQ.out.symm, rfl⟩
abbrev Pol.row (p : Pol) : Array Value := #[.int .i64 p.min, .int .i64 p.max, .int .i64 p.target, .int .i64 p.tol, .int .i64 p.window, .int .i64 p.hold]
theorem ref_Want (p : Pol) (n : Int) (w : World) (hp : p.fit) (hn : I64 n) :
    Calls Try.prog 81 #[(.agg #[.int .i64 p.min, .int .i64 p.max, .int .i64 p.target, .int .i64 p.tol, .int .i64 p.window, .int .i64 p.hold]), .int .i64 n] w fun e w' => e = .returned (.int .i64 (wantq p n)) ∧ Below w.heap.size w w' := by
  have hL := loadq_I64 hn
  have hT := hp.2.2.1
  by_cases hk : p.okP
  · have e1 := polOk_true hk
    have HQ := Lib.hid (show wantq p n = ceilq (loadq n) p.target from if_pos hk)
    clear hk
    go_enter Try.func81, Try.ntmps81
    go_wp2_with (first | (go_at_call 49; refine (ref_Right p _).mono ?_; rw [e1]; rintro e v1 ⟨rfl, hb1⟩))
    have B0 := Lib.hid ((Blk.new w 23 p.row).call hb1)
    have hB1 : Below w.heap.size w v1 := Below.trans (by go_grown) (hb1.mono (by simp))
    clear hb1
    refine wp_region_any (by kernel_rfl) ?_; change wpAny _ _ _ _ _ _ _ (World.drew v1); refine any_of_anyG (late := fun _ => false) (S := fun wS => Below v1.heap.size v1 wS) _ _ _ _ ?_
    have S0 := (Below.refl v1.heap.size v1).drew
    refine anyG_take (i := 0) (v := _) rfl (by kernel_rfl) (by kernel_rfl) (by kernel_rfl) (by kernel_rfl) rfl (by kernel_rfl) (fun j hj => by first | (simp at hj; done) | (simp at hj; simp; omega)) (fun _ _ _ h => h) (Or.inl ⟨by rfl, fun W1 hW1 => by first | rfl | (go_simp; done) | (go_simp; with_reducible rfl)⟩) (S0) ?_
    refine anyG_take (i := 2) (v := _) rfl (by kernel_rfl) (by kernel_rfl) (by kernel_rfl) (by kernel_rfl) rfl (by kernel_rfl) (fun j hj => by first | (simp at hj; done) | (simp at hj; simp; omega)) (fun _ _ _ h => h) (Or.inl ⟨by rfl, fun W1 hW1 => by first | rfl | (go_simp; done) | (go_simp; with_reducible rfl)⟩) (S0) ?_
    refine anyG_take (i := 3) (v := .int .i64 p.target) rfl (by kernel_rfl) (by kernel_rfl) (by kernel_rfl) (by kernel_rfl) rfl (by kernel_rfl) (fun j hj => by first | (simp at hj; done) | (simp at hj; simp; omega)) (fun _ _ _ h => h) (Or.inl ⟨by rfl, fun W1 hW1 => by have c := (B0.out.call hW1).cellv (i := 2) (v := .int .i64 p.target) rfl; go_simp⟩) (S0) ?_
    refine anyG_one (k := 1) (by kernel_rfl) rfl (by rfl) (fun Q2 hQ2 => ?_); go_wp2_with (go_at_call 109; refine (ref_Load n _).mono ?_; rintro e w1 ⟨rfl, rfl⟩); refine hQ2 _ _ (fun _ => S0) ?_; clear hQ2 Q2
    refine anyG_one (k := 4) (by kernel_rfl) rfl (by rfl) (fun Q2 hQ2 => ?_); go_wp2_with (go_at_call 112; refine (ref_Ceil _ _ _ hL hT).mono ?_; rintro e w1 ⟨rfl, rfl⟩); refine hQ2 _ _ (fun _ => S0) ?_; clear hQ2 Q2
    refine anyG_one (k := 5) (by kernel_rfl) rfl (by rfl) (fun Q2 hQ2 => ?_); go_wp2_with fail; refine hQ2 _ _ (fun _ => S0) ?_; clear hQ2 Q2
    refine anyG_done (by kernel_rfl) ?_ _
    go_wp2
    go_ret
    exact ⟨ret_int HQ.out.symm, hB1.trans (S0.mono hB1.size)⟩
  · have e1 := polOk_false hk
    have HQ := Lib.hid (show wantq p n = 0 from if_neg hk)
    clear hk
    go_enter Try.func81, Try.ntmps81
    go_wp2_with (first | (go_at_call 49; refine (ref_Right p _).mono ?_; rw [e1]; rintro e v1 ⟨rfl, hb1⟩))
    go_ret
    exact ⟨ret_int HQ.out.symm, Below.trans (by go_grown) (hb1.mono (by simp))⟩
theorem ref_Bound (p : Pol) (n : Int) (w : World) :
    Calls Try.prog 51 #[(.agg #[.int .i64 p.min, .int .i64 p.max, .int .i64 p.target, .int .i64 p.tol, .int .i64 p.window, .int .i64 p.hold]), .int .i64 n] w fun e w' => e = .returned (.int .i64 (boundq p n)) ∧ Below w.heap.size w w' := by
  by_cases hk : p.okP
  · have e1 := polOk_true hk
    have HQ := Lib.hid (show boundq p n = clampq n p.min p.max from if_pos hk)
    clear hk
    go_enter Try.func51, Try.ntmps51
    go_wp2_with (first | (go_at_call 49; refine (ref_Right p _).mono ?_; rw [e1]; rintro e v1 ⟨rfl, hb1⟩; obtain ⟨hc1, hf1⟩ := bcell hb1) | (go_at_call 79; refine (ref_Clamp _ _ _ _).mono ?_; rintro e w1 ⟨rfl, rfl⟩))
    go_ret
    exact ⟨ret_int HQ.out.symm, Below.trans (by go_grown) (hb1.mono (by simp))⟩
  · have e1 := polOk_false hk
    have HQ := Lib.hid (show boundq p n = 0 from if_neg hk)
    clear hk
    go_enter Try.func51, Try.ntmps51
    go_wp2_with (first | (go_at_call 49; refine (ref_Right p _).mono ?_; rw [e1]; rintro e v1 ⟨rfl, hb1⟩))
    go_ret
    exact ⟨ret_int HQ.out.symm, Below.trans (by go_grown) (hb1.mono (by simp))⟩
end Go.Proofs.Ytjodpffdlggjgaa
