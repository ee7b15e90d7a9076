/- The laws on package control: each walk, out of the contracts of the functions that it calls. -/
import Derived.Test.YtlodmnohmlkjmaaWControl
namespace Go.Proofs.Ytlodmnohmlkjmaa
open Go.RowKit
set_option linter.unusedSimpArgs false
set_option linter.unusedVariables false
set_option maxHeartbeats 4000000

theorem mid_I64 (a b : Int) (h1 : 0 ≤ a) (h2 : a ≤ 1073741824) (h3 : 0 ≤ b) (h4 : b ≤ 8589934591) : I64 (a * b) := by
  have m1 := Int.mul_le_mul_of_nonneg_right h2 h3
  have m2 := Int.mul_nonneg h1 h3
  unfold I64; omega
theorem walk_ControlMore (a0 a1 a2 a3 a4 a5 load more now : Int) (w : World) (h0 : I64 a0) (h1 : I64 a1) (h2 : I64 a2) (h3 : I64 a3) (h4 : I64 a4) (h5 : I64 a5) (hl : I64 load) (hm : I64 more) (hn : I64 now) :
    Calls Try.prog 3 #[.agg #[.int .i64 a0, .int .i64 a1, .int .i64 a2, .int .i64 a3, .int .i64 a4, .int .i64 a5], .int .i64 load, .int .i64 more, .int .i64 now] w fun e w' => e = .returned (.bool true) ∧ Below w.heap.size w w' := by
  obtain ⟨p, rfl, rfl, rfl, rfl, rfl, rfl⟩ : ∃ p : Pol, a0 = p.min ∧ a1 = p.max ∧ a2 = p.target ∧ a3 = p.tol ∧ a4 = p.window ∧ a5 = p.hold := ⟨⟨a0, a1, a2, a3, a4, a5⟩, rfl, rfl, rfl, rfl, rfl, rfl⟩
  have hp : p.fit := ⟨h0, h1, h2, h3, h4, h5⟩
  have hp2 : p.noTol.fit := ⟨h0, h1, h2, by unfold I64; simp [Pol.noTol], h4, h5⟩
  clear h0 h1 h3 h4 h5
  have is := satq_I64 (load + more)
  by_cases c0 : load < 0
  · go_enter Try.func3, Try.ntmps3
    go_wp2_with (first | (go_at_call 13; refine (awake13 _).mono ?_; rintro e v1 ⟨rfl, hb1⟩; obtain ⟨hc1, hf1⟩ := bcell hb1; have hB1 : Below w.heap.size w v1 := Below.trans (by go_grown) (hb1.mono (by first | omega | (simp; done) | (simp; omega))); have hz1 : w.heap.size < v1.heap.size := (by have := hb1.size; first | omega | (simp at this; omega)); have hs1 := hb1.size; (try simp only [World.size_alloc, World.size_setCell, World.size_drew] at hs1); clear hb1))
    go_ret
    exact ⟨rfl, by go_grown⟩
  by_cases c1 : more < 0
  · go_enter Try.func3, Try.ntmps3
    go_wp2_with (first | (go_at_call 13; refine (awake13 _).mono ?_; rintro e v2 ⟨rfl, hb2⟩; obtain ⟨hc2, hf2⟩ := bcell hb2; have hB2 : Below w.heap.size w v2 := Below.trans (by go_grown) (hb2.mono (by first | omega | (simp; done) | (simp; omega))); have hz2 : w.heap.size < v2.heap.size := (by have := hb2.size; first | omega | (simp at this; omega)); have hs2 := hb2.size; (try simp only [World.size_alloc, World.size_setCell, World.size_drew] at hs2); clear hb2))
    go_ret
    exact ⟨rfl, by go_grown⟩
  by_cases hk : p.okP
  · have r1 := polOk_true hk
    have m1 : decide (wantq p (satq (load + more)) < wantq p load) = false := by
      have := want_mono p load (satq (load + more)) (by unfold I64 at hl; unfold satq; omega)
      exact decide_eq_false (by omega)
    by_cases c2 : now < 1
    · clear hk
      go_enter Try.func3, Try.ntmps3
      go_wp2_with (first | (go_at_call 13; refine (awake13 _).mono ?_; rintro e va ⟨rfl, hba⟩; obtain ⟨hca, hfa⟩ := bcell hba; have hBa : Below w.heap.size w va := Below.trans (by go_grown) (hba.mono (by first | omega | (simp; done) | (simp; omega))); have hza : w.heap.size < va.heap.size := (by have := hba.size; first | omega | (simp at this; omega)); have hsa := hba.size; (try simp only [World.size_alloc, World.size_setCell, World.size_drew] at hsa); clear hba) | (go_at_call 14; refine (ref_Right p _).mono ?_; rintro e vb ⟨rfl, hbb⟩; obtain ⟨hcb, hfb⟩ := bcell hbb; have hBb : Below w.heap.size w vb := Below.trans (by go_grown) (hbb.mono (by first | omega | (simp; done) | (simp; omega))); have hzb : w.heap.size < vb.heap.size := (by have := hbb.size; first | omega | (simp at this; omega)); have hsb := hbb.size; (try simp only [World.size_alloc, World.size_setCell, World.size_drew] at hsb); clear hbb) | (go_at_call 15; refine (ref_Add _ _ _ hl hm).mono ?_; rintro e w1 ⟨rfl, rfl⟩))
      have HS : vb.cell? ⟨w.heap.size, 0, none⟩ = some (.int .i64 p.min) ∧ vb.cell? ⟨w.heap.size, 1, none⟩ = some (.int .i64 p.max) ∧ vb.cell? ⟨w.heap.size, 2, none⟩ = some (.int .i64 p.target) ∧ vb.cell? ⟨w.heap.size, 3, none⟩ = some (.int .i64 p.tol) ∧ vb.cell? ⟨w.heap.size, 4, none⟩ = some (.int .i64 p.window) ∧ vb.cell? ⟨w.heap.size, 5, none⟩ = some (.int .i64 p.hold) ∧ w.heap.size < vb.heap.size ∧ Below w.heap.size w vb := (by refine ⟨?_, ?_, ?_, ?_, ?_, ?_, ?_, ?_⟩ <;> first | assumption | go_simp)
      clear hca hfa hBa hza hsa hcb hfb hBb hzb hsb
      go_region_held3 (fun w' => w'.cell? ⟨w.heap.size, 0, none⟩ = some (.int .i64 p.min) ∧ w'.cell? ⟨w.heap.size, 1, none⟩ = some (.int .i64 p.max) ∧ w'.cell? ⟨w.heap.size, 2, none⟩ = some (.int .i64 p.target) ∧ w'.cell? ⟨w.heap.size, 3, none⟩ = some (.int .i64 p.tol) ∧ w'.cell? ⟨w.heap.size, 4, none⟩ = some (.int .i64 p.window) ∧ w'.cell? ⟨w.heap.size, 5, none⟩ = some (.int .i64 p.hold) ∧ w.heap.size < w'.heap.size ∧ Below w.heap.size w w') (first | (go_split_ands; refine held6 (by assumption) ?_ ?_ ?_ ?_ ?_ ?_ ?_ ?_ <;> assumption) | exact held6_drew HS | (go_split_ands; refine ⟨?_, ?_, ?_, ?_, ?_, ?_, ?_, ?_⟩ <;> assumption))
        (first | (go_at_call 16; refine (control_Want p _ _ hp (by assumption)).mono ?_; rintro e w1 ⟨rfl, hb⟩))
      go_split_ands
      go_wp2
      go_ret
      exact ⟨rfl, by assumption⟩
    by_cases c3 : 1073741824 < now
    · clear hk
      go_enter Try.func3, Try.ntmps3
      go_wp2_with (first | (go_at_call 13; refine (awake13 _).mono ?_; rintro e va ⟨rfl, hba⟩; obtain ⟨hca, hfa⟩ := bcell hba; have hBa : Below w.heap.size w va := Below.trans (by go_grown) (hba.mono (by first | omega | (simp; done) | (simp; omega))); have hza : w.heap.size < va.heap.size := (by have := hba.size; first | omega | (simp at this; omega)); have hsa := hba.size; (try simp only [World.size_alloc, World.size_setCell, World.size_drew] at hsa); clear hba) | (go_at_call 14; refine (ref_Right p _).mono ?_; rintro e vb ⟨rfl, hbb⟩; obtain ⟨hcb, hfb⟩ := bcell hbb; have hBb : Below w.heap.size w vb := Below.trans (by go_grown) (hbb.mono (by first | omega | (simp; done) | (simp; omega))); have hzb : w.heap.size < vb.heap.size := (by have := hbb.size; first | omega | (simp at this; omega)); have hsb := hbb.size; (try simp only [World.size_alloc, World.size_setCell, World.size_drew] at hsb); clear hbb) | (go_at_call 15; refine (ref_Add _ _ _ hl hm).mono ?_; rintro e w1 ⟨rfl, rfl⟩))
      have HS : vb.cell? ⟨w.heap.size, 0, none⟩ = some (.int .i64 p.min) ∧ vb.cell? ⟨w.heap.size, 1, none⟩ = some (.int .i64 p.max) ∧ vb.cell? ⟨w.heap.size, 2, none⟩ = some (.int .i64 p.target) ∧ vb.cell? ⟨w.heap.size, 3, none⟩ = some (.int .i64 p.tol) ∧ vb.cell? ⟨w.heap.size, 4, none⟩ = some (.int .i64 p.window) ∧ vb.cell? ⟨w.heap.size, 5, none⟩ = some (.int .i64 p.hold) ∧ w.heap.size < vb.heap.size ∧ Below w.heap.size w vb := (by refine ⟨?_, ?_, ?_, ?_, ?_, ?_, ?_, ?_⟩ <;> first | assumption | go_simp)
      clear hca hfa hBa hza hsa hcb hfb hBb hzb hsb
      go_region_held3 (fun w' => w'.cell? ⟨w.heap.size, 0, none⟩ = some (.int .i64 p.min) ∧ w'.cell? ⟨w.heap.size, 1, none⟩ = some (.int .i64 p.max) ∧ w'.cell? ⟨w.heap.size, 2, none⟩ = some (.int .i64 p.target) ∧ w'.cell? ⟨w.heap.size, 3, none⟩ = some (.int .i64 p.tol) ∧ w'.cell? ⟨w.heap.size, 4, none⟩ = some (.int .i64 p.window) ∧ w'.cell? ⟨w.heap.size, 5, none⟩ = some (.int .i64 p.hold) ∧ w.heap.size < w'.heap.size ∧ Below w.heap.size w w') (first | (go_split_ands; refine held6 (by assumption) ?_ ?_ ?_ ?_ ?_ ?_ ?_ ?_ <;> assumption) | exact held6_drew HS | (go_split_ands; refine ⟨?_, ?_, ?_, ?_, ?_, ?_, ?_, ?_⟩ <;> assumption))
        (first | (go_at_call 16; refine (control_Want p _ _ hp (by assumption)).mono ?_; rintro e w1 ⟨rfl, hb⟩))
      go_split_ands
      go_wp2
      go_ret
      exact ⟨rfl, by assumption⟩
    by_cases c4 : 8589934591 < p.target
    · clear hk
      go_enter Try.func3, Try.ntmps3
      go_wp2_with (first | (go_at_call 13; refine (awake13 _).mono ?_; rintro e va ⟨rfl, hba⟩; obtain ⟨hca, hfa⟩ := bcell hba; have hBa : Below w.heap.size w va := Below.trans (by go_grown) (hba.mono (by first | omega | (simp; done) | (simp; omega))); have hza : w.heap.size < va.heap.size := (by have := hba.size; first | omega | (simp at this; omega)); have hsa := hba.size; (try simp only [World.size_alloc, World.size_setCell, World.size_drew] at hsa); clear hba) | (go_at_call 14; refine (ref_Right p _).mono ?_; rintro e vb ⟨rfl, hbb⟩; obtain ⟨hcb, hfb⟩ := bcell hbb; have hBb : Below w.heap.size w vb := Below.trans (by go_grown) (hbb.mono (by first | omega | (simp; done) | (simp; omega))); have hzb : w.heap.size < vb.heap.size := (by have := hbb.size; first | omega | (simp at this; omega)); have hsb := hbb.size; (try simp only [World.size_alloc, World.size_setCell, World.size_drew] at hsb); clear hbb) | (go_at_call 15; refine (ref_Add _ _ _ hl hm).mono ?_; rintro e w1 ⟨rfl, rfl⟩))
      have HS : vb.cell? ⟨w.heap.size, 0, none⟩ = some (.int .i64 p.min) ∧ vb.cell? ⟨w.heap.size, 1, none⟩ = some (.int .i64 p.max) ∧ vb.cell? ⟨w.heap.size, 2, none⟩ = some (.int .i64 p.target) ∧ vb.cell? ⟨w.heap.size, 3, none⟩ = some (.int .i64 p.tol) ∧ vb.cell? ⟨w.heap.size, 4, none⟩ = some (.int .i64 p.window) ∧ vb.cell? ⟨w.heap.size, 5, none⟩ = some (.int .i64 p.hold) ∧ w.heap.size < vb.heap.size ∧ Below w.heap.size w vb := (by refine ⟨?_, ?_, ?_, ?_, ?_, ?_, ?_, ?_⟩ <;> first | assumption | go_simp)
      clear hca hfa hBa hza hsa hcb hfb hBb hzb hsb
      go_region_held3 (fun w' => w'.cell? ⟨w.heap.size, 0, none⟩ = some (.int .i64 p.min) ∧ w'.cell? ⟨w.heap.size, 1, none⟩ = some (.int .i64 p.max) ∧ w'.cell? ⟨w.heap.size, 2, none⟩ = some (.int .i64 p.target) ∧ w'.cell? ⟨w.heap.size, 3, none⟩ = some (.int .i64 p.tol) ∧ w'.cell? ⟨w.heap.size, 4, none⟩ = some (.int .i64 p.window) ∧ w'.cell? ⟨w.heap.size, 5, none⟩ = some (.int .i64 p.hold) ∧ w.heap.size < w'.heap.size ∧ Below w.heap.size w w') (first | (go_split_ands; refine held6 (by assumption) ?_ ?_ ?_ ?_ ?_ ?_ ?_ ?_ <;> assumption) | exact held6_drew HS | (go_split_ands; refine ⟨?_, ?_, ?_, ?_, ?_, ?_, ?_, ?_⟩ <;> assumption))
        (first | (go_at_call 16; refine (control_Want p _ _ hp (by assumption)).mono ?_; rintro e w1 ⟨rfl, hb⟩))
      go_split_ands
      go_wp2
      go_ret
      exact ⟨rfl, by assumption⟩
    · have hT := hk.2.2.2.2.1
      have e1 : nearq p (now * p.target) now = true := near_middle p now hk (by omega) (by omega)
      have e2 : nearq p.noTol load now = (load == now * p.target) := near_exact p load now hk (by omega) (by omega) (by omega)
      have j1 : I64 (now * p.target) := mid_I64 now p.target (by omega) (by omega) (by omega) (by omega)
      have x1 : wrap64 (now * p.target) = now * p.target := wrap64_id j1
      clear hk hT
      go_enter Try.func3, Try.ntmps3
      go_wp2_with (first | (go_at_call 13; refine (awake13 _).mono ?_; rintro e va ⟨rfl, hba⟩; obtain ⟨hca, hfa⟩ := bcell hba; have hBa : Below w.heap.size w va := Below.trans (by go_grown) (hba.mono (by first | omega | (simp; done) | (simp; omega))); have hza : w.heap.size < va.heap.size := (by have := hba.size; first | omega | (simp at this; omega)); have hsa := hba.size; (try simp only [World.size_alloc, World.size_setCell, World.size_drew] at hsa); clear hba) | (go_at_call 14; refine (ref_Right p _).mono ?_; rintro e vb ⟨rfl, hbb⟩; obtain ⟨hcb, hfb⟩ := bcell hbb; have hBb : Below w.heap.size w vb := Below.trans (by go_grown) (hbb.mono (by first | omega | (simp; done) | (simp; omega))); have hzb : w.heap.size < vb.heap.size := (by have := hbb.size; first | omega | (simp at this; omega)); have hsb := hbb.size; (try simp only [World.size_alloc, World.size_setCell, World.size_drew] at hsb); clear hbb) | (go_at_call 15; refine (ref_Add _ _ _ hl hm).mono ?_; rintro e w1 ⟨rfl, rfl⟩))
      have HS : vb.cell? ⟨w.heap.size, 0, none⟩ = some (.int .i64 p.min) ∧ vb.cell? ⟨w.heap.size, 1, none⟩ = some (.int .i64 p.max) ∧ vb.cell? ⟨w.heap.size, 2, none⟩ = some (.int .i64 p.target) ∧ vb.cell? ⟨w.heap.size, 3, none⟩ = some (.int .i64 p.tol) ∧ vb.cell? ⟨w.heap.size, 4, none⟩ = some (.int .i64 p.window) ∧ vb.cell? ⟨w.heap.size, 5, none⟩ = some (.int .i64 p.hold) ∧ w.heap.size < vb.heap.size ∧ Below w.heap.size w vb := (by refine ⟨?_, ?_, ?_, ?_, ?_, ?_, ?_, ?_⟩ <;> first | assumption | go_simp)
      clear hca hfa hBa hza hsa hcb hfb hBb hzb hsb
      go_region_held3 (fun w' => w'.cell? ⟨w.heap.size, 0, none⟩ = some (.int .i64 p.min) ∧ w'.cell? ⟨w.heap.size, 1, none⟩ = some (.int .i64 p.max) ∧ w'.cell? ⟨w.heap.size, 2, none⟩ = some (.int .i64 p.target) ∧ w'.cell? ⟨w.heap.size, 3, none⟩ = some (.int .i64 p.tol) ∧ w'.cell? ⟨w.heap.size, 4, none⟩ = some (.int .i64 p.window) ∧ w'.cell? ⟨w.heap.size, 5, none⟩ = some (.int .i64 p.hold) ∧ w.heap.size < w'.heap.size ∧ Below w.heap.size w w') (first | (go_split_ands; refine held6 (by assumption) ?_ ?_ ?_ ?_ ?_ ?_ ?_ ?_ <;> assumption) | exact held6_drew HS | (go_split_ands; refine ⟨?_, ?_, ?_, ?_, ?_, ?_, ?_, ?_⟩ <;> assumption))
        (first | (go_at_call 16; refine (control_Want p _ _ hp (by assumption)).mono ?_; rintro e w1 ⟨rfl, hb⟩))
      go_split_ands
      go_wp2_with fail
      refine (control_Near p (now * p.target) now _ hp j1).mono ?_
      rw [e1]
      rintro e vn ⟨rfl, hbn⟩; obtain ⟨hcn, hfn⟩ := bcell hbn; have hBn : Below w.heap.size w vn := Below.trans (by go_grown) (hbn.mono (by first | omega | (simp; done) | (simp; omega))); have hzn : w.heap.size < vn.heap.size := (by have := hbn.size; first | omega | (simp at this; omega)); have hsn := hbn.size; (try simp only [World.size_alloc, World.size_setCell, World.size_drew] at hsn); clear hbn
      go_wp2_with fail
      refine (control_Near p.noTol load now _ hp2 hl).mono ?_
      rw [e2]
      rintro e vm ⟨rfl, hbm⟩; obtain ⟨hcm, hfm⟩ := bcell hbm; have hBm : Below w.heap.size w vm := Below.trans (by go_grown) (hbm.mono (by first | omega | (simp; done) | (simp; omega))); have hzm : w.heap.size < vm.heap.size := (by have := hbm.size; first | omega | (simp at this; omega)); have hsm := hbm.size; (try simp only [World.size_alloc, World.size_setCell, World.size_drew] at hsm); clear hbm
      go_wp2
      go_ret
      exact ⟨rfl, by assumption⟩
  · have r1 := polOk_false hk
    clear hk
    go_enter Try.func3, Try.ntmps3
    go_wp2_with (first | (go_at_call 13; refine (awake13 _).mono ?_; rintro e v3 ⟨rfl, hb3⟩; obtain ⟨hc3, hf3⟩ := bcell hb3; have hB3 : Below w.heap.size w v3 := Below.trans (by go_grown) (hb3.mono (by first | omega | (simp; done) | (simp; omega))); have hz3 : w.heap.size < v3.heap.size := (by have := hb3.size; first | omega | (simp at this; omega)); have hs3 := hb3.size; (try simp only [World.size_alloc, World.size_setCell, World.size_drew] at hs3); clear hb3) | (go_at_call 14; refine (ref_Right p _).mono ?_; rintro e v4 ⟨rfl, hb4⟩; obtain ⟨hc4, hf4⟩ := bcell hb4; have hB4 : Below w.heap.size w v4 := Below.trans (by go_grown) (hb4.mono (by first | omega | (simp; done) | (simp; omega))); have hz4 : w.heap.size < v4.heap.size := (by have := hb4.size; first | omega | (simp at this; omega)); have hs4 := hb4.size; (try simp only [World.size_alloc, World.size_setCell, World.size_drew] at hs4); clear hb4))
    go_ret
    exact ⟨rfl, by go_grown⟩
end Go.Proofs.Ytlodmnohmlkjmaa
