/- Package control, the rest: near or not, what is decided, the ends. -/
import Derived.Test.YtjodpffdlggjgaaControl
namespace Go.Proofs.Ytjodpffdlggjgaa
open Go.RowKit
set_option linter.unusedSimpArgs false
set_option linter.unusedVariables false
set_option maxHeartbeats 400000

theorem control_Near (p : Pol) (load now : Int) (w : World) (hp : p.fit) (hn : I64 load) :
    Calls Try.prog 76 #[(.agg #[.int .i64 p.min, .int .i64 p.max, .int .i64 p.target, .int .i64 p.tol, .int .i64 p.window, .int .i64 p.hold]), .int .i64 load, .int .i64 now] w fun e w' => e = .returned (.bool (nearq p load now)) ∧ Below w.heap.size w w' := by
  by_cases hk : p.okP
  · by_cases h1 : now < 1
    · have e0 := polErr_ok hk
      have hfin : nearq p load now = false := if_neg (by omega)
      have HF := Lib.hid hfin
      clear hk hfin
      go_enter Try.func76, Try.ntmps76
      go_wp2_with (first | (go_at_call 75; refine (policy_Check p _).mono ?_; rintro e v1 ⟨rfl, hb1⟩; obtain ⟨hc1, hf1⟩ := bcell hb1; have hB1 : Below w.heap.size w v1 := Below.trans (by go_grown) (hb1.mono (by first | omega | (simp; done) | (simp; omega))); have hz1 : w.heap.size < v1.heap.size := (by have := hb1.size; first | omega | (simp at this; omega)); have hs1 := hb1.size; (try simp only [World.size_alloc, World.size_setCell, World.size_drew] at hs1); clear hb1))
      go_ret
      exact ⟨ret_bool HF.out.symm, by go_grown⟩
    · by_cases h2 : 1073741824 < now
      · have e0 := polErr_ok hk
        have hfin : nearq p load now = false := if_neg (by omega)
        have HF := Lib.hid hfin
        clear hk hfin
        go_enter Try.func76, Try.ntmps76
        go_wp2_with (first | (go_at_call 75; refine (policy_Check p _).mono ?_; rintro e v2 ⟨rfl, hb2⟩; obtain ⟨hc2, hf2⟩ := bcell hb2; have hB2 : Below w.heap.size w v2 := Below.trans (by go_grown) (hb2.mono (by first | omega | (simp; done) | (simp; omega))); have hz2 : w.heap.size < v2.heap.size := (by have := hb2.size; first | omega | (simp at this; omega)); have hs2 := hb2.size; (try simp only [World.size_alloc, World.size_setCell, World.size_drew] at hs2); clear hb2))
        go_ret
        exact ⟨ret_bool HF.out.symm, by go_grown⟩
      · exact control_Near_ok p load now (loadq load) w hp hn hk (by omega) (by omega) (by unfold loadq; omega)
  · have e0 := polErr_no hk
    have hfin : nearq p load now = false := if_neg (fun h => hk h.1)
    have HF := Lib.hid hfin
    clear hk hfin
    go_enter Try.func76, Try.ntmps76
    go_wp2_with (first | (go_at_call 75; refine (policy_Check p _).mono ?_; rintro e v3 ⟨rfl, hb3⟩; obtain ⟨hc3, hf3⟩ := bcell hb3; have hB3 : Below w.heap.size w v3 := Below.trans (by go_grown) (hb3.mono (by first | omega | (simp; done) | (simp; omega))); have hz3 : w.heap.size < v3.heap.size := (by have := hb3.size; first | omega | (simp at this; omega)); have hs3 := hb3.size; (try simp only [World.size_alloc, World.size_setCell, World.size_drew] at hs3); clear hb3))
    go_ret
    exact ⟨ret_bool HF.out.symm, by go_grown⟩
def rawq (p : Pol) (load now : Int) : Int := if nearq p load now then boundq p now else boundq p (wantq p load)
theorem wantq_I64 (p : Pol) (n : Int) (hp : p.fit) (hn : I64 n) : I64 (wantq p n) := by
  unfold wantq
  split
  · have hl := loadq_bd hn
    unfold ceilq
    split
    · unfold I64; omega
    · rename_i h1 h2
      have := fl_neg (loadq n) p.target (by omega)
      have b := fl_bd (loadq n) p.target (by omega)
      have c := b.2.1 (by omega)
      rw [this]
      unfold I64
      by_cases h0 : p.target = 1
      · rw [h0, Int.emod_one, if_pos rfl, Int.ediv_one]; omega
      · have : loadq n / p.target ≤ 4611686018427387903 := by
          have e := (Int.ediv_lt_iff_lt_mul (a := loadq n) (b := 4611686018427387904) (c := p.target) (by omega)).2 (by omega)
          omega
        split <;> omega
  · unfold I64; omega
theorem control_Raw (p : Pol) (load now : Int) (w : World) (hp : p.fit) (hn : I64 load) :
    Calls Try.prog 46 #[(.agg #[.int .i64 p.min, .int .i64 p.max, .int .i64 p.target, .int .i64 p.tol, .int .i64 p.window, .int .i64 p.hold]), .int .i64 load, .int .i64 now] w fun e w' => e = .returned (.int .i64 (rawq p load now)) ∧ Below w.heap.size w w' := by
  cases h : nearq p load now
  · have HF := Lib.hid (show rawq p load now = boundq p (wantq p load) by unfold rawq; rw [h]; rfl)
    go_enter Try.func46, Try.ntmps46
    go_wp2_with (first | (go_at_call 76; refine (control_Near p load now _ hp hn).mono ?_; rintro e va ⟨rfl, hba⟩; obtain ⟨hca, hfa⟩ := bcell hba; have hBa : Below w.heap.size w va := Below.trans (by go_grown) (hba.mono (by first | omega | (simp; done) | (simp; omega))); have hza : w.heap.size < va.heap.size := (by have := hba.size; first | omega | (simp at this; omega)); have hsa := hba.size; (try simp only [World.size_alloc, World.size_setCell, World.size_drew] at hsa); clear hba))
    have HS : va.cell? ⟨w.heap.size, 0, none⟩ = some (.int .i64 p.min) ∧ va.cell? ⟨w.heap.size, 1, none⟩ = some (.int .i64 p.max) ∧ va.cell? ⟨w.heap.size, 2, none⟩ = some (.int .i64 p.target) ∧ va.cell? ⟨w.heap.size, 3, none⟩ = some (.int .i64 p.tol) ∧ va.cell? ⟨w.heap.size, 4, none⟩ = some (.int .i64 p.window) ∧ va.cell? ⟨w.heap.size, 5, none⟩ = some (.int .i64 p.hold) ∧ w.heap.size < va.heap.size ∧ Below w.heap.size w va := (by refine ⟨?_, ?_, ?_, ?_, ?_, ?_, ?_, ?_⟩ <;> first | assumption | go_simp)
    clear hca hfa hBa hza hsa
    go_region_held3 (fun w' => w'.cell? ⟨w.heap.size, 0, none⟩ = some (.int .i64 p.min) ∧ w'.cell? ⟨w.heap.size, 1, none⟩ = some (.int .i64 p.max) ∧ w'.cell? ⟨w.heap.size, 2, none⟩ = some (.int .i64 p.target) ∧ w'.cell? ⟨w.heap.size, 3, none⟩ = some (.int .i64 p.tol) ∧ w'.cell? ⟨w.heap.size, 4, none⟩ = some (.int .i64 p.window) ∧ w'.cell? ⟨w.heap.size, 5, none⟩ = some (.int .i64 p.hold) ∧ w.heap.size < w'.heap.size ∧ Below w.heap.size w w') (first | (go_split_ands; refine held6 (by assumption) ?_ ?_ ?_ ?_ ?_ ?_ ?_ ?_ <;> assumption) | exact held6_drew HS | (go_split_ands; refine ⟨?_, ?_, ?_, ?_, ?_, ?_, ?_, ?_⟩ <;> assumption))
      (first
        | (go_at_call 77; refine (control_Want p load _ hp hn).mono ?_; rintro e w1 ⟨rfl, hb⟩)
        | (go_at_call 47; refine (control_Bound p _ _).mono ?_; rintro e w1 ⟨rfl, hb⟩))
    have hz := held6_out (by assumption)
    go_wp2
    go_ret
    exact ⟨ret_int HF.out.symm, hz⟩
  · have HF := Lib.hid (show rawq p load now = boundq p now by unfold rawq; rw [h]; rfl)
    go_enter Try.func46, Try.ntmps46
    go_wp2_with (first | (go_at_call 76; refine (control_Near p load now _ hp hn).mono ?_; rintro e v4 ⟨rfl, hb4⟩; obtain ⟨hc4, hf4⟩ := bcell hb4; have hB4 : Below w.heap.size w v4 := Below.trans (by go_grown) (hb4.mono (by first | omega | (simp; done) | (simp; omega))); have hz4 : w.heap.size < v4.heap.size := (by have := hb4.size; first | omega | (simp at this; omega)); have hs4 := hb4.size; (try simp only [World.size_alloc, World.size_setCell, World.size_drew] at hs4); clear hb4) | (go_at_call 47; refine (control_Bound p _ _).mono ?_; rintro e v5 ⟨rfl, hb5⟩; obtain ⟨hc5, hf5⟩ := bcell hb5; have hB5 : Below w.heap.size w v5 := Below.trans (by go_grown) (hb5.mono (by first | omega | (simp; done) | (simp; omega))); have hz5 : w.heap.size < v5.heap.size := (by have := hb5.size; first | omega | (simp at this; omega)); have hs5 := hb5.size; (try simp only [World.size_alloc, World.size_setCell, World.size_drew] at hs5); clear hb5))
    go_ret
    exact ⟨ret_int HF.out.symm, by go_grown⟩
def lowq (p : Pol) (n : Int) : Int := if p.okP ∧ 1 ≤ n ∧ n ≤ 1073741824 then satq (satq ((n - 1) * p.target) + 1) else 0
def lowIs (p : Pol) (n : Int) : Bool := decide (p.okP ∧ 1 ≤ n ∧ n ≤ 1073741824)
def highq (p : Pol) (n : Int) : Int := if p.okP ∧ 0 ≤ n ∧ n ≤ 1073741824 then satq (n * p.target) else 0
def highIs (p : Pol) (n : Int) : Bool := decide (p.okP ∧ 0 ≤ n ∧ n ≤ 1073741824)
end Go.Proofs.Ytjodpffdlggjgaa
