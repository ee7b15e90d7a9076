/- The law TuneWith: the walk, out of the contracts. -/
import Derived.Test.YtlodmnohmlkjmaaLadderR
import Derived.Test.YtlodmnohmlkjmaaTune
namespace Go.Proofs.Ytlodmnohmlkjmaa
open Go.RowKit
set_option linter.unusedSimpArgs false
set_option linter.unusedVariables false
set_option maxHeartbeats 2000000

def usualT : Pol := ⟨1, 10, 100, 100, 5, 3⟩
theorem usual45 (w : World) : Calls Try.prog 64 #[] w fun e w' => e = .returned (.agg #[.int .i64 1, .int .i64 10, .int .i64 100, .int .i64 100, .int .i64 5, .int .i64 3]) ∧ Below w.heap.size w w' := by
  go_enter Try.func64, Try.ntmps64
  go_wp2
  go_returns
  exact ⟨rfl, by go_grown⟩
theorem ex_ladder (w : World) : Calls Try.prog 39 #[.int .i64 0, .int .i64 10, .int .i64 3] w fun e w' => ∃ v, e = .returned v ∧ OwnI w' w.heap.size v [0, 5, 10] ∧ Below w.heap.size w w' :=
  (tune_Ladder 0 10 3 w (by unfold I64; omega) (by unfold I64; omega) (by unfold I64; omega)).mono fun _ _ h => by
    rw [show ladderq 0 10 3 = [0, 5, 10] by decide +kernel] at h; exact h
theorem ex_with (w : World) : Calls Try.prog 36 #[.agg #[.int .i64 1, .int .i64 10, .int .i64 100, .int .i64 100, .int .i64 5, .int .i64 3], .int .i64 6, .int .i64 0] w fun e w' => e = .returned (.agg #[.int .i64 1, .int .i64 10, .int .i64 100, .int .i64 100, .int .i64 5, .int .i64 0]) ∧ Below w.heap.size w w' :=
  tune_With usualT 6 0 w
theorem ints_keep {α : Type} {w w' : World} {size : Nat} {cells : α → List Value} {A : Option Addr} {len cap : Nat} {l : List α} (h : SliceIs w size cells A len cap l) (hb : Below w.heap.size w w') : SliceIs w' size cells A len cap l := by
  refine ⟨h.1, h.2.1, h.2.2.1, h.2.2.2.1, fun a ha => ?_⟩
  obtain ⟨h1, h2⟩ := h.2.2.2.2 a ha
  refine ⟨fun i x hi j v hj => ?_, fun hl => ⟨Nat.lt_of_lt_of_le (h2 hl).1 hb.size, (h2 hl).2⟩⟩
  have hlt : a.block < w.heap.size := by
    refine (h2 ?_).1
    have := (List.getElem?_eq_some_iff.1 hi).1
    rw [← h.1]; omega
  have hbl : (a.add (i * size + j)).block = a.block := by unfold Addr.add; split <;> rfl
  have := h1 i x hi j v hj
  exact (World.cell?_of_block (w := w) (hb.block _ (by rw [hbl]; exact hlt))).trans this
theorem ints_lit3 (w : World) (a b c : Int) (t : TypeId) : IntsAre (w.alloc (.cells #[.int .i64 a, .int .i64 b, .int .i64 c] t)) (some ⟨w.heap.size, 0, none⟩) 3 3 [a, b, c] := by
  refine ⟨rfl, Nat.le_refl _, by decide, (fun h => by cases h), fun ad had => ?_⟩
  cases had
  refine ⟨fun i x hi j v hj => ?_, fun _ => ⟨by simp, rfl⟩⟩
  have hc := (Blk.new w t #[.int .i64 a, .int .i64 b, .int .i64 c]).cell
  match j, hj with
  | 0, hj =>
    simp at hj; subst hj
    rw [show (⟨w.heap.size, 0, none⟩ : Addr).add (i * 1 + 0) = ⟨w.heap.size, i, none⟩ by simp [Addr.add]; omega, hc i]
    match i, hi with
    | 0, hi => simp at hi; subst hi; rfl
    | 1, hi => simp at hi; subst hi; rfl
    | 2, hi => simp at hi; subst hi; rfl
  | j + 1, hj => simp at hj
set_option maxRecDepth 100000 in
theorem awake45 (w : World) : Calls Try.prog 35 #[] w fun e w' => e = .returned (.bool true) ∧ Below w.heap.size w w' := by
  have hfd : ∀ w : World, (Instr.field 23 (.agg #[.int .i64 1, .int .i64 10, .int .i64 100, .int .i64 100, .int .i64 5, .int .i64 0]) 5).run Try.prog w = .ok (.int .i64 0) w := fun _ => by kernel_rfl
  go_enter Try.func35, Try.ntmps35
  go_wp2_with fail
  refine (ex_ladder _).mono ?_
  rintro e v1 ⟨v, rfl, ho, hb1⟩
  obtain ⟨A, len, cap, rfl, hll, hsl⟩ := own_shape ho
  go_wp2_with fail
  have hsl2 := ints_keep hsl ((Below.refl v1.heap.size v1).alloc (Nat.le_refl _) (.cells #[.int .i64 0, .int .i64 5, .int .i64 10] 2))
  refine (ref_Same _ _ _ _ _ _ _ _ _ hsl2 (ints_lit3 v1 0 5 10 2)).mono ?_
  rintro e v2 ⟨he, hb2⟩
  rw [show (([0, 5, 10] : List Int) == [0, 5, 10]) = true by decide] at he
  subst he
  go_wp2_with fail
  refine (usual45 _).mono ?_
  rintro e v3 ⟨rfl, hb3⟩
  go_wp2_with fail
  refine (ex_with _).mono ?_
  rintro e v4 ⟨rfl, hb4⟩
  go_wp2
  go_ret
  refine ⟨rfl, ?_⟩
  have s1 := hb1.size; have s2 := hb2.size; have s3 := hb3.size; have s4 := hb4.size
  simp only [World.size_alloc] at s2
  have g2 := (hb1.alloc s1 (.cells #[.int .i64 0, .int .i64 5, .int .i64 10] 2)).trans (hb2.mono (by simp; omega))
  exact (g2.trans (hb3.mono (by omega))).trans (hb4.mono (by omega))
theorem walk_TuneWith (a0 a1 a2 a3 a4 a5 field value from_ to_ n : Int) (w : World) (h0 : I64 a0) (h1 : I64 a1) (h2 : I64 a2) (h3 : I64 a3) (h4 : I64 a4) (h5 : I64 a5) (hfi : I64 field) (hv : I64 value) (hf : I64 from_) (ht : I64 to_) (hn : I64 n) :
    Calls Try.prog 7 #[.agg #[.int .i64 a0, .int .i64 a1, .int .i64 a2, .int .i64 a3, .int .i64 a4, .int .i64 a5], .int .i64 field, .int .i64 value, .int .i64 from_, .int .i64 to_, .int .i64 n] w fun e w' => e = .returned (.bool true) ∧ Below w.heap.size w w' := by
  obtain ⟨p, rfl, rfl, rfl, rfl, rfl, rfl⟩ : ∃ p : Pol, a0 = p.min ∧ a1 = p.max ∧ a2 = p.target ∧ a3 = p.tol ∧ a4 = p.window ∧ a5 = p.hold := ⟨⟨a0, a1, a2, a3, a4, a5⟩, rfl, rfl, rfl, rfl, rfl, rfl⟩
  clear h0 h1 h2 h3 h4 h5
  go_enter Try.func7, Try.ntmps7
  go_wp2_with (first | (go_at_call 35; refine (awake45 _).mono ?_; rintro e va ⟨rfl, hba⟩; obtain ⟨hca, hfa⟩ := bcell hba; have hBa : Below w.heap.size w va := Below.trans (by go_grown) (hba.mono (by first | omega | (simp; done) | (simp; omega))); have hza : w.heap.size < va.heap.size := (by have := hba.size; first | omega | (simp at this; omega)); have hsa := hba.size; (try simp only [World.size_alloc, World.size_setCell, World.size_drew] at hsa); clear hba))
  have HS : va.cell? ⟨w.heap.size, 0, none⟩ = some (.int .i64 p.min) ∧ va.cell? ⟨w.heap.size, 1, none⟩ = some (.int .i64 p.max) ∧ va.cell? ⟨w.heap.size, 2, none⟩ = some (.int .i64 p.target) ∧ va.cell? ⟨w.heap.size, 3, none⟩ = some (.int .i64 p.tol) ∧ va.cell? ⟨w.heap.size, 4, none⟩ = some (.int .i64 p.window) ∧ va.cell? ⟨w.heap.size, 5, none⟩ = some (.int .i64 p.hold) ∧ w.heap.size < va.heap.size ∧ Below w.heap.size w va := (by refine ⟨?_, ?_, ?_, ?_, ?_, ?_, ?_, ?_⟩ <;> first | assumption | go_simp)
  clear hca hfa hBa hza hsa
  go_region_held3 (fun w' => w'.cell? ⟨w.heap.size, 0, none⟩ = some (.int .i64 p.min) ∧ w'.cell? ⟨w.heap.size, 1, none⟩ = some (.int .i64 p.max) ∧ w'.cell? ⟨w.heap.size, 2, none⟩ = some (.int .i64 p.target) ∧ w'.cell? ⟨w.heap.size, 3, none⟩ = some (.int .i64 p.tol) ∧ w'.cell? ⟨w.heap.size, 4, none⟩ = some (.int .i64 p.window) ∧ w'.cell? ⟨w.heap.size, 5, none⟩ = some (.int .i64 p.hold) ∧ w.heap.size < w'.heap.size ∧ Below w.heap.size w w') (first | (go_split_ands; refine held6 (by assumption) ?_ ?_ ?_ ?_ ?_ ?_ ?_ ?_ <;> assumption) | exact held6_drew HS | (go_split_ands; refine ⟨?_, ?_, ?_, ?_, ?_, ?_, ?_, ?_⟩ <;> assumption))
    (first
      | (go_at_call 36; refine (tune_With p field value _).mono ?_; rintro e w1 ⟨rfl, hb⟩)
      | (go_at_call 37; refine (ref_With p field value _).mono ?_; rintro e w1 ⟨rfl, hb⟩)
      | (go_at_call 39; refine (tune_Ladder from_ to_ n _ hf ht hn).mono ?_; rintro e w1 ⟨vc, rfl, hoc, hb⟩; obtain ⟨A, la, ca, rfl, hla, hsa⟩ := own_shape hoc; clear hoc)
      | (go_at_call 40; refine (ref_Ladder from_ to_ n _ hf ht hn).mono ?_; rintro e w1 ⟨vd, rfl, hod, hb⟩; have hsb := ints_keep hsa hb; obtain ⟨B, lb, cb, rfl, hlb, hsc⟩ := own_shape hod; clear hod)
      | (go_at_call 38; refine (ref_Same _ _ _ _ _ _ _ _ _ hsb hsc).mono ?_; rintro e w1 ⟨rfl, hb⟩))
  have hz := held6_out (by assumption)
  go_wp2
  go_ret
  exact ⟨by simp, hz⟩
end Go.Proofs.Ytlodmnohmlkjmaa
