/- Chapter 29's laws: the example. -/
import Derived.Test.YtkjmacdekfbfhaaOps2
import Derived.Test.YtkjmacdekfbfhaaRis
namespace Go.Proofs.Ytkjmacdekfbfhaa
open Go.RowKit
set_option linter.unusedSimpArgs false
set_option linter.unusedVariables false
set_option maxHeartbeats 8000000
set_option maxRecDepth 100000
def copEq (x y : COp) : Bool := decide (x = y)
theorem eq_cop (x y : COp) :
    (∀ (W : World) (op : BinOp) (o1 o2 : Operand), (eqGuard op 35 o1 o2 (.agg x.row) (.agg y.row)).run Try.prog W = .ok () W) ∧
    (∀ W : World, (binOp .eql 35 (.agg x.row) (.agg y.row)).run Try.prog W = .ok (.bool (copEq x y)) W) ∧
    (∀ W : World, (binOp .neq 35 (.agg x.row) (.agg y.row)).run Try.prog W = .ok (.bool (!copEq x y)) W) := by
  refine eq_ints (by kernel_rfl) (by kernel_rfl) (by kernel_rfl) (by kernel_rfl) [.i64, .i64] [x.kind, x.lock] [y.kind, y.lock] (by kernel_rfl) (by kernel_rfl) (by kernel_rfl) _ _ rfl rfl _ ?_
  obtain ⟨a, b⟩ := x
  obtain ⟨a', b'⟩ := y
  unfold copEq
  rw [Bool.eq_iff_iff]
  simp
def cf1 : Cfg := ⟨1, 1, 1, 1⟩
def pol0 : Pol := ⟨0, 0, 0, 0, 0, 0⟩
def strA : ByteArray := ⟨#[97]⟩
theorem cf1_ok : cf1.okC := by unfold Cfg.okC cf1; decide
theorem cf1_fit : cf1.fit := by unfold Cfg.fit cf1 I64; decide
theorem home_A : homeq cf1 strA = 0 := by
  unfold homeq
  rw [if_pos (by decide)]
  have := (ofq_bd (keyHi strA) (keyLo strA) cf1.str).2.2 (by decide)
  have h : cf1.str = 1 := rfl
  omega
theorem steps_A : stepsq cf1 7 strA 0 0 pol0 = [⟨1, 0⟩, ⟨2, 0⟩, ⟨4, 0⟩, ⟨5, 0⟩, ⟨7, 0⟩] := by
  unfold stepsq
  rw [home_A, decide_eq_true cf1_ok, show callErr 7 strA 0 0 pol0 = 0 from by unfold callErr; rw [if_neg (by decide), if_neg (by decide), if_neg (by decide), if_neg (by decide), if_neg (by decide)]]
  rfl
theorem steps_9 : stepsq cf1 9 ⟨#[]⟩ 0 0 pol0 = [⟨1, 0⟩, ⟨7, 0⟩] := by
  unfold stepsq
  rw [decide_eq_true cf1_ok, show callErr 9 ⟨#[]⟩ 0 0 pol0 = 14 from by unfold callErr; rw [if_pos (by decide)]]
  rfl
theorem awake29 (w : World) : Calls Try.prog 14 #[] w fun e w' => e = .returned (.bool true) ∧ Below w.heap.size w w' := by
  have H1 := Lib.hid (show ∀ W, Calls Try.prog 15 #[.agg #[.int .i64 1, .int .i64 1, .int .i64 1, .int .i64 1], .agg #[.int .i64 7, .string ⟨#[97]⟩, .int .i64 0, .int .i64 0, .int .i64 0, .int .i64 0, .int .i64 0, .int .i64 0, .int .i64 0, .int .i64 0, .int .i64 0]] W (OwnedC W [⟨1, 0⟩, ⟨2, 0⟩, ⟨4, 0⟩, ⟨5, 0⟩, ⟨7, 0⟩]) from fun W => by
    have := calls_Ops cf1 7 strA 0 0 0 pol0 W (by decide) cf1_fit
    rw [steps_A] at this
    exact this)
  have H2 := Lib.hid (show ∀ W, Calls Try.prog 15 #[.agg #[.int .i64 1, .int .i64 1, .int .i64 1, .int .i64 1], .agg #[.int .i64 9, .string ⟨#[]⟩, .int .i64 0, .int .i64 0, .int .i64 0, .int .i64 0, .int .i64 0, .int .i64 0, .int .i64 0, .int .i64 0, .int .i64 0]] W (OwnedC W [⟨1, 0⟩, ⟨7, 0⟩]) from fun W => by
    have := calls_Ops cf1 9 ⟨#[]⟩ 0 0 0 pol0 W (by decide) cf1_fit
    rw [steps_9] at this
    exact this)
  have HL := Lib.hid (show ∀ W, Calls Try.prog 57 #[.agg #[.int .i64 1, .int .i64 1, .int .i64 1, .int .i64 1]] W fun e w' => e = .returned (.int .i64 2) ∧ Below W.heap.size W w' from fun W => calls_Line cf1 W (by decide) (by decide))
  have HC := Lib.hid (show ∀ W, Calls Try.prog 58 #[.agg #[.int .i64 1, .int .i64 1, .int .i64 1, .int .i64 1]] W fun e w' => e = .returned (.int .i64 1) ∧ Below W.heap.size W w' from fun W => calls_Cuts cf1 W)
  have Q := Lib.hid (eq_cop ⟨2, 0⟩ ⟨2, 0⟩)
  have hce : copEq ⟨2, 0⟩ ⟨2, 0⟩ = true := rfl
  rw [hce] at Q
  have X := Lib.hid (And.intro (Blk.new w 23 #[.int .i64 1, .int .i64 1, .int .i64 1, .int .i64 1]) (show Below w.heap.size w (w.alloc (.cells #[.int .i64 1, .int .i64 1, .int .i64 1, .int .i64 1] 23)) by go_grown))
  obtain ⟨q1, q2, q3⟩ := Q.out
  clear Q hce q3
  go_enter Try.func14, Try.ntmps14
  go_wp2_with (first
    | (go_at_call 15; (with_reducible refine (H1.out _).mono ?_); rintro e v1 ⟨V1, rfl, o1, hb1⟩; obtain ⟨A1, n1, c1, rfl, hn1, hs1⟩ := o1.shape cop_len; obtain rfl : n1 = 5 := hn1; obtain ⟨b, off, x, rfl, hx, hb, t0, t1⟩ := COpsAre.at_ hs1 (k := 1) (by decide); obtain rfl : x = ⟨2, 0⟩ := (by simpa using hx.symm); have D1 := Lib.hid (X.out.2.trans (hb1.mono X.out.2.size)); have B1 := Lib.hid (X.out.1.call hb1); have r0 := B1.out.cellv (i := 0) (v := .int .i64 1) rfl; have r1 := B1.out.cellv (i := 1) (v := .int .i64 1) rfl; have r2 := B1.out.cellv (i := 2) (v := .int .i64 1) rfl; have r3 := B1.out.cellv (i := 3) (v := .int .i64 1) rfl; simp only [Nat.one_mul] at t0 t1; clear hb1 hs1 o1 hx)
    | (go_at_call 15; (with_reducible refine (H2.out _).mono ?_); rintro e v2 ⟨V2, rfl, o2, hb2⟩; obtain ⟨A2, n2, c2, rfl, hn2, hs2⟩ := o2.shape cop_len; obtain rfl : n2 = 2 := hn2; have D2 := Lib.hid (D1.out.trans (hb2.mono D1.out.size)); have B2 := Lib.hid (B1.out.call hb2); clear r0 r1 r2 r3; have r0 := B2.out.cellv (i := 0) (v := .int .i64 1) rfl; have r1 := B2.out.cellv (i := 1) (v := .int .i64 1) rfl; have r2 := B2.out.cellv (i := 2) (v := .int .i64 1) rfl; have r3 := B2.out.cellv (i := 3) (v := .int .i64 1) rfl; clear hb2 hs2 o2)
    | (go_at_call 57; refine (HL.out _).mono ?_; rintro e v3 ⟨rfl, hb3⟩; have D3 := Lib.hid (D2.out.trans (hb3.mono D2.out.size)); have B3 := Lib.hid (B2.out.call hb3); clear r0 r1 r2 r3; have r0 := B3.out.cellv (i := 0) (v := .int .i64 1) rfl; have r1 := B3.out.cellv (i := 1) (v := .int .i64 1) rfl; have r2 := B3.out.cellv (i := 2) (v := .int .i64 1) rfl; have r3 := B3.out.cellv (i := 3) (v := .int .i64 1) rfl; clear hb3)
    | (go_at_call 58; refine (HC.out _).mono ?_; rintro e v4 ⟨rfl, hb4⟩; have D4 := Lib.hid (D3.out.trans (hb4.mono D3.out.size)); clear hb4))
  go_ret
  exact ⟨rfl, D4.out⟩
theorem i64s {n : Int} (h : -100 ≤ n ∧ n ≤ 100) : I64 n := by unfold I64; omega
theorem inq_good {home : Int} {s : Nat} (h : -1 ≤ home ∧ home < 64) (hs : s ≤ 64) (k : Int) : ∀ x ∈ inq home s k, x.good := by
  have ha : ∀ (n : Nat) (k : Int), n ≤ 64 → I64 k → ∀ x ∈ allq n k, x.good := by
    intro n k hn hk x hx
    unfold allq at hx
    obtain ⟨i, hi, rfl⟩ := List.mem_map.1 hx
    rw [List.mem_range] at hi
    exact ⟨hk, by unfold I64; simp only; omega⟩
  have ho : ∀ (k h : Int), I64 k → I64 h → ∀ x ∈ oneq k h, x.good := by
    intro k h hk hh x hx
    simp [oneq] at hx
    rcases hx with rfl | rfl | rfl
    · exact ⟨hk, hh⟩
    · exact ⟨i64s (by decide), i64s (by decide)⟩
    · exact ⟨i64s (n := 5) (by decide), hh⟩
  have hh : I64 home := by unfold I64; omega
  have hl : I64 ((s : Int) + 1) := by unfold I64; omega
  have hs2 : I64 (s : Int) := by unfold I64; omega
  have h2 : I64 2 := i64s (by decide)
  have h3 : I64 3 := i64s (by decide)
  have h5 : I64 5 := i64s (by decide)
  intro x hx
  unfold inq at hx
  split at hx
  · rcases List.mem_append.1 hx with hx | hx
    · exact ho _ _ h3 hh x hx
    · simp at hx
      rcases hx with rfl | rfl | rfl
      · exact ⟨h3, hl⟩
      · exact ⟨i64s (by decide), i64s (by decide)⟩
      · exact ⟨h5, hl⟩
  split at hx
  · rcases List.mem_append.1 hx with hx | hx
    · rcases List.mem_append.1 hx with hx | hx
      · exact ha _ _ hs h3 x hx
      · simp at hx; subst hx; exact ⟨i64s (by decide), i64s (by decide)⟩
    · exact ha _ _ hs h5 x hx
  split at hx
  · rcases List.mem_append.1 hx with hx | hx
    · rcases List.mem_append.1 hx with hx | hx
      · exact ha _ _ hs h2 x hx
      · exact ho _ _ h3 hs2 x hx
    · exact ha _ _ hs h5 x hx
  split at hx
  · exact ho _ _ h3 hs2 x hx
  split at hx
  · exact ho _ _ h2 hs2 x hx
  split at hx
  · exact ho _ _ h2 hh x hx
  · exact ho _ _ h3 hl x hx
theorem stepsq_good (c : Cfg) (k : Int) (s : ByteArray) (t v : Int) (p : Pol) : ∀ x ∈ stepsq c k s t v p, x.good := by
  intro x hx
  unfold stepsq opsq at hx
  split at hx
  · rename_i h
    have hr := right_cases (of_decide_eq_true h).1
    rcases List.mem_append.1 hx with hx | hx
    · rcases List.mem_append.1 hx with hx | hx
      · simp at hx; subst hx; exact ⟨i64s (by decide), i64s (by decide)⟩
      · split at hx
        · exact inq_good (homeq_bd c s) (by omega) k x hx
        · simp at hx
    · simp at hx; subst hx; exact ⟨i64s (by decide), i64s (by decide)⟩
  · simp at hx
end Go.Proofs.Ytkjmacdekfbfhaa
