/- wide.Div. -/
import Derived.Test.YtkjmacdekfbfhaaDivP
import Derived.Test.YtkjmacdekfbfhaaWide
import Derived.Test.YtkjmacdekfbfhaaNum3
import Derived.RegionTactic
import Derived.ChangeAlike
namespace Go.Proofs.Ytkjmacdekfbfhaa
open Go.RowKit
set_option linter.unusedSimpArgs false
set_option linter.unusedVariables false
set_option maxHeartbeats 400000
theorem or_bit (r x y : Nat) (hx : x < 18446744073709551616) (hy : y = (2 * r + x / 9223372036854775808) % 18446744073709551616) : bits .or .u64 (IntKind.u64.wrap ((r : Int) * 2)) ((x : Int) / 9223372036854775808) = (y : Int) := by
  have e : IntKind.u64.wrap ((r : Int) * 2) = ((2 * r % 18446744073709551616 : Nat) : Int) := by rw [IntKind.wrap_u64]; omega
  have e2 : (x : Int) / 9223372036854775808 = ((x / 9223372036854775808 : Nat) : Int) := by omega
  rw [e, e2, u64_or_nat _ _ (by omega) (by omega), nat_join1 _ _ (by omega) (by omega)]
  omega
theorem or_pow (q m : Nat) (hq : q < 18446744073709551616) (hm : m < 64) : bits .or .u64 (q : Int) (IntKind.u64.wrap (2 ^ m)) = ((q ||| 2 ^ m : Nat) : Int) := by
  have hl : 2 ^ m < 18446744073709551616 := Nat.lt_of_lt_of_le (Nat.pow_lt_pow_right (n := 64) (by decide) hm) (by decide)
  have e : IntKind.u64.wrap (2 ^ m) = ((2 ^ m : Nat) : Int) := by
    rw [show (2 : Int) ^ m = ((2 ^ m : Nat) : Int) by simp, IntKind.wrap_u64]; generalize 2 ^ m = p at *; omega
  rw [e, u64_or_nat _ _ hq hl]
set_option maxRecDepth 100000 in
theorem wide_Div (h l d : Nat) (w : World) (hh : h < 2 ^ 64) (hl : l < 2 ^ 64) (hd : d < 2 ^ 64) (hd1 : 1 ≤ d) :
    Calls Try.prog 150 #[.agg #[.int .u64 h, .int .u64 l], .int .u64 d] w fun e w' =>
      e = .returned (.tuple #[.agg #[.int .u64 ((hiQ (two h l / d) : Nat) : Int), .int .u64 ((loQ (two h l / d) : Nat) : Int)], .int .u64 ((two h l % d : Nat) : Int), .bool true]) ∧ Below w.heap.size w w' := by
  have dd : ((d : Int) == 0) = false := by simp; omega
  have HH := Lib.hid hh
  have HL := Lib.hid hl
  have HD := Lib.hid hd
  clear hh hl hd
  go_enter Try.func150, Try.ntmps150
  go_wp2
  go_loopw [8, 14] (fun r i wr => ∃ k Q R xh xl qh ql : Nat, k ≤ 128 ∧ i = .int .i64 k ∧ r = .int .u64 R ∧ DivAt (two h l) d k Q R (two xh xl) ∧ two qh ql = Q * 2 ^ (128 - k) ∧ xh < 18446744073709551616 ∧ xl < 18446744073709551616 ∧ qh < 18446744073709551616 ∧ ql < 18446744073709551616 ∧
    Blk wr w.heap.size 192 #[.int .u64 xh, .int .u64 xl] ∧ Blk wr (w.heap.size + 1) 192 #[.int .u64 0, .int .u64 0] ∧ Blk wr (w.heap.size + 1 + 1) 192 #[.int .u64 qh, .int .u64 ql] ∧ Below w.heap.size w wr) (fun _ i _ => 128 - (intOf i).toNat)
  case atStart =>
    refine ⟨0, 0, 0, h, l, 0, 0, by omega, rfl, rfl, DivAt.start (by unfold two; have := HH.out; have := HL.out; omega) (by omega), by simp [two], HH.out, HL.out, by omega, by omega, ?_, ?_, ?_, by go_grown⟩
    · exact ((Blk.new w _ _).alloc _).alloc _
    · exact (Blk.new_ w _ _ _).alloc _
    · exact Blk.new__ w _ _ _ _
  case round =>
    obtain ⟨k, Q, R, xh, xl, qh, ql, hk, rfl, rfl, hdiv, hq, bxh, bxl, bqh, bql, h0, h1, h2, hbel⟩ := hrel
    have HV := Lib.hid hdiv
    have HQ := Lib.hid hq
    have H0 := Lib.hid h0
    have H1 := Lib.hid h1
    have H2 := Lib.hid h2
    have HBel := Lib.hid hbel
    clear hdiv hq h0 h1 h2 hbel
    by_cases hlt : k < 128
    · obtain ⟨R2, hR2⟩ : ∃ R2 : Nat, R2 = (2 * R + xh / 9223372036854775808) % 18446744073709551616 := ⟨_, rfl⟩
      obtain ⟨xh2, hxh2⟩ : ∃ xh2 : Nat, xh2 = (2 * xh + xl / 9223372036854775808) % 18446744073709551616 := ⟨_, rfl⟩
      obtain ⟨xl2, hxl2⟩ : ∃ xl2 : Nat, xl2 = 2 * xl % 18446744073709551616 := ⟨_, rfl⟩
      have hRd : R < d := HV.out.rest
      have hdd := HD.out
      have e1 : bits .or .u64 (IntKind.u64.wrap ((R : Int) * 2)) ((xh : Int) / 9223372036854775808) = (R2 : Int) := or_bit R xh R2 (by omega) hR2
      have e2 : bits .or .u64 (IntKind.u64.wrap ((xh : Int) * 2)) ((xl : Int) / 9223372036854775808) = (xh2 : Int) := or_bit xh xl xh2 (by omega) hxh2
      have e3 : IntKind.u64.wrap ((xl : Int) * 2) = (xl2 : Int) := by rw [IntKind.wrap_u64]; omega
      have e4 : ∀ (h : R < 9223372036854775808), bits .or .u64 ((R : Int) * 2) ((xh : Int) / 9223372036854775808) = (R2 : Int) := fun h => by
        rw [← e1, IntKind.wrap_u64]; congr 1; omega
      have hx2 : two xh2 xl2 = 2 * two xh xl % 2 ^ 128 := by rw [hxh2, hxl2]; unfold two; omega
      have hbit : xh / 9223372036854775808 = two xh xl / 2 ^ 127 := by unfold two; omega
      have hx64 : xh2 < 18446744073709551616 := by omega
      have hl64 : xl2 < 18446744073709551616 := by omega
      have r0 := H0.out.cellv (i := 0) (v := .int .u64 xh) rfl
      have r1 := H0.out.cellv (i := 1) (v := .int .u64 xl) rfl
      have f0 := H0.out.frozen 0
      have f1 := H0.out.frozen 1
      have r2 := H2.out.cellv (i := 0) (v := .int .u64 qh) rfl
      have r3 := H2.out.cellv (i := 1) (v := .int .u64 ql) rfl
      have f2 := H2.out.frozen 0
      have f3 := H2.out.frozen 1
      by_cases hc : 2 * R + xh / 9223372036854775808 < d
      · have HS := Lib.hid (show DivAt (two h l) d (k + 1) (2 * Q) R2 (two xh2 xl2) by
          have := HV.out.step0 (by rw [← hbit]; exact hc)
          rw [← hbit, ← hx2] at this
          rw [show R2 = 2 * R + xh / 9223372036854775808 by omega]
          exact this)
        have hRs : R < 9223372036854775808 := by omega
        have d1 : ((R : Int) / 9223372036854775808 == 0) = true := by simp; omega
        have d2 : (R : Int) / 9223372036854775808 = 0 := by omega
        have d3 : R2 < d := by omega
        have e5 := e4 hRs
        clear e4 hbit hR2 hxh2 hxl2 hx2 hc
        go_wp2
        go_roundw
        case rel =>
          refine ⟨k + 1, 2 * Q, R2, xh2, xl2, qh, ql, by omega, by go_num, rfl, HS.out, by rw [quo_keep hlt]; exact HQ.out, hx64, hl64, bqh, bql, ?_, (H1.out.far (by simp <;> omega) _).far (by simp <;> omega) _, (H2.out.far (by simp <;> omega) _).far (by simp <;> omega) _, (HBel.out.setCell (by simp <;> omega) _).setCell (by simp <;> omega) _⟩
          exact (H0.out.set_ 0 _).set_ 1 _
        case measure => simp [intOf]; omega
      · obtain ⟨R3, hR3⟩ : ∃ R3 : Nat, R3 = 2 * R + xh / 9223372036854775808 - d := ⟨_, rfl⟩
        have HS := Lib.hid (show DivAt (two h l) d (k + 1) (2 * Q + 1) R3 (two xh2 xl2) by
          have := HV.out.step1 (by rw [← hbit]; omega)
          rw [← hbit, ← hx2, ← hR3] at this
          exact this)
        have e6 : IntKind.u64.wrap ((R2 : Int) - (d : Int)) = (R3 : Int) := by rw [IntKind.wrap_u64]; omega
        have hsm := HV.out.small (by unfold two; have := HH.out; have := HL.out; omega) hk
        have hR264 : R2 < 18446744073709551616 := by omega
        by_cases hk64 : k < 64
        · obtain ⟨q1, q2, q3, q4⟩ := quo_high hk64 hsm (by have := bql; omega) HQ.out
          have hor2 : bits .or .u64 (qh : Int) (IntKind.u64.wrap (2 ^ (63 - k))) = ((qh ||| 2 ^ (63 - k) : Nat) : Int) := or_pow qh (63 - k) bqh (by omega)
          generalize (qh ||| 2 ^ (63 - k)) = qn at *
          have Q1 := Lib.hid q1
          clear q1 q2
          by_cases hRs : R < 9223372036854775808
          · have d1 : ((R : Int) / 9223372036854775808 == 0) = true := by simp; omega
            have d2 : (R : Int) / 9223372036854775808 = 0 := by omega
            have d3 : decide (R2 < d) = false := by simp; omega
            have e5 := e4 hRs
            clear e4 hbit hR2 hxh2 hxl2 hx2 hc hR3
            go_wp2
            go_region
            go_wp2
            go_roundw
            case rel =>
              refine ⟨k + 1, 2 * Q + 1, R3, xh2, xl2, qn, ql, by omega, by go_num, rfl, HS.out, Q1.out, hx64, hl64, q4, bql, ?_, ?_, ?_, ?_⟩
              · exact ((((H0.out.set_ 0 _).set_ 1 _).far (by simp <;> omega) _).drew)
              · exact ((((H1.out.far (by simp <;> omega) _).far (by simp <;> omega) _).far (by simp <;> omega) _).drew)
              · have := (((H2.out.far (p := ⟨w.heap.size, 0, none⟩) (by simp <;> omega) (.int .u64 xh2)).far (p := ⟨w.heap.size, 1, none⟩) (by simp <;> omega) (.int .u64 xl2)).set_ 0 (.int .u64 qn)).drew
                exact this
              · exact ((((HBel.out.setCell (by simp <;> omega) _).setCell (by simp <;> omega) _).setCell (by simp <;> omega) _).drew)
            case measure => simp [intOf]; omega
          · have d1 : ((R : Int) / 9223372036854775808 == 0) = false := by simp; omega
            have d2 : ¬ (R : Int) / 9223372036854775808 = 0 := by omega
            clear e4 hbit hR2 hxh2 hxl2 hx2 hc hR3
            go_wp2
            go_region
            go_wp2
            go_roundw
            case rel =>
              refine ⟨k + 1, 2 * Q + 1, R3, xh2, xl2, qn, ql, by omega, by go_num, rfl, HS.out, Q1.out, hx64, hl64, q4, bql, ?_, ?_, ?_, ?_⟩
              · exact ((((H0.out.set_ 0 _).set_ 1 _).far (by simp <;> omega) _).drew)
              · exact ((((H1.out.far (by simp <;> omega) _).far (by simp <;> omega) _).far (by simp <;> omega) _).drew)
              · have := (((H2.out.far (p := ⟨w.heap.size, 0, none⟩) (by simp <;> omega) (.int .u64 xh2)).far (p := ⟨w.heap.size, 1, none⟩) (by simp <;> omega) (.int .u64 xl2)).set_ 0 (.int .u64 qn)).drew
                exact this
              · exact ((((HBel.out.setCell (by simp <;> omega) _).setCell (by simp <;> omega) _).setCell (by simp <;> omega) _).drew)
            case measure => simp [intOf]; omega
        · obtain ⟨q1, q3, q4⟩ := quo_low hlt (by omega) hsm (by have := bql; omega) HQ.out
          have hor2 : bits .or .u64 (ql : Int) (IntKind.u64.wrap (2 ^ (127 - k))) = ((ql ||| 2 ^ (127 - k) : Nat) : Int) := or_pow ql (127 - k) bql (by omega)
          generalize (ql ||| 2 ^ (127 - k)) = qn at *
          have Q1 := Lib.hid q1
          clear q1
          by_cases hRs : R < 9223372036854775808
          · have d1 : ((R : Int) / 9223372036854775808 == 0) = true := by simp; omega
            have d2 : (R : Int) / 9223372036854775808 = 0 := by omega
            have d3 : decide (R2 < d) = false := by simp; omega
            have e5 := e4 hRs
            clear e4 hbit hR2 hxh2 hxl2 hx2 hc hR3
            go_wp2
            go_region
            go_wp2
            go_roundw
            case rel =>
              refine ⟨k + 1, 2 * Q + 1, R3, xh2, xl2, qh, qn, by omega, by go_num, rfl, HS.out, Q1.out, hx64, hl64, bqh, q4, ?_, ?_, ?_, ?_⟩
              · exact ((((H0.out.set_ 0 _).set_ 1 _).far (by simp <;> omega) _).drew)
              · exact ((((H1.out.far (by simp <;> omega) _).far (by simp <;> omega) _).far (by simp <;> omega) _).drew)
              · have := (((H2.out.far (p := ⟨w.heap.size, 0, none⟩) (by simp <;> omega) (.int .u64 xh2)).far (p := ⟨w.heap.size, 1, none⟩) (by simp <;> omega) (.int .u64 xl2)).set_ 1 (.int .u64 qn)).drew
                exact this
              · exact ((((HBel.out.setCell (by simp <;> omega) _).setCell (by simp <;> omega) _).setCell (by simp <;> omega) _).drew)
            case measure => simp [intOf]; omega
          · have d1 : ((R : Int) / 9223372036854775808 == 0) = false := by simp; omega
            have d2 : ¬ (R : Int) / 9223372036854775808 = 0 := by omega
            clear e4 hbit hR2 hxh2 hxl2 hx2 hc hR3
            go_wp2
            go_region
            go_wp2
            go_roundw
            case rel =>
              refine ⟨k + 1, 2 * Q + 1, R3, xh2, xl2, qh, qn, by omega, by go_num, rfl, HS.out, Q1.out, hx64, hl64, bqh, q4, ?_, ?_, ?_, ?_⟩
              · exact ((((H0.out.set_ 0 _).set_ 1 _).far (by simp <;> omega) _).drew)
              · exact ((((H1.out.far (by simp <;> omega) _).far (by simp <;> omega) _).far (by simp <;> omega) _).drew)
              · have := (((H2.out.far (p := ⟨w.heap.size, 0, none⟩) (by simp <;> omega) (.int .u64 xh2)).far (p := ⟨w.heap.size, 1, none⟩) (by simp <;> omega) (.int .u64 xl2)).set_ 1 (.int .u64 qn)).drew
                exact this
              · exact ((((HBel.out.setCell (by simp <;> omega) _).setCell (by simp <;> omega) _).setCell (by simp <;> omega) _).drew)
            case measure => simp [intOf]; omega
    · obtain rfl : k = 128 := by omega
      obtain ⟨e1, e2⟩ := HV.out.done
      have hq := HQ.out
      rw [Nat.sub_self, Nat.pow_zero, Nat.mul_one, e1] at hq
      obtain ⟨g1, g2⟩ := hi_lo_of (N := two h l / d) (h := qh) (l := ql) hq.symm (by omega)
      have G1 := Lib.hid g1
      have G2 := Lib.hid g2
      have E2 := Lib.hid e2
      clear e1 e2 g1 g2 hq
      have r2 := H2.out.cellv (i := 0) (v := .int .u64 qh) rfl
      have r3 := H2.out.cellv (i := 1) (v := .int .u64 ql) rfl
      have s2 := H1.out.cellv (i := 0) (v := .int .u64 0) rfl
      have s3 := H1.out.cellv (i := 1) (v := .int .u64 0) rfl
      have f2 := H1.out.frozen 0
      have f3 := H1.out.frozen 1
      go_wp2
      refine bodyPost_ret (results_row_tmp2 rfl _ _ (w.heap.size + 1) _ _ _ rfl ((H1.out.set_ 0 _).set_ 1 _) Try.underlying192 rfl (by kernel_rfl)) rfl ⟨?_, (HBel.out.setCell (by simp <;> omega) _).setCell (by simp <;> omega) _⟩
      rw [G1.out, G2.out, ← E2.out]
      rfl
end Go.Proofs.Ytkjmacdekfbfhaa
