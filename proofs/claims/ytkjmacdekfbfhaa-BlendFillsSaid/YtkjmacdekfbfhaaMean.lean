/- wide.Total, wide.Scale, wide.Mean. -/
import Derived.Test.YtkjmacdekfbfhaaTotal
import Derived.Test.YtkjmacdekfbfhaaDiv
namespace Go.Proofs.Ytkjmacdekfbfhaa
open Go.RowKit
set_option linter.unusedSimpArgs false
set_option linter.unusedVariables false
set_option maxHeartbeats 400000
set_option maxRecDepth 100000 in
theorem wide_Total (A : Option Addr) (len cap : Nat) (l : List Int) (w : World) (hs : IntsAre w A len cap l) (hg : ∀ x ∈ l, I64 x) (hn : len ≤ 1000000) :
    Calls Try.prog 151 #[.slice A len cap] w fun e w' => e = .returned (.agg #[.int .u64 ((hiQ (totq l) : Nat) : Int), .int .u64 ((loQ (totq l) : Nat) : Int)]) ∧ Below w.heap.size w w' := by
  have HS := Lib.hid hs
  have HG := Lib.hid hg
  have HL := Lib.hid hs.1
  clear hs hg
  go_enter Try.func151, Try.ntmps151
  go_wp2
  go_loopw [8] (fun i wr => ∃ k O : Nat, k ≤ len ∧ i = .int .i64 k ∧ O = totq (l.take k) ∧ Blk wr w.heap.size 192 #[.int .u64 0, .int .u64 0] ∧ Blk wr (w.heap.size + 1) 192 #[.int .u64 ((hiQ O : Nat) : Int), .int .u64 ((loQ O : Nat) : Int)] ∧ Below w.heap.size w wr) (fun i _ => len - (intOf i).toNat)
  case atStart =>
    refine ⟨0, 0, by omega, rfl, rfl, ?_, ?_, by go_grown⟩
    · exact (Blk.new w _ _).alloc _
    · exact Blk.new_ w _ _ _
  case round =>
    obtain ⟨k, O, hk, rfl, hO, h0, h1, hbel⟩ := hrel
    have H0 := Lib.hid h0
    have H1 := Lib.hid h1
    have HBel := Lib.hid hbel
    by_cases hlt : k < len
    · obtain ⟨b, off, x, rfl, hx, hb, hc⟩ := HS.out.at_ hlt
      have kc := (hbel.cell (p := ⟨b, off + k, none⟩) hb).trans hc
      have hxI := HG.out x (List.mem_of_getElem? hx)
      unfold I64 at hxI
      have hsn := totq_snoc (l.take k) x
      rw [← take_next hx, ← hO] at hsn
      have hle := totq_lt (l.take k) (take_I64 HG.out k)
      have hlk : (l.take k).length ≤ 1000000 := by rw [List.length_take]; omega
      have hle2 : totq (l.take k) ≤ 1000000 * 9223372036854775807 := Nat.le_trans hle (Nat.mul_le_mul_right _ hlk)
      rw [← hO] at hle2
      clear hle hlk
      have hki : (k : Int) < (len : Int) := by omega
      by_cases hpos : 0 < x
      · obtain ⟨X, rfl⟩ : ∃ X : Nat, x = (X : Int) := ⟨x.toNat, by omega⟩
        rw [Int.toNat_natCast] at hsn
        have HN := Lib.hid (show sumRow (O + X) = totq (l.take (k + 1)) by rw [hsn]; unfold sumRow; rw [if_pos (by omega)])
        have HM := Lib.hid (show O < 2 ^ 128 ∧ X < 2 ^ 128 ∧ X < 2 ^ 64 by omega)
        have hX0 : (0 : Int) = ((hiQ X : Nat) : Int) := by have : hiQ X = 0 := by unfold hiQ; omega
                                                           rw [this]; rfl
        have hX1 : (X : Int) = ((loQ X : Nat) : Int) := by have : loQ X = X := by unfold loQ; omega
                                                           rw [this]
        have HC := Lib.hid (fun W => (wide_AddN O X W HM.out.1 HM.out.2.1))
        rw [← hX0, ← hX1] at HC
        have r0 := H1.out.cellv (i := 0) (v := .int .u64 ((hiQ O : Nat) : Int)) rfl
        have r1 := H1.out.cellv (i := 1) (v := .int .u64 ((loQ O : Nat) : Int)) rfl
        have f0 := H1.out.frozen 0
        have f1 := H1.out.frozen 1
        clear hsn hle2 hO hx hc hb h0 h1 hX0 hX1
        go_wp2_with (first | (go_at_call 152; refine (HC.out _).mono ?_; rintro e v2 ⟨rfl, hb2⟩; have r20 := (H1.out.call hb2).cellv (i := 0) (v := .int .u64 ((hiQ O : Nat) : Int)) rfl; have r21 := (H1.out.call hb2).cellv (i := 1) (v := .int .u64 ((loQ O : Nat) : Int)) rfl; have f20 := (H1.out.call hb2).frozen 0; have f21 := (H1.out.call hb2).frozen 1))
        go_roundw
        case rel =>
          refine ⟨k + 1, sumRow (O + X), by omega, by go_num, HN.out, ((H0.out.call hb2).far (by simp) _).far (by simp) _, ((H1.out.call hb2).set_ 0 _).set_ 1 _, ((HBel.out.trans (hb2.mono HBel.out.size)).setCell (by simp) _).setCell (by simp) _⟩
        case measure => simp [intOf]; omega
      · have d : decide (0 < x) = false := by simpa using hpos
        have HN := Lib.hid (show O = totq (l.take (k + 1)) by rw [hsn, show x.toNat = 0 by omega, Nat.add_zero])
        clear hsn hle2 hO hx hc hb h0 h1
        go_wp2
        go_roundw
        case rel => exact ⟨k + 1, O, by omega, by go_num, HN.out, H0.out, H1.out, HBel.out⟩
        case measure => simp [intOf]; omega
    · obtain rfl : k = len := by omega
      obtain rfl : O = totq l := by rw [hO, List.take_of_length_le (by have := HL.out; omega)]
      clear hO h0 h1
      have r0 := H1.out.cellv (i := 0) (v := .int .u64 ((hiQ (totq l) : Nat) : Int)) rfl
      have r1 := H1.out.cellv (i := 1) (v := .int .u64 ((loQ (totq l) : Nat) : Int)) rfl
      have s2 := H0.out.cellv (i := 0) (v := .int .u64 0) rfl
      have s3 := H0.out.cellv (i := 1) (v := .int .u64 0) rfl
      have f2 := H0.out.frozen 0
      have f3 := H0.out.frozen 1
      go_wp2
      refine bodyPost_ret (results_row rfl _ _ w.heap.size _ _ _ rfl ((H0.out.set_ 0 _).set_ 1 _) Try.underlying192 rfl (by kernel_rfl)) rfl ⟨rfl, (HBel.out.setCell (by simp <;> omega) _).setCell (by simp <;> omega) _⟩
theorem wide_DivN (N d : Nat) (w : World) (hN : N < 2 ^ 128) (hd : d < 2 ^ 64) (hd1 : 1 ≤ d) :
    Calls Try.prog 150 #[.agg #[.int .u64 ((hiQ N : Nat) : Int), .int .u64 ((loQ N : Nat) : Int)], .int .u64 d] w fun e w' =>
      e = .returned (.tuple #[.agg #[.int .u64 ((hiQ (N / d) : Nat) : Int), .int .u64 ((loQ (N / d) : Nat) : Int)], .int .u64 ((N % d : Nat) : Int), .bool true]) ∧ Below w.heap.size w w' := by
  have := wide_Div (hiQ N) (loQ N) d w (hiQ_lt hN) (loQ_lt N) hd hd1
  rw [two_eq] at this
  exact this
theorem wide_SmallN (N : Nat) (w : World) (hN : N < 2 ^ 128) :
    Calls Try.prog 153 #[.agg #[.int .u64 ((hiQ N : Nat) : Int), .int .u64 ((loQ N : Nat) : Int)]] w fun e w' => e = .returned (.int .i64 ((smallQ N : Nat) : Int)) ∧ Below w.heap.size w w' := by
  have := wide_Small (hiQ N) (loQ N) w (hiQ_lt hN) (loQ_lt N)
  rw [two_eq] at this
  exact this
theorem wide_Add1 (N : Nat) (w : World) (hN : N < 2 ^ 127) :
    Calls Try.prog 152 #[.agg #[.int .u64 ((hiQ N : Nat) : Int), .int .u64 ((loQ N : Nat) : Int)], .agg #[.int .u64 0, .int .u64 1]] w fun e w' =>
      e = .returned (.tuple #[.agg #[.int .u64 ((hiQ (N + 1) : Nat) : Int), .int .u64 ((loQ (N + 1) : Nat) : Int)], .bool true]) ∧ Below w.heap.size w w' := by
  have := wide_AddN N 1 w (by omega) (by omega)
  rw [show sumRow (N + 1) = N + 1 from if_pos (by omega), show sumFits (N + 1) = true from decide_eq_true (by omega)] at this
  exact this
theorem upq_zero {n d : Nat} (hd : 0 < d) (h : n % d = 0) : upq n d = n / d := by
  refine ((upq_spec hd).1 ⟨?_, ?_⟩).symm
  · have := Nat.div_add_mod n d; rw [Nat.mul_comm]; omega
  · rcases Nat.eq_zero_or_pos (n / d) with h0 | h0
    · exact .inl h0
    · right
      have := Nat.div_add_mod n d
      obtain ⟨m, hm⟩ : ∃ m, n / d = m + 1 := ⟨n / d - 1, by omega⟩
      rw [hm] at this ⊢
      rw [Nat.add_sub_cancel, Nat.mul_comm]
      rw [Nat.mul_add] at this
      omega
theorem upq_pos {n d : Nat} (hd : 0 < d) (h : 0 < n % d) : upq n d = n / d + 1 := by
  refine ((upq_spec hd).1 ⟨?_, .inr ?_⟩).symm
  · have := Nat.div_add_mod n d; have := Nat.mod_lt n hd; rw [Nat.mul_comm, Nat.mul_add]; omega
  · have := Nat.div_add_mod n d; rw [Nat.add_sub_cancel, Nat.mul_comm]; omega
def scaleq (a b c : Int) : Int := if a < 0 ∨ b < 0 ∨ c < 1 then 0 else (smallQ (upq (a.toNat * b.toNat) c.toNat) : Nat)
def meanq (l : List Int) : Int := if l.length = 0 then 0 else (smallQ (upq (totq l) l.length) : Nat)
theorem mul_lt126 {a b : Nat} (ha : a < 9223372036854775808) (hb : b < 9223372036854775808) : a * b < 2 ^ 126 := by
  have := Nat.mul_le_mul (show a ≤ 9223372036854775807 by omega) (show b ≤ 9223372036854775807 by omega)
  omega
set_option maxRecDepth 100000 in
theorem wide_Mean (A : Option Addr) (len cap : Nat) (l : List Int) (w : World) (hs : IntsAre w A len cap l) (hg : ∀ x ∈ l, I64 x) (hn : len ≤ 1000000) :
    Calls Try.prog 120 #[.slice A len cap] w fun e w' => e = .returned (.int .i64 (meanq l)) ∧ Below w.heap.size w w' := by
  have hl := hs.1
  by_cases h1 : len = 0
  · have HQ := Lib.hid (show meanq l = 0 from if_pos (by omega))
    have h0 : ((len : Int) == 0) = true := by simp; omega
    clear hs hl h1
    go_enter Try.func120, Try.ntmps120
    go_wp2
    go_ret
    exact ⟨ret_int HQ.out.symm, by go_grown⟩
  have HQ := Lib.hid (show meanq l = (smallQ (upq (totq l) len) : Nat) by unfold meanq; rw [if_neg (by omega), hl])
  have h0 : ((len : Int) == 0) = false := by simp; omega
  have hle := totq_lt l hg
  have hle2 : totq l ≤ 1000000 * 9223372036854775807 := Nat.le_trans hle (Nat.mul_le_mul_right _ (by omega))
  have HXY := Lib.hid (show totq l < 2 ^ 128 by omega)
  have HQL := Lib.hid (show totq l / len < 2 ^ 126 by exact Nat.lt_of_le_of_lt (Nat.div_le_self _ _) (by omega))
  have HTot := Lib.hid (fun W h => wide_Total A len cap l W h hg hn)
  have HS := Lib.hid hs
  have d0 : 1 ≤ len := by omega
  have HD := Lib.hid (show len < 2 ^ 64 by omega)
  clear hs hl hle hle2 hg h1
  generalize totq l = N at *
  obtain ⟨d, rfl⟩ : ∃ d, d = len := ⟨_, rfl⟩
  by_cases hr : 0 < N % d
  · have HU := Lib.hid (upq_pos (n := N) d0 hr)
    go_enter Try.func120, Try.ntmps120
    go_wp2_with (first | (go_at_call 151; refine (HTot.out _ HS.out).mono ?_; rintro e v1 ⟨rfl, hb1⟩) | (go_at_call 150; refine (wide_DivN N d _ HXY.out HD.out d0).mono ?_; rintro e v2 ⟨rfl, hb2⟩) | (go_at_call 152; refine (wide_Add1 _ _ (by have := HQL.out; omega)).mono ?_; rintro e v3 ⟨rfl, hb3⟩; obtain ⟨hc3, hf3⟩ := bcell hb3; have hs3 := hb3.size; simp only [World.size_alloc] at hs3) | (go_at_call 153; refine (wide_SmallN _ _ (by have := HQL.out; omega)).mono ?_; rintro e v4 ⟨rfl, hb4⟩))
    go_ret
    refine ⟨ret_int (by rw [HQ.out, HU.out]), ?_⟩
    have e2 := hb1.trans (hb2.mono hb1.size)
    have e3 := (e2.alloc e2.size (.cells #[.int .u64 ((hiQ (N / d) : Nat) : Int), .int .u64 ((loQ (N / d) : Nat) : Int)] 192)).trans (hb3.mono (by have := e2.size; simp; omega))
    have e4 := (e3.setCell (p := ⟨v2.heap.size, 0, none⟩) e2.size (.int .u64 ((hiQ (N / d + 1) : Nat) : Int))).setCell (p := ⟨v2.heap.size, 1, none⟩) e2.size (.int .u64 ((loQ (N / d + 1) : Nat) : Int))
    exact e4.trans (hb4.mono e4.size)
  · have h0 : N % d = 0 := by omega
    have HU := Lib.hid (upq_zero (n := N) d0 h0)
    have hr' : decide (0 < N % d) = false := by simpa using hr
    clear hr
    go_enter Try.func120, Try.ntmps120
    go_wp2_with (first | (go_at_call 151; refine (HTot.out _ HS.out).mono ?_; rintro e v1 ⟨rfl, hb1⟩) | (go_at_call 150; refine (wide_DivN N d _ HXY.out HD.out d0).mono ?_; rintro e v2 ⟨rfl, hb2⟩) | (go_at_call 152; refine (wide_Add1 _ _ (by have := HQL.out; omega)).mono ?_; rintro e v3 ⟨rfl, hb3⟩; obtain ⟨hc3, hf3⟩ := bcell hb3; have hs3 := hb3.size; simp only [World.size_alloc] at hs3) | (go_at_call 153; refine (wide_SmallN _ _ (by have := HQL.out; omega)).mono ?_; rintro e v4 ⟨rfl, hb4⟩))
    go_ret
    refine ⟨ret_int (by rw [HQ.out, HU.out]), ?_⟩
    have e2 := hb1.trans (hb2.mono hb1.size)
    have e4 := e2.alloc e2.size (.cells #[.int .u64 ((hiQ (N / d) : Nat) : Int), .int .u64 ((loQ (N / d) : Nat) : Int)] 192)
    exact e4.trans (hb4.mono e4.size)
end Go.Proofs.Ytkjmacdekfbfhaa
