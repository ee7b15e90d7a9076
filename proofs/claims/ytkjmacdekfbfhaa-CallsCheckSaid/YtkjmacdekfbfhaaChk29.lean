/- calls.Check and its reference: the walks. -/
import Derived.Test.YtkjmacdekfbfhaaPRows
import Derived.Test.YtkjmacdekfbfhaaOps2
namespace Go.Proofs.Ytkjmacdekfbfhaa
open Go.RowKit
set_option linter.unusedSimpArgs false
set_option linter.unusedVariables false
set_option maxHeartbeats 8000000
set_option maxRecDepth 100000
def badC (c : Cfg) (m : Nat) (wk : Int) : Prop := ¬ c.okC ∨ wk < 0 ∨ 32 < wk ∨ (m : Int) + wk < 1 ∨ 32 < (m : Int) + wk
instance (c : Cfg) (m : Nat) (wk : Int) : Decidable (badC c m wk) := by unfold badC; infer_instance
def bigR {α : Type} (rows : List (PRow α)) : Bool := rows.any fun r => decide (256 < r.n)
def chkq {α : Type} (c : Cfg) (rows : List (PRow α)) (wk : Int) : Int := if badC c rows.length wk then 1 else if bigR rows then 12 else 0
theorem hdr_at {α : Type} {w : World} {A : Option Addr} {len cap : Nat} {rows : List (PRow α)} (h : SliceIs w 1 PRow.hdr A len cap rows) {k : Nat} (hk : k < len) :
    ∃ (b off : Nat) (r : PRow α), A = some ⟨b, off, none⟩ ∧ rows[k]? = some r ∧ b < w.heap.size ∧ w.cell? ⟨b, off + k, none⟩ = some (.slice r.A r.n r.c) := by
  obtain ⟨b, off, r, h1, h2, h3, h4⟩ := SliceIs.at_ h hk
  exact ⟨b, off, r, h1, h2, h3, by have := h4 0 _ rfl; simpa using this⟩
/-- The first k rows are not too long. -/
def SmallT {α : Type} (rows : List (PRow α)) (k : Nat) : Prop := ∀ i r, i < k → rows[i]? = some r → r.n ≤ 256
theorem SmallT.next {α : Type} {rows : List (PRow α)} {k : Nat} {r : PRow α} (h : SmallT rows k) (hr : rows[k]? = some r) (hn : r.n ≤ 256) : SmallT rows (k + 1) := by
  intro i s hi hs
  rcases Nat.lt_or_ge i k with h1 | h1
  · exact h i s h1 hs
  · obtain rfl : i = k := by omega
    rw [hr] at hs; injection hs with hs; rw [← hs]; exact hn
theorem SmallT.all {α : Type} {rows : List (PRow α)} (h : SmallT rows rows.length) : bigR rows = false := by
  unfold bigR
  rw [List.any_eq_false]
  intro r hr
  obtain ⟨i, hi⟩ := List.getElem?_of_mem hr
  have := h i r (List.getElem?_eq_some_iff.1 hi).1 hi
  simp; omega
theorem bigR_yes {α : Type} {rows : List (PRow α)} {k : Nat} {r : PRow α} (hr : rows[k]? = some r) (hn : 256 < r.n) : bigR rows = true := List.any_eq_true.2 ⟨r, List.mem_of_getElem? hr, by simpa using hn⟩
theorem calls_Check {α : Type} (c : Cfg) (A : Option Addr) (len cap : Nat) (rows : List (PRow α)) (wk : Int) (w : World) (hr : SliceIs w 1 PRow.hdr A len cap rows) (hc : c.fit) (hn : len ≤ 100000) :
    Calls Try.prog 21 #[.agg c.row, .slice A len cap, .int .i64 wk] w fun e w' => e = .returned (.int .i64 (chkq c rows wk)) ∧ Below w.heap.size w w' := by
  have HRw := Lib.hid hr
  have HLl := Lib.hid hr.1
  have hm : cap ≤ 9223372036854775807 := by have := hr.2.2.1; unfold maxLen at this; omega
  have hle : len ≤ cap := hr.2.1
  have hll : rows.length = len := hr.1
  have HR := Lib.hid (fun W => node_Right c W hc)
  have X := Lib.hid (And.intro (Blk.new w 23 c.row) (show Below w.heap.size w (w.alloc (.cells c.row 23)) by go_grown))
  clear hr
  by_cases hok : c.okC
  · rw [show cfgErr c = 0 from if_pos hok] at HR
    clear hc
    by_cases h1 : wk < 0
    · have HE := Lib.hid (show chkq c rows wk = 1 from if_pos (.inr (.inl h1)))
      have d1 : decide (wk < 0) = true := by simpa using h1
      clear h1 hok
      go_enter Try.func21, Try.ntmps21
      go_wp2_with (first
      | (refine Blk.load rfl 23 (.tmp 3) rfl _ _ _ _ rfl X.out.1 Try.underlying23 rfl (by kernel_rfl) ?_)
      | (go_at_call 59; refine (HR.out _).mono ?_; rintro e v1 ⟨rfl, hb1⟩; have D1 := Lib.hid (X.out.2.trans (hb1.mono X.out.2.size)); clear hb1))
      go_ret
      exact ⟨ret_int HE.out.symm, D1.out⟩
    have d1 : decide (wk < 0) = false := by simpa using h1
    by_cases h2 : 32 < wk
    · have HE := Lib.hid (show chkq c rows wk = 1 from if_pos (.inr (.inr (.inl h2))))
      have d2 : decide (32 < wk) = true := by simpa using h2
      clear h1 h2 hok
      go_enter Try.func21, Try.ntmps21
      go_wp2_with (first
      | (refine Blk.load rfl 23 (.tmp 3) rfl _ _ _ _ rfl X.out.1 Try.underlying23 rfl (by kernel_rfl) ?_)
      | (go_at_call 59; refine (HR.out _).mono ?_; rintro e v1 ⟨rfl, hb1⟩; have D1 := Lib.hid (X.out.2.trans (hb1.mono X.out.2.size)); clear hb1))
      go_ret
      exact ⟨ret_int HE.out.symm, D1.out⟩
    have d2 : decide (32 < wk) = false := by simpa using h2
    have hw1 : IntKind.i64.wrap ((len : Int) + wk) = (len : Int) + wk := IntWalk.i64_in _ (by omega)
    by_cases h3 : (len : Int) + wk < 1
    · have HE := Lib.hid (show chkq c rows wk = 1 from if_pos (.inr (.inr (.inr (.inl (by rw [hll]; exact h3))))))
      have d3 : decide ((len : Int) + wk < 1) = true := by simpa using h3
      have g1 : 0 ≤ wk := by omega
      have g2 : wk ≤ 32 := by omega
      clear h1 h2 h3 hok
      go_enter Try.func21, Try.ntmps21
      go_wp2_with (first
      | (refine Blk.load rfl 23 (.tmp 3) rfl _ _ _ _ rfl X.out.1 Try.underlying23 rfl (by kernel_rfl) ?_)
      | (go_at_call 59; refine (HR.out _).mono ?_; rintro e v1 ⟨rfl, hb1⟩; have D1 := Lib.hid (X.out.2.trans (hb1.mono X.out.2.size)); clear hb1))
      go_ret
      exact ⟨ret_int HE.out.symm, D1.out⟩
    have d3 : decide ((len : Int) + wk < 1) = false := by simpa using h3
    by_cases h4 : 32 < (len : Int) + wk
    · have HE := Lib.hid (show chkq c rows wk = 1 from if_pos (.inr (.inr (.inr (.inr (by rw [hll]; exact h4))))))
      have d4 : decide (32 < (len : Int) + wk) = true := by simpa using h4
      have g1 : 0 ≤ wk := by omega
      have g2 : wk ≤ 32 := by omega
      clear h1 h2 h3 h4 hok
      go_enter Try.func21, Try.ntmps21
      go_wp2_with (first
      | (refine Blk.load rfl 23 (.tmp 3) rfl _ _ _ _ rfl X.out.1 Try.underlying23 rfl (by kernel_rfl) ?_)
      | (go_at_call 59; refine (HR.out _).mono ?_; rintro e v1 ⟨rfl, hb1⟩; have D1 := Lib.hid (X.out.2.trans (hb1.mono X.out.2.size)); clear hb1))
      go_ret
      exact ⟨ret_int HE.out.symm, D1.out⟩
    have d4 : decide (32 < (len : Int) + wk) = false := by simpa using h4
    have g1 : 0 ≤ wk := by omega
    have g2 : wk ≤ 32 := by omega
    have HE := Lib.hid (show chkq c rows wk = if bigR rows then 12 else 0 from if_neg (by unfold badC; rw [hll]; rintro (h | h | h | h | h) <;> first | exact h hok | omega))
    clear h1 h2 h3 h4 hok hll
    go_enter Try.func21, Try.ntmps21
    go_wp2_with (first
      | (refine Blk.load rfl 23 (.tmp 3) rfl _ _ _ _ rfl X.out.1 Try.underlying23 rfl (by kernel_rfl) ?_)
      | (go_at_call 59; refine (HR.out _).mono ?_; rintro e v1 ⟨rfl, hb1⟩; have D1 := Lib.hid (X.out.2.trans (hb1.mono X.out.2.size)); clear hb1))
    go_loopw [37] (fun i wr => ∃ k : Nat, k ≤ len ∧ i = .int .i64 k ∧ SmallT rows k ∧ Below w.heap.size w wr) (fun i _ => len - (intOf i).toNat)
    case atStart => exact ⟨0, Nat.zero_le _, rfl, (fun i r h => by omega), D1.out⟩
    case round =>
      obtain ⟨k, hk, rfl, hsm, hbel⟩ := hrel
      have HSm := Lib.hid hsm
      have HB := Lib.hid hbel
      clear hsm hbel
      by_cases hlt : k < len
      · have hki : (k : Int) < (len : Int) := by omega
        obtain ⟨b, off, r, rfl, hx, hbb, t0⟩ := hdr_at (slice_keep HRw.out HB.out) hlt
        by_cases hbig : 256 < r.n
        · have HE2 := Lib.hid (show chkq c rows wk = 12 from HE.out.trans (by simp [bigR_yes hx hbig]))
          have db : decide ((256 : Int) < (r.n : Int)) = true := by simp; omega
          clear hx hbig
          go_wp2
          go_ret
          exact ⟨ret_int HE2.out.symm, HB.out⟩
        · have HN := Lib.hid (HSm.out.next hx (by omega))
          have db : decide ((256 : Int) < (r.n : Int)) = false := by simp; omega
          clear hx hbig
          go_wp2
          go_roundw
          case rel => exact ⟨k + 1, by omega, by go_num, HN.out, HB.out⟩
          case measure => simp [intOf]; omega
      · have HE2 := Lib.hid (show chkq c rows wk = 0 from HE.out.trans (by simp [SmallT.all (show SmallT rows rows.length from by rw [HLl.out, show len = k by omega]; exact HSm.out)]))
        go_wp2
        go_ret
        exact ⟨ret_int HE2.out.symm, HB.out⟩
  · rw [show cfgErr c = 1 from if_neg hok] at HR
    have HE := Lib.hid (show chkq c rows wk = 1 from if_pos (.inl hok))
    clear hok hc
    go_enter Try.func21, Try.ntmps21
    go_wp2_with (first
      | (refine Blk.load rfl 23 (.tmp 3) rfl _ _ _ _ rfl X.out.1 Try.underlying23 rfl (by kernel_rfl) ?_)
      | (go_at_call 59; refine (HR.out _).mono ?_; rintro e v1 ⟨rfl, hb1⟩; have D1 := Lib.hid (X.out.2.trans (hb1.mono X.out.2.size)); clear hb1))
    go_ret
    exact ⟨ret_int HE.out.symm, D1.out⟩
theorem ref29_Check {α : Type} (c : Cfg) (A : Option Addr) (len cap : Nat) (rows : List (PRow α)) (wk : Int) (w : World) (hr : SliceIs w 1 PRow.hdr A len cap rows) (hc : c.fit) (hn : len ≤ 100000) :
    Calls Try.prog 22 #[.agg c.row, .slice A len cap, .int .i64 wk] w fun e w' => e = .returned (.int .i64 (chkq c rows wk)) ∧ Below w.heap.size w w' := by
  have HRw := Lib.hid hr
  have HLl := Lib.hid hr.1
  have hm : cap ≤ 9223372036854775807 := by have := hr.2.2.1; unfold maxLen at this; omega
  have hle : len ≤ cap := hr.2.1
  have hll : rows.length = len := hr.1
  have HR := Lib.hid (fun W => ref17_Right c W hc)
  have X := Lib.hid (And.intro (Blk.new w 23 c.row) (show Below w.heap.size w (w.alloc (.cells c.row 23)) by go_grown))
  clear hr
  by_cases hok : c.okC
  · rw [show decide c.okC = true from decide_eq_true hok] at HR
    clear hc
    by_cases h1 : wk < 0
    · have HE := Lib.hid (show chkq c rows wk = 1 from if_pos (.inr (.inl h1)))
      have d1 : decide (wk < 0) = true := by simpa using h1
      clear h1 hok
      go_enter Try.func22, Try.ntmps22
      go_wp2_with (first
      | (refine Blk.load rfl 23 (.tmp 3) rfl _ _ _ _ rfl X.out.1 Try.underlying23 rfl (by kernel_rfl) ?_)
      | (go_at_call 62; refine (HR.out _).mono ?_; rintro e v1 ⟨rfl, hb1⟩; have D1 := Lib.hid (X.out.2.trans (hb1.mono X.out.2.size)); clear hb1))
      go_ret
      exact ⟨ret_int HE.out.symm, D1.out⟩
    have d1 : decide (wk < 0) = false := by simpa using h1
    by_cases h2 : 32 < wk
    · have HE := Lib.hid (show chkq c rows wk = 1 from if_pos (.inr (.inr (.inl h2))))
      have d2 : decide (32 < wk) = true := by simpa using h2
      clear h1 h2 hok
      go_enter Try.func22, Try.ntmps22
      go_wp2_with (first
      | (refine Blk.load rfl 23 (.tmp 3) rfl _ _ _ _ rfl X.out.1 Try.underlying23 rfl (by kernel_rfl) ?_)
      | (go_at_call 62; refine (HR.out _).mono ?_; rintro e v1 ⟨rfl, hb1⟩; have D1 := Lib.hid (X.out.2.trans (hb1.mono X.out.2.size)); clear hb1))
      go_ret
      exact ⟨ret_int HE.out.symm, D1.out⟩
    have d2 : decide (32 < wk) = false := by simpa using h2
    have hw1 : IntKind.i64.wrap ((len : Int) + wk) = (len : Int) + wk := IntWalk.i64_in _ (by omega)
    by_cases h3 : (len : Int) + wk < 1
    · have HE := Lib.hid (show chkq c rows wk = 1 from if_pos (.inr (.inr (.inr (.inl (by rw [hll]; exact h3))))))
      have d3 : decide ((len : Int) + wk < 1) = true := by simpa using h3
      have g1 : 0 ≤ wk := by omega
      have g2 : wk ≤ 32 := by omega
      clear h1 h2 h3 hok
      go_enter Try.func22, Try.ntmps22
      go_wp2_with (first
      | (refine Blk.load rfl 23 (.tmp 3) rfl _ _ _ _ rfl X.out.1 Try.underlying23 rfl (by kernel_rfl) ?_)
      | (go_at_call 62; refine (HR.out _).mono ?_; rintro e v1 ⟨rfl, hb1⟩; have D1 := Lib.hid (X.out.2.trans (hb1.mono X.out.2.size)); clear hb1))
      go_ret
      exact ⟨ret_int HE.out.symm, D1.out⟩
    have d3 : decide ((len : Int) + wk < 1) = false := by simpa using h3
    by_cases h4 : 32 < (len : Int) + wk
    · have HE := Lib.hid (show chkq c rows wk = 1 from if_pos (.inr (.inr (.inr (.inr (by rw [hll]; exact h4))))))
      have d4 : decide (32 < (len : Int) + wk) = true := by simpa using h4
      have g1 : 0 ≤ wk := by omega
      have g2 : wk ≤ 32 := by omega
      clear h1 h2 h3 h4 hok
      go_enter Try.func22, Try.ntmps22
      go_wp2_with (first
      | (refine Blk.load rfl 23 (.tmp 3) rfl _ _ _ _ rfl X.out.1 Try.underlying23 rfl (by kernel_rfl) ?_)
      | (go_at_call 62; refine (HR.out _).mono ?_; rintro e v1 ⟨rfl, hb1⟩; have D1 := Lib.hid (X.out.2.trans (hb1.mono X.out.2.size)); clear hb1))
      go_ret
      exact ⟨ret_int HE.out.symm, D1.out⟩
    have d4 : decide (32 < (len : Int) + wk) = false := by simpa using h4
    have g1 : 0 ≤ wk := by omega
    have g2 : wk ≤ 32 := by omega
    have HE := Lib.hid (show chkq c rows wk = if bigR rows then 12 else 0 from if_neg (by unfold badC; rw [hll]; rintro (h | h | h | h | h) <;> first | exact h hok | omega))
    clear h1 h2 h3 h4 hok hll
    go_enter Try.func22, Try.ntmps22
    go_wp2_with (first
      | (refine Blk.load rfl 23 (.tmp 3) rfl _ _ _ _ rfl X.out.1 Try.underlying23 rfl (by kernel_rfl) ?_)
      | (go_at_call 62; refine (HR.out _).mono ?_; rintro e v1 ⟨rfl, hb1⟩; have D1 := Lib.hid (X.out.2.trans (hb1.mono X.out.2.size)); clear hb1))
    go_loopw [7] (fun i wr => ∃ k : Nat, k ≤ len ∧ i = .int .i64 k ∧ SmallT rows k ∧ Below w.heap.size w wr) (fun i _ => len - (intOf i).toNat)
    case atStart => exact ⟨0, Nat.zero_le _, rfl, (fun i r h => by omega), D1.out⟩
    case round =>
      obtain ⟨k, hk, rfl, hsm, hbel⟩ := hrel
      have HSm := Lib.hid hsm
      have HB := Lib.hid hbel
      clear hsm hbel
      by_cases hlt : k < len
      · have hki : (k : Int) < (len : Int) := by omega
        obtain ⟨b, off, r, rfl, hx, hbb, t0⟩ := hdr_at (slice_keep HRw.out HB.out) hlt
        by_cases hbig : 256 < r.n
        · have HE2 := Lib.hid (show chkq c rows wk = 12 from HE.out.trans (by simp [bigR_yes hx hbig]))
          have db : decide ((256 : Int) < (r.n : Int)) = true := by simp; omega
          clear hx hbig
          go_wp2
          go_ret
          exact ⟨ret_int HE2.out.symm, HB.out⟩
        · have HN := Lib.hid (HSm.out.next hx (by omega))
          have db : decide ((256 : Int) < (r.n : Int)) = false := by simp; omega
          clear hx hbig
          go_wp2
          go_roundw
          case rel => exact ⟨k + 1, by omega, by go_num, HN.out, HB.out⟩
          case measure => simp [intOf]; omega
      · have HE2 := Lib.hid (show chkq c rows wk = 0 from HE.out.trans (by simp [SmallT.all (show SmallT rows rows.length from by rw [HLl.out, show len = k by omega]; exact HSm.out)]))
        go_wp2
        go_ret
        exact ⟨ret_int HE2.out.symm, HB.out⟩
  · rw [show decide c.okC = false from decide_eq_false hok] at HR
    have HE := Lib.hid (show chkq c rows wk = 1 from if_pos (.inl hok))
    clear hok hc
    go_enter Try.func22, Try.ntmps22
    go_wp2_with (first
      | (refine Blk.load rfl 23 (.tmp 3) rfl _ _ _ _ rfl X.out.1 Try.underlying23 rfl (by kernel_rfl) ?_)
      | (go_at_call 62; refine (HR.out _).mono ?_; rintro e v1 ⟨rfl, hb1⟩; have D1 := Lib.hid (X.out.2.trans (hb1.mono X.out.2.size)); clear hb1))
    go_ret
    exact ⟨ret_int HE.out.symm, D1.out⟩
end Go.Proofs.Ytkjmacdekfbfhaa
