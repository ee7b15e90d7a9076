/- calls.Steps; calls.Check and its reference: the walks. -/
import Derived.Test.YtkjmacdekfbfhaaPRows
import Derived.Test.YtkjmacdekfbfhaaOps2
namespace Go.Proofs.Ytkjmacdekfbfhaa
open Go.RowKit
set_option linter.unusedSimpArgs false
set_option linter.unusedVariables false
set_option maxHeartbeats 8000000
set_option maxRecDepth 100000
def lenq (c : Cfg) (x : CallQ) : Nat := (stepsq c x.k x.s x.t x.v x.p).length
theorem lenq_le (c : Cfg) (x : CallQ) : lenq c x ≤ 136 := stepsq_len _ _ _ _ _ _
def rowTot (c : Cfg) (l : List CallQ) : Nat := (l.map (lenq c)).sum
def allTot (c : Cfg) (rows : List (PRow CallQ)) : Nat := (rows.map fun r => rowTot c r.l).sum
theorem rowTot_le (c : Cfg) (l : List CallQ) : rowTot c l ≤ 136 * l.length := by
  induction l with
  | nil => exact Nat.le_refl _
  | cons x l ih =>
    have := lenq_le c x
    unfold rowTot at *
    rw [List.map_cons, List.sum_cons, List.length_cons]; omega
theorem rowTot_next {c : Cfg} {l : List CallQ} {j : Nat} {x : CallQ} (h : l[j]? = some x) : rowTot c (l.take (j + 1)) = rowTot c (l.take j) + lenq c x := by
  unfold rowTot
  rw [List.take_add_one, h, Option.toList_some, List.map_append, List.sum_append]; simp
theorem allTot_next {c : Cfg} {rows : List (PRow CallQ)} {k : Nat} {r : PRow CallQ} (h : rows[k]? = some r) : allTot c (rows.take (k + 1)) = allTot c (rows.take k) + rowTot c r.l := by
  unfold allTot
  rw [List.take_add_one, h, Option.toList_some, List.map_append, List.sum_append]; simp
theorem allTot_le (c : Cfg) (rows : List (PRow CallQ)) (h : ∀ r ∈ rows, r.l.length ≤ 20) : allTot c rows ≤ 2720 * rows.length := by
  induction rows with
  | nil => exact Nat.le_refl _
  | cons r rows ih =>
    have h1 := rowTot_le c r.l
    have h2 := h r (by simp)
    have h3 := ih (fun x hx => h x (by simp [hx]))
    unfold allTot at *
    rw [List.map_cons, List.sum_cons, List.length_cons]; omega
/-- The cells of a call in a row. -/
theorem call_cells {w : World} {b off j : Nat} {x : CallQ} (hc : ∀ (i : Nat) (v : Value), x.cells[i]? = some v → w.cell? ⟨b, off + (j * 11 + i), none⟩ = some v) :
    w.cell? ⟨b, off + j * 11, none⟩ = some (.int .i64 x.k) ∧ w.cell? ⟨b, off + j * 11 + 1, none⟩ = some (.string x.s) ∧ w.cell? ⟨b, off + j * 11 + 2, none⟩ = some (.int .i64 x.t) ∧ w.cell? ⟨b, off + j * 11 + 3, none⟩ = some (.int .i64 x.v) ∧ w.cell? ⟨b, off + j * 11 + 4, none⟩ = some (.int .i64 x.h) ∧ w.cell? ⟨b, off + j * 11 + 5, none⟩ = some (.int .i64 x.p.min) ∧ w.cell? ⟨b, off + j * 11 + 6, none⟩ = some (.int .i64 x.p.max) ∧ w.cell? ⟨b, off + j * 11 + 7, none⟩ = some (.int .i64 x.p.target) ∧ w.cell? ⟨b, off + j * 11 + 8, none⟩ = some (.int .i64 x.p.tol) ∧ w.cell? ⟨b, off + j * 11 + 9, none⟩ = some (.int .i64 x.p.window) ∧ w.cell? ⟨b, off + j * 11 + 10, none⟩ = some (.int .i64 x.p.hold) := by
  have h : ∀ (i : Nat) (v : Value), x.cells[i]? = some v → w.cell? ⟨b, off + j * 11 + i, none⟩ = some v := fun i v hv => by rw [Nat.add_assoc]; exact hc i v hv
  exact ⟨h 0 _ rfl, h 1 _ rfl, h 2 _ rfl, h 3 _ rfl, h 4 _ rfl, h 5 _ rfl, h 6 _ rfl, h 7 _ rfl, h 8 _ rfl, h 9 _ rfl, h 10 _ rfl⟩
theorem row_at {w : World} {A : Option Addr} {len cap : Nat} {rows : List (PRow CallQ)} (h : SliceIs w 1 PRow.hdr A len cap rows) {k : Nat} (hk : k < len) :
    ∃ (b off : Nat) (r : PRow CallQ), A = some ⟨b, off, none⟩ ∧ rows[k]? = some r ∧ b < w.heap.size ∧ w.cell? ⟨b, off + k, none⟩ = some (.slice r.A r.n r.c) := by
  obtain ⟨b, off, r, h1, h2, h3, h4⟩ := SliceIs.at_ h hk
  exact ⟨b, off, r, h1, h2, h3, by have := h4 0 _ rfl; simpa using this⟩
theorem calls_Steps (c : Cfg) (A : Option Addr) (len cap : Nat) (rows : List (PRow CallQ)) (w : World) (hr : RowsAre w 11 CallQ.cells A len cap rows) (hg : ∀ r ∈ rows, ∀ x ∈ r.l, x.good) (hc : c.fit) (hn : len ≤ 40) (h20 : ∀ r ∈ rows, r.n ≤ 20) :
    Calls Try.prog 23 #[.agg c.row, .slice A len cap] w fun e w' => e = .returned (.int .i64 (allTot c rows : Nat)) ∧ Below w.heap.size w w' := by
  have HRw := Lib.hid hr
  have HLl := Lib.hid hr.1.1
  have HG := Lib.hid hg
  have HC := Lib.hid hc
  have H20 := Lib.hid h20
  have hm : cap ≤ 9223372036854775807 := by have := hr.1.2.2.1; unfold maxLen at this; omega
  have hle : len ≤ cap := hr.1.2.1
  have X := Lib.hid (And.intro (Blk.new w 23 c.row) (show Below w.heap.size w (w.alloc (.cells c.row 23)) by go_grown))
  have HT := Lib.hid (fun k (hk : k ≤ len) => (show allTot c (rows.take k) ≤ 108800 from by
    have h1 := allTot_le c (rows.take k) (fun r h => by have h2 := h20 r (List.mem_of_mem_take h); have h3 := (hr.2 r (List.mem_of_mem_take h)).1; omega)
    have h2 := List.length_take_le k rows
    omega))
  clear hr hg hc h20
  go_enter Try.func23, Try.ntmps23
  go_wp2
  go_loopw [5, 12] (fun s i wr => ∃ k : Nat, k ≤ len ∧ i = .int .i64 k ∧ s = .int .i64 (allTot c (rows.take k) : Nat) ∧ Blk wr w.heap.size 23 c.row ∧ Below w.heap.size w wr) (fun _ i _ => len - (intOf i).toNat)
  case atStart => exact ⟨0, Nat.zero_le _, rfl, rfl, X.out.1, X.out.2⟩
  case round =>
    obtain ⟨k, hk, rfl, rfl, hb, hbel⟩ := hrel
    have HB := Lib.hid hb
    have HE := Lib.hid hbel
    clear hb hbel
    by_cases hlt : k < len
    · have hki : (k : Int) < (len : Int) := by omega
      obtain ⟨b, off, r, rfl, hx, hbb, t0⟩ := row_at (slice_keep HRw.out.1 HE.out) hlt
      obtain ⟨RA, rn, rc, rl⟩ := r
      have hmem := List.mem_of_getElem? hx
      have HRow := Lib.hid (HRw.out.2 _ hmem)
      have hrn : rn ≤ 20 := H20.out _ hmem
      have HGr := Lib.hid (HG.out _ hmem)
      have hrl : rl.length = rn := (HRw.out.2 _ hmem).1
      have hrc : rn ≤ rc := (HRw.out.2 _ hmem).2.1
      have hrc2 : rc ≤ 9223372036854775807 := by have := (HRw.out.2 _ hmem).2.2.1; unfold maxLen at this; simp only at this; omega
      have HN := Lib.hid (allTot_next (c := c) hx)
      have HNl := Lib.hid hrl
      have hT := HT.out k hk
      have hT1 := HT.out (k + 1) (by omega)
      rw [HN.out] at hT1
      simp only at hT1 HRow HGr
      clear hx hmem hrl
      generalize allTot c (rows.take k) = T at *
      obtain ⟨wo, hwo⟩ : ∃ wo, wo = wr := ⟨_, rfl⟩
      rw [← hwo] at HB HE t0 hbb ⊢
      clear hwo
      go_wp2
      go_loopw [5, 18] (fun s i wr2 => ∃ j : Nat, j ≤ rn ∧ i = .int .i64 j ∧ s = .int .i64 (T + rowTot c (rl.take j) : Nat) ∧ Blk wr2 w.heap.size 23 c.row ∧ Below w.heap.size w wr2) (fun _ i _ => rn - (intOf i).toNat)
      case atStart => exact ⟨0, Nat.zero_le _, rfl, rfl, HB.out, HE.out⟩
      case round =>
        obtain ⟨j, hj, rfl, rfl, hb2, hbel2⟩ := hrel
        have HB2 := Lib.hid hb2
        have HE2 := Lib.hid hbel2
        clear hb2 hbel2 t0
        have hRT : rowTot c (rl.take j) ≤ 136 * 20 := by have h1 := rowTot_le c (rl.take j); have h2 := List.length_take_le j rl; omega
        by_cases hlt2 : j < rn
        · have hji : (j : Int) < (rn : Int) := by omega
          obtain ⟨b2, off2, x, rfl, hx2, hbb2, hcl⟩ := SliceIs.at_ (slice_keep HRow.out HE2.out) hlt2
          obtain ⟨u0, u1, u2, u3, u4, u5, u6, u7, u8, u9, u10⟩ := call_cells hcl
          have HNx := Lib.hid (rowTot_next (c := c) hx2)
          have hxg : x.s.size ≤ maxLen := HGr.out x (List.mem_of_getElem? hx2)
          have HO := Lib.hid (fun W => calls_Ops c x.k x.s x.t x.v x.h x.p W hxg HC.out)
          have hlx := lenq_le c x
          have HLx := Lib.hid (show (stepsq c x.k x.s x.t x.v x.p).length = lenq c x from rfl)
          generalize stepsq c x.k x.s x.t x.v x.p = L at *
          generalize lenq c x = lx at *
          generalize rowTot c (rl.take j) = RT at *
          have B3 := Lib.hid (HB2.out.alloc (.cells (callRow x.k x.s x.t x.v x.h x.p) 27))
          have C3 := Lib.hid (Blk.new wr 27 (callRow x.k x.s x.t x.v x.h x.p))
          have E3 := Lib.hid (HE2.out.alloc HE2.out.size (.cells (callRow x.k x.s x.t x.v x.h x.p) 27))
          clear hcl hx2 hxg
          go_wp2_with (first
            | (refine Blk.load rfl 23 (.tmp 2) rfl _ _ _ _ rfl B3.out Try.underlying23 rfl (by kernel_rfl) ?_)
            | (refine Blk.load rfl 27 (.tmp 9) rfl _ _ _ _ rfl C3.out Try.underlying27 rfl (by kernel_rfl) ?_)
            | (go_at_call 15; refine (HO.out _).mono ?_; rintro e v2 ⟨V2, rfl, o2, hb2⟩; obtain ⟨A2, n2, c2, rfl, hn2, -⟩ := o2.shape cop_len; obtain rfl : lx = n2 := (by rw [hn2]; exact HLx.out.symm); have D2 := Lib.hid (E3.out.trans (hb2.mono E3.out.size)); have B4 := Lib.hid (B3.out.call hb2); clear hb2 o2 hn2))
          go_roundw
          case rel => exact ⟨j + 1, by omega, by go_num, by rw [HNx.out, ← Nat.add_assoc]; go_num, B4.out, D2.out⟩
          case measure => simp [intOf]; omega
        · obtain rfl : j = rn := by omega
          have HTk := Lib.hid (show rl.take j = rl from List.take_of_length_le (by rw [HNl.out]; exact Nat.le_refl _))
          go_wp2
          go_roundw
          case rel => exact ⟨k + 1, by omega, by go_num, by rw [HN.out, HTk.out], HB2.out, HE2.out⟩
          case measure => simp [intOf]; omega
    · have HTk := Lib.hid (show rows.take k = rows from List.take_of_length_le (by rw [HLl.out]; omega))
      go_wp2
      go_ret
      exact ⟨by rw [HTk.out]; rfl, HE.out⟩
end Go.Proofs.Ytkjmacdekfbfhaa
