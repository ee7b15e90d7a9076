/- Chapter 29's law: CallsCheck. (fast region) -/
import Derived.Test.YtkjmacdekfbfhaaW29
import Derived.Test.YtkjmacdekfbfhaaSteps
import Derived.Test.YtkjmacdekfbfhaaChk29
import Derived.Deep.Cut
namespace Go.Proofs.Ytkjmacdekfbfhaa
open Go.RowKit
set_option linter.unusedSimpArgs false
set_option linter.unusedVariables false
set_option maxHeartbeats 8000000
set_option maxRecDepth 100000
def U16 (a : Int) : Prop := 0 ≤ a ∧ a ≤ 65535
theorem U16_of_wf {a : Int} (h : (Lit.int .u16 a).wf = true) : U16 a := bounds_u16 h
theorem info_call : (Try.prog.info? 27).map (fun i => (i.zero, i.size, i.bytes)) = some (some (.agg (callRow 0 ⟨#[]⟩ 0 0 0 ⟨0, 0, 0, 0, 0, 0⟩)), 11, 96) := by kernel_rfl
theorem make_calls (n : Nat) (hn : n < 300) : ∃ M, ∀ W : World, (Instr.makeSlice 42 (.int .i64 (n : Int)) (.int .i64 (n : Int))).run Try.prog W = .ok (.slice (some ⟨W.heap.size, 0, none⟩) n n) (W.alloc (.cells M 27)) := by
  obtain ⟨ic, k1, k2, k3, k4⟩ := info_parts info_call
  refine ⟨madeCells (Value.agg (callRow 0 ⟨#[]⟩ 0 0 0 ⟨0, 0, 0, 0, 0, 0⟩)).cells (n * 11), fun W => ?_⟩
  have := run_makeSlice (P := Try.prog) (w := W) 42 27 ic _ Try.underlying42 k1 k2 .i64 .i64 (n : Int) (n : Int) (by omega) (Int.le_refl _) (by rw [k3]; simp only [Int.toNat_natCast]; omega) (by rw [k4]; omega) (by omega)
  rw [k3] at this
  simpa only [Int.toNat_natCast] using this
theorem chk_one (m : Nat) (hm : m < 300) (B : Option Addr) : chkq (α := Unit) cf1 [⟨B, m, m, []⟩] 0 = if m ≤ 256 then 0 else 12 := by
  unfold chkq
  rw [if_neg (by unfold badC; rintro (h | h | h | h | h); exact h cf1_ok; all_goals simp at h)]
  unfold bigR
  by_cases h : m ≤ 256
  · rw [if_pos h]; simp; omega
  · rw [if_neg h]; simp; omega
/-- The last part: a list of so many empty calls. -/
theorem walk_CallsCheck (c0 c1 c2 c3 : Int) (A : Option Addr) (len cap : Nat) (rows : List (PRow CallQ)) (wk long : Int) (w : World) (i0 : I64 c0) (i1 : I64 c1) (i2 : I64 c2) (i3 : I64 c3) (hr : RowsAre w 11 CallQ.cells A len cap rows) (hg : ∀ r ∈ rows, ∀ x ∈ r.l, x.good) (hwk : I64 wk) (hlo : U16 long) :
    Calls Try.prog 5 #[.agg #[.int .i64 c0, .int .i64 c1, .int .i64 c2, .int .i64 c3], .slice A len cap, .int .i64 wk, .int .u16 long] w fun e w' => e = .returned (.bool true) ∧ Below w.heap.size w w' := by
  obtain ⟨c, rfl, rfl, rfl, rfl⟩ : ∃ c : Cfg, c0 = c.str ∧ c1 = c.smp ∧ c2 = c.lod ∧ c3 = c.his := ⟨⟨c0, c1, c2, c3⟩, rfl, rfl, rfl, rfl⟩
  show Calls Try.prog 5 #[.agg c.row, .slice A len cap, .int .i64 wk, .int .u16 long] w _
  have hc : c.fit := ⟨i0, i1, i2, i3⟩
  have HRw := Lib.hid hr
  have HLl := Lib.hid hr.1.1
  have HG := Lib.hid hg
  have HC := Lib.hid hc
  have hm : cap ≤ 9223372036854775807 := by have := hr.1.2.2.1; unfold maxLen at this; omega
  have hle : len ≤ cap := hr.1.2.1
  have X := Lib.hid (And.intro (Blk.new w 23 c.row) (show Below w.heap.size w (w.alloc (.cells c.row 23)) by go_grown))
  clear i0 i1 i2 i3 hr hg hc hwk
  by_cases h40 : 40 < len
  · have d0 : decide ((40 : Int) < (len : Int)) = true := by simp; omega
    clear h40 hlo
    go_enter Try.func5, Try.ntmps5
    go_wp2_with (go_at_call 14; refine (awake29 _).mono ?_; rintro e v1 ⟨rfl, hb1⟩; have D1 := Lib.hid (X.out.2.trans (hb1.mono X.out.2.size)); clear hb1)
    go_ret
    exact ⟨rfl, D1.out⟩
  have d0 : decide ((40 : Int) < (len : Int)) = false := by simp; omega
  have hl40 : len ≤ 40 := by omega
  have HT := Lib.hid (fun k (hk : k ≤ len) (h : ∀ i r, i < k → rows[i]? = some r → r.n ≤ 20) => (show allTot c (rows.take k) ≤ 108800 from by
    have h1 := allTot_le c (rows.take k) (fun r hm => by
      obtain ⟨i, hi⟩ := List.getElem?_of_mem hm
      have hi2 := (List.getElem?_eq_some_iff.1 hi).1
      have hi3 : i < k := by simp at hi2; omega
      rw [List.getElem?_take_of_lt hi3] at hi
      have h2 := h i r hi3 hi
      have h3 := (HRw.out.2 r (List.mem_of_getElem? hi)).1
      omega)
    have h2 := List.length_take_le k rows
    omega))
  obtain ⟨LG, hLG⟩ : ∃ LG : Nat, long % 300 = LG := ⟨(long % 300).toNat, by unfold U16 at hlo; omega⟩
  have hLG3 : LG < 300 := by omega
  have HLG := Lib.hid hLG
  have HLo := Lib.hid hlo
  clear h40 hLG hlo
  go_enter Try.func5, Try.ntmps5
  go_wp2_with (go_at_call 14; refine (awake29 _).mono ?_; rintro e v1 ⟨rfl, hb1⟩; have D1 := Lib.hid (X.out.2.trans (hb1.mono X.out.2.size)); have B1 := Lib.hid (X.out.1.call hb1); clear hb1)
  go_loopw [9, 23] (fun s i wr => ∃ k : Nat, k ≤ len ∧ i = .int .i64 k ∧ s = .int .i64 (allTot c (rows.take k) : Nat) ∧ (∀ i r, i < k → rows[i]? = some r → r.n ≤ 20) ∧ Blk wr w.heap.size 23 c.row ∧ Below w.heap.size w wr) (fun _ i _ => len - (intOf i).toNat)
  case atStart => exact ⟨0, Nat.zero_le _, rfl, rfl, (fun i r h => by omega), B1.out, D1.out⟩
  case round =>
    obtain ⟨k, hk, rfl, rfl, hsm, hb, hbel⟩ := hrel
    have HSm := Lib.hid hsm
    have HB := Lib.hid hb
    have HE := Lib.hid hbel
    clear hsm hb hbel
    by_cases hlt : k < len
    · have hki : (k : Int) < (len : Int) := by omega
      obtain ⟨b, off, r, rfl, hx, hbb, t0⟩ := row_at (slice_keep HRw.out.1 HE.out) hlt
      obtain ⟨RA, rn, rc, rl⟩ := r
      by_cases hbig : 20 < rn
      · have d2 : decide ((20 : Int) < (rn : Int)) = true := by simp; omega
        clear hx hbig
        go_wp2
        go_ret
        exact ⟨rfl, HE.out⟩
      have d2 : decide ((20 : Int) < (rn : Int)) = false := by simp; omega
      have hmem := List.mem_of_getElem? hx
      have HRow := Lib.hid (HRw.out.2 _ hmem)
      have hrn : rn ≤ 20 := by omega
      have HGr := Lib.hid (HG.out _ hmem)
      have hrl : rl.length = rn := (HRw.out.2 _ hmem).1
      have hrc : rn ≤ rc := (HRw.out.2 _ hmem).2.1
      have hrc2 : rc ≤ 9223372036854775807 := by have := (HRw.out.2 _ hmem).2.2.1; unfold maxLen at this; simp only at this; omega
      have HN := Lib.hid (allTot_next (c := c) hx)
      have HNl := Lib.hid hrl
      have HSm2 := Lib.hid (fun i (r : PRow CallQ) (hi : i < k + 1) (hr : rows[i]? = some r) => (show r.n ≤ 20 from by
        rcases Nat.lt_or_ge i k with h1 | h1
        · exact HSm.out i r h1 hr
        · obtain rfl : i = k := by omega
          rw [hx] at hr; injection hr with hr; rw [← hr]; exact hrn))
      have hT := HT.out k hk HSm.out
      have hT1 := HT.out (k + 1) (by omega) HSm2.out
      rw [HN.out] at hT1
      simp only at hT1 HRow HGr
      clear hx hmem hrl hbig
      generalize allTot c (rows.take k) = T at *
      obtain ⟨wo, hwo⟩ : ∃ wo, wo = wr := ⟨_, rfl⟩
      rw [← hwo] at HB HE t0 hbb ⊢
      clear hwo
      go_wp2
      go_loopw [9, 32] (fun s i wr2 => ∃ j : Nat, j ≤ rn ∧ i = .int .i64 j ∧ s = .int .i64 (T + rowTot c (rl.take j) : Nat) ∧ Blk wr2 w.heap.size 23 c.row ∧ Below w.heap.size w wr2) (fun _ i _ => rn - (intOf i).toNat)
      case atStart => exact ⟨0, Nat.zero_le _, rfl, rfl, HB.out, HE.out⟩
      case round =>
        obtain ⟨j, hj, rfl, rfl, hb2, hbel2⟩ := hrel
        have HB2 := Lib.hid hb2
        have HE2 := Lib.hid hbel2
        clear hb2 hbel2 t0
        have hRT : rowTot c (rl.take j) ≤ 136 * 20 := by have h1 := rowTot_le c (rl.take j); have h2 := List.length_take_le j rl; omega
        by_cases hlt2 : j < rn
        · have hji : (j : Int) < (rn : Int) := by omega
          obtain ⟨b2, off2, x, rfl, hx2, hbb2, hcl⟩ := SliceIs.at_ (slice_keep HRow.out HE2.out) hlt2
          obtain ⟨u0, u1, u2, u3, u4, u5, u6, u7, u8, u9, u10⟩ := call_cells hcl
          have HNx := Lib.hid (rowTot_next (c := c) hx2)
          have hxg : x.s.size ≤ maxLen := HGr.out x (List.mem_of_getElem? hx2)
          have HO := Lib.hid (fun W => ref29_Ops c x.k x.s x.t x.v x.h x.p W hxg HC.out)
          have hlx := lenq_le c x
          have HLx := Lib.hid (show (stepsq c x.k x.s x.t x.v x.p).length = lenq c x from rfl)
          generalize stepsq c x.k x.s x.t x.v x.p = L at *
          generalize lenq c x = lx at *
          generalize rowTot c (rl.take j) = RT at *
          have B3 := Lib.hid (HB2.out.alloc (.cells (callRow x.k x.s x.t x.v x.h x.p) 27))
          have C3 := Lib.hid (Blk.new wr 27 (callRow x.k x.s x.t x.v x.h x.p))
          have E3 := Lib.hid (HE2.out.alloc HE2.out.size (.cells (callRow x.k x.s x.t x.v x.h x.p) 27))
          clear hcl hx2 hxg
          go_wp2_with (first
            | (refine Blk.load rfl 23 (.tmp 4) rfl _ _ _ _ rfl B3.out Try.underlying23 rfl (by kernel_rfl) ?_)
            | (refine Blk.load rfl 27 (.tmp 13) rfl _ _ _ _ rfl C3.out Try.underlying27 rfl (by kernel_rfl) ?_)
            | (go_at_call 16; refine (HO.out _).mono ?_; rintro e v2 ⟨V2, rfl, o2, hb2⟩; obtain ⟨A2, n2, c2, rfl, hn2, -⟩ := o2.shape cop_len; obtain rfl : lx = n2 := (by rw [hn2]; exact HLx.out.symm); have D2 := Lib.hid (E3.out.trans (hb2.mono E3.out.size)); have B4 := Lib.hid (B3.out.call hb2); clear hb2 o2 hn2))
          go_roundw
          case rel => exact ⟨j + 1, by omega, by go_num, by rw [HNx.out, ← Nat.add_assoc]; go_num, B4.out, D2.out⟩
          case measure => simp [intOf]; omega
        · obtain rfl : j = rn := by omega
          have HTk := Lib.hid (show rl.take j = rl from List.take_of_length_le (by rw [HNl.out]; exact Nat.le_refl _))
          go_wp2
          go_roundw
          case rel => exact ⟨k + 1, by omega, by go_num, by rw [HN.out, HTk.out], HSm2.out, HB2.out, HE2.out⟩
          case measure => simp [intOf]; omega
    · have HTk := Lib.hid (show rows.take k = rows from List.take_of_length_le (by rw [HLl.out]; omega))
      have h20 : ∀ r ∈ rows, r.n ≤ 20 := fun r hr => by
        obtain ⟨i, hi⟩ := List.getElem?_of_mem hr
        exact HSm.out i r (by have := (List.getElem?_eq_some_iff.1 hi).1; have := HLl.out; omega) hi
      have H1 := Lib.hid (fun W h => calls_Check c A len cap rows wk W h HC.out (by omega))
      have H2 := Lib.hid (fun W h => ref29_Check c A len cap rows wk W h HC.out (by omega))
      have H3 := Lib.hid (fun W h => calls_Steps c A len cap rows W h HG.out HC.out hl40 h20)
      rw [HTk.out]
      generalize chkq c rows wk = CK at *
      generalize allTot c rows = T at *
      clear h20
      focus (go_upto_region 17 with (fail))
      have HRr := Lib.hid (HRw.out.keep (show Below w.heap.size w wr from HE.out))
      refine wp_region_any (by kernel_rfl) ?_; change wpAny _ _ _ _ _ _ _ (World.drew wr); refine any_of_anyG (late := fun _ => false) (S := fun wS => Below wr.heap.size wr wS) _ _ _ _ ?_
      have S0 := (Below.refl wr.heap.size wr).drew
      refine anyG_takes (is := [0, 1, 2, 4, 5]) (vs := [_, _, _, _, _]) (m := 11) (listed2 := #[true, true, true, false, true, true, false, false, false, false, false, false, false, false, false, false]) (a2 := ⟨#[_, _, _, _, _, _, _, _, _, _, _, _, _, _, _, _, _, _, _, _, _, _, _, _, _, _, _, _, _, _, _, _, _, _, _, _, _, _, _, _, _, _, _, _, _, _, _, _, _, _, _, _, _, _, _, _, _, _, _, _, _, _, _, _, _, _, _, _, _, _, _, _, _, _, _, _, _, _, _, _, _], _⟩) (by kernel_rfl) (fun j hj => by simp at hj) (by kernel_rfl) (fun _ _ _ _ _ h => h) (Ys.cons rfl (Or.inl ⟨by rfl, fun W1 hW1 => exec_load (ty := 23) (x := .tmp 4) rfl rfl (run_loadAt_blk _ _ _ _ _ _ (HB.out.call hW1) Try.underlying23 rfl (by first | kernel_rfl | exact info_num _))⟩) (Ys.cons rfl (Or.inl ⟨by rfl, fun W1 hW1 => by first | rfl | (go_simp; done) | (go_simp; with_reducible rfl)⟩) (Ys.cons rfl (Or.inl ⟨by rfl, fun W1 hW1 => by first | rfl | (go_simp; done) | (go_simp; with_reducible rfl)⟩) (Ys.cons rfl (Or.inl ⟨by rfl, fun W1 hW1 => exec_load (ty := 23) (x := .tmp 4) rfl rfl (run_loadAt_blk _ _ _ _ _ _ (HB.out.call hW1) Try.underlying23 rfl (by first | kernel_rfl | exact info_num _))⟩) (Ys.cons rfl (Or.inl ⟨by rfl, fun W1 hW1 => by first | rfl | (go_simp; done) | (go_simp; with_reducible rfl)⟩) (Ys.nil)))))) (S0) (by rfl) (by rfl) ?_
      refine anyG_takes (is := [6]) (vs := [_]) (m := 10) (listed2 := #[true, true, true, false, true, true, true, false, false, false, false, false, false, false, false, false]) (a2 := ⟨#[_, _, _, _, _, _, _, _, _, _, _, _, _, _, _, _, _, _, _, _, _, _, _, _, _, _, _, _, _, _, _, _, _, _, _, _, _, _, _, _, _, _, _, _, _, _, _, _, _, _, _, _, _, _, _, _, _, _, _, _, _, _, _, _, _, _, _, _, _, _, _, _, _, _, _, _, _, _, _, _, _], _⟩) (by kernel_rfl) (fun j hj => by simp at hj) (by kernel_rfl) (fun _ _ _ _ _ h => h) (Ys.cons rfl (Or.inl ⟨by rfl, fun W1 hW1 => by first | rfl | (go_simp; done) | (go_simp; with_reducible rfl)⟩) (Ys.nil)) (S0) (by rfl) (by rfl) ?_
      refine anyG_one (k := 3) (by kernel_rfl) rfl (by rfl) (fun Q2 hQ2 => ?_); go_wp2_with (go_at_call 21; refine (H1.out _ (slice_keep HRr.out.1 S0)).mono ?_; rintro e v3 ⟨rfl, hb3⟩); refine hQ2 _ _ (fun _ => S0.trans (hb3.mono S0.size)) ?_; clear hQ2 Q2
      have S3 := S0.trans (hb3.mono S0.size)
      refine anyG_one (k := 7) (by kernel_rfl) rfl (by rfl) (fun Q2 hQ2 => ?_); go_wp2_with (go_at_call 22; refine (H2.out _ (slice_keep HRr.out.1 S3)).mono ?_; rintro e v7 ⟨rfl, hb7⟩); refine hQ2 _ _ (fun _ => S3.trans (hb7.mono S3.size)) ?_; clear hQ2 Q2
      have S7 := S3.trans (hb7.mono S3.size)
      refine anyG_takes (is := [8, 9, 10, 11, 13]) (vs := [.bool false, .bool false, _, _, _]) (m := 3) (listed2 := #[true, true, true, true, true, true, true, true, true, true, true, true, false, true, false, false]) (a2 := ⟨#[_, _, _, _, _, _, _, _, _, _, _, _, _, _, _, _, _, _, _, _, _, _, _, _, _, _, _, _, _, _, _, _, _, _, _, _, _, _, _, _, _, _, _, _, _, _, _, _, _, _, _, _, _, _, _, _, _, _, _, _, _, _, _, _, _, _, _, _, _, _, _, _, _, _, _, _, _, _, _, _, _], _⟩) (by kernel_rfl) (fun j hj => by simp at hj) (by kernel_rfl) (fun _ _ _ _ _ h => h) (Ys.cons rfl (Or.inl ⟨by rfl, fun W1 hW1 => by go_simp⟩) (Ys.cons rfl (Or.inl ⟨by rfl, fun W1 hW1 => by rfl⟩) (Ys.cons rfl (Or.inl ⟨by rfl, fun W1 hW1 => exec_load (ty := 23) (x := .tmp 4) rfl rfl (run_loadAt_blk _ _ _ _ _ _ (HB.out.call hW1) Try.underlying23 rfl (by first | kernel_rfl | exact info_num _))⟩) (Ys.cons rfl (Or.inl ⟨by rfl, fun W1 hW1 => by first | rfl | (go_simp; done) | (go_simp; with_reducible rfl)⟩) (Ys.cons rfl (Or.inl ⟨by rfl, fun W1 hW1 => by first | rfl | (go_simp; done) | (go_simp; with_reducible rfl)⟩) (Ys.nil)))))) (S7) (by rfl) (by rfl) ?_
      refine anyG_one (k := 12) (by kernel_rfl) rfl (by rfl) (fun Q2 hQ2 => ?_); go_wp2_with (go_at_call 23; refine (H3.out _ (HRr.out.keep S7)).mono ?_; rintro e v12 ⟨rfl, hb12⟩); refine hQ2 _ _ (fun _ => S7.trans (hb12.mono S7.size)) ?_; clear hQ2 Q2
      have S12 := S7.trans (hb12.mono S7.size)
      refine anyG_takes (is := [14, 15]) (vs := [.bool false, .bool false]) (m := 0) (listed2 := #[true, true, true, true, true, true, true, true, true, true, true, true, true, true, true, true]) (a2 := ⟨#[_, _, _, _, _, _, _, _, _, _, _, _, _, _, _, _, _, _, _, _, _, _, _, _, _, _, _, _, _, _, _, _, _, _, _, _, _, _, _, _, _, _, _, _, _, _, _, _, _, _, _, _, _, _, _, _, _, _, _, _, _, _, _, _, _, _, _, _, _, _, _, _, _, _, _, _, _, _, _, _, _], _⟩) (by kernel_rfl) (fun j hj => by simp at hj) (by kernel_rfl) (fun _ _ _ _ _ h => h) (Ys.cons rfl (Or.inl ⟨by rfl, fun W1 hW1 => by go_simp⟩) (Ys.cons rfl (Or.inl ⟨by rfl, fun W1 hW1 => by rfl⟩) (Ys.nil))) (S12) (by rfl) (by rfl) ?_
      refine anyG_done (by kernel_rfl) ?_ _
      have D9 := Lib.hid (HE.out.trans ((S12).mono HE.out.size))
      have b0 : 0 ≤ long := HLo.out.1
      have b1 : long ≤ 65535 := HLo.out.2
      have hmod : long % 300 = (LG : Int) := HLG.out
      obtain ⟨M, hmk⟩ := make_calls LG hLG3
      have HSl := Lib.hid (show SliceIs ((v12.alloc (.cells M 27)).alloc (.cells #[.slice (some ⟨v12.heap.size, 0, none⟩) LG LG] 42)) 1 PRow.hdr (some ⟨v12.heap.size + 1, 0, none⟩) 1 1 [(⟨some ⟨v12.heap.size, 0, none⟩, LG, LG, []⟩ : PRow Unit)] from slice_blk (l := [(⟨some ⟨v12.heap.size, 0, none⟩, LG, LG, []⟩ : PRow Unit)]) (cells := PRow.hdr) (size := 1) (fun _ => rfl) (Blk.new2 v12 (.cells M 27) 42 #[.slice (some ⟨v12.heap.size, 0, none⟩) LG LG]) rfl (by unfold maxLen; simp))
      have HE9 := Lib.hid (show Below w.heap.size w ((v12.alloc (.cells M 27)).alloc (.cells #[.slice (some ⟨v12.heap.size, 0, none⟩) LG LG] 42)) from (D9.out.alloc D9.out.size _).alloc (by have := D9.out.size; simp; omega) _)
      have HKs := Lib.hid (show Calls Try.prog 21 #[.agg #[.int .i64 1, .int .i64 1, .int .i64 1, .int .i64 1], .slice (some ⟨v12.heap.size + 1, 0, none⟩) 1 1, .int .i64 0] ((v12.alloc (.cells M 27)).alloc (.cells #[.slice (some ⟨v12.heap.size, 0, none⟩) LG LG] 42)) fun e w' => e = .returned (.int .i64 (if LG ≤ 256 then 0 else 12)) ∧ Below ((v12.alloc (.cells M 27)).alloc (.cells #[.slice (some ⟨v12.heap.size, 0, none⟩) LG LG] 42)).heap.size ((v12.alloc (.cells M 27)).alloc (.cells #[.slice (some ⟨v12.heap.size, 0, none⟩) LG LG] 42)) w' from by
        have := calls_Check cf1 _ 1 1 _ 0 _ HSl.out cf1_fit (by decide)
        rw [chk_one LG hLG3 _] at this
        exact this)
      obtain ⟨CE, hCE⟩ : ∃ CE : Int, CE = if LG ≤ 256 then 0 else 12 := ⟨_, rfl⟩
      rw [← hCE] at HKs
      have hce : (CE = 0 ∧ (CE == 0) = true ∧ decide ((LG : Int) ≤ 256) = true) ∨ (CE = 12 ∧ (CE == 0) = false ∧ decide ((LG : Int) ≤ 256) = false) := by
        by_cases h : LG ≤ 256
        · rw [if_pos h] at hCE; exact .inl ⟨hCE, by rw [hCE]; rfl, by simp; omega⟩
        · rw [if_neg h] at hCE; exact .inr ⟨hCE, by rw [hCE]; rfl, by simp; omega⟩
      clear hCE HSl H1 H2 H3
      focus (go_upto_region 20 with (fail))
      clear hmod b0 b1
      rcases hce with ⟨rfl, -, d2⟩ | ⟨rfl, -, d2⟩
      all_goals
        go_wp2_with fail
        (with_reducible refine HKs.out.mono ?_)
        rintro e v20 ⟨rfl, hb20⟩
        have D20 := Lib.hid (HE9.out.trans (hb20.mono HE9.out.size))
        clear hb20 hmk
        go_wp2
        go_ret
        exact ⟨rfl, D20.out⟩
end Go.Proofs.Ytkjmacdekfbfhaa
