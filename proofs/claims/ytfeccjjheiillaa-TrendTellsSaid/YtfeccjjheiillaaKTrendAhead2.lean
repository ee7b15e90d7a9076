/- Several texts in one. -/
import Derived.Test.YtfeccjjheiillaaKTrendAhead1
import Derived.Test.YtfeccjjheiillaaSer6
import Derived.Test.YtfeccjjheiillaaRegT
/- Package trend and its reference: middle, At, Up. -/
namespace Go.Proofs.Ytfeccjjheiillaa
open Go.RowKit
set_option linter.unusedSimpArgs false
set_option linter.unusedVariables false
set_option maxHeartbeats 4000000
set_option maxRecDepth 100000
/-- The cells of the first and the last tick. -/
theorem ends_at {w : World} {A : Option Addr} {len cap : Nat} {l : List Smp} (hs : SmpsAre w A len cap l) (hl : 0 < len) : ∃ b off, A = some ⟨b, off, none⟩ ∧ w.cell? ⟨b, off, none⟩ = some (.int .i64 (tkq l 0)) ∧ w.cell? ⟨b, off + 1, none⟩ = some (.int .i64 (vlq l 0)) ∧ w.cell? ⟨b, off + (len - 1) * 2, none⟩ = some (.int .i64 (tkq l (len - 1))) := by
  obtain ⟨b, off, x, rfl, hx, hb, t0, t1⟩ := hs.at_ hl
  obtain ⟨b2, off2, y, hab, hy, hb2, s0, s1⟩ := hs.at_ (show len - 1 < len by omega)
  cases hab
  refine ⟨b, off, rfl, ?_, ?_, ?_⟩
  · rw [tkq_eq hx]; simpa using t0
  · rw [vlq_eq hx]; simpa using t1
  · rw [tkq_eq hy]; exact s0
theorem trend_middle (A : Option Addr) (len cap : Nat) (l : List Smp) (w : World) (hs : SmpsAre w A len cap l) (hF : Fin l) (hl : 0 < len) (hn : len ≤ 1000) :
    Calls Try.prog 52 #[.slice A len cap] w fun e w' => e = .returned (.int .i64 (midq l)) ∧ Below w.heap.size w w' := by
  have hL := hs.1
  obtain ⟨h1, h2, h3, -⟩ := hF.ticks (Nat.zero_le (l.length - 1)) (by omega)
  obtain ⟨b, off, rfl, c0, -, c1⟩ := ends_at hs hl
  have HQ := Lib.hid (show midq l = tkq l 0 + (tkq l (len - 1) - tkq l 0) / 2 by rw [← hL]; rfl)
  rw [hL] at h2 h3
  generalize midq l = M at *
  generalize tkq l 0 = X at *
  generalize tkq l (len - 1) = Y at *
  obtain ⟨m, rfl⟩ : ∃ m, len = m + 1 := ⟨len - 1, by omega⟩
  rw [Nat.add_sub_cancel] at c1
  have hw1 : IntKind.i64.wrap (((m + 1 : Nat) : Int) - 1) = (m : Int) := by rw [IntWalk.i64_in _ (by omega)]; omega
  have hw2 : ((m + 1 : Nat) : Int) = (m : Int) + 1 := by omega
  have b0 : (0 : Int) < ((m + 1 : Nat) : Int) := by omega
  have b1 : (m : Int) < ((m + 1 : Nat) : Int) := by omega
  clear hs hF hL hw2
  go_enter Try.func52, Try.ntmps52
  go_wp2
  go_quiet (fail)
  go_wp2
  go_ret
  exact ⟨ret_int (by rw [HQ.out]), below_drewN (Below.refl _ _) _⟩
theorem ref52_middle (A : Option Addr) (len cap : Nat) (l : List Smp) (w : World) (hs : SmpsAre w A len cap l) (hF : Fin l) (hl : 0 < len) (hn : len ≤ 1000) :
    Calls Try.prog 53 #[.slice A len cap] w fun e w' => e = .returned (.int .i64 (midq l)) ∧ Below w.heap.size w w' := by
  have hL := hs.1
  obtain ⟨h1, h2, h3, -⟩ := hF.ticks (Nat.zero_le (l.length - 1)) (by omega)
  obtain ⟨b, off, rfl, c0, -, c1⟩ := ends_at hs hl
  have HQ := Lib.hid (show midq l = tkq l 0 + (tkq l (len - 1) - tkq l 0) / 2 by rw [← hL]; rfl)
  rw [hL] at h2 h3
  generalize midq l = M at *
  generalize tkq l 0 = X at *
  generalize tkq l (len - 1) = Y at *
  obtain ⟨m, rfl⟩ : ∃ m, len = m + 1 := ⟨len - 1, by omega⟩
  rw [Nat.add_sub_cancel] at c1
  have hw1 : IntKind.i64.wrap (((m + 1 : Nat) : Int) - 1) = (m : Int) := by rw [IntWalk.i64_in _ (by omega)]; omega
  have hw2 : IntKind.i64.wrap (Y - X) = Y - X := IntWalk.i64_in _ (by omega)
  have hw3 : (Y - X).tdiv 2 = (Y - X) / 2 := Int.tdiv_eq_ediv_of_nonneg (by omega)
  have hw4 : IntKind.i64.wrap ((Y - X) / 2) = (Y - X) / 2 := IntWalk.i64_in _ (by omega)
  have hw5 : IntKind.i64.wrap (X + (Y - X) / 2) = X + (Y - X) / 2 := IntWalk.i64_in _ (by omega)
  have b0 : (0 : Int) < ((m + 1 : Nat) : Int) := by omega
  have b1 : (m : Int) < ((m + 1 : Nat) : Int) := by omega
  clear hs hF hL
  go_enter Try.func53, Try.ntmps53
  go_wp2
  go_quiet (fail)
  go_wp2
  go_ret
  exact ⟨ret_int (by rw [HQ.out]), below_drewN (Below.refl _ _) _⟩
theorem floorq_I64 {a b : Int} (ha : I64 a) (hb : I64 b) : I64 (floorq a b) := by
  unfold floorq
  split
  · unfold I64; omega
  · rename_i h
    unfold I64 at *
    rcases Int.lt_or_le a 0 with h0 | h0
    · have h1 : a ≤ a / b := Int.le_ediv_of_mul_le (by omega) (by
        have := Int.mul_le_mul_of_nonpos_left (show a ≤ 0 by omega) (show 1 ≤ b by omega)
        omega)
      have h2 : a / b < 1 := Int.ediv_lt_of_lt_mul (by omega) (by omega)
      omega
    · have h1 : 0 ≤ a / b := Int.ediv_nonneg h0 (by omega)
      have h2 : a / b ≤ a := Int.ediv_le_self _ h0
      omega
theorem line_Up (x : Ln) (w : World) :
    Calls Try.prog 27 #[.agg x.row] w fun e w' => e = .returned (.bool (decide (0 < x.run ∧ 0 < x.rise))) ∧ Below w.heap.size w w' := by
  by_cases h1 : 0 < x.run
  · by_cases h2 : 0 < x.rise
    · have d1 : decide (0 < x.run) = true := by simpa using h1
      have d2 : decide (0 < x.rise) = true := by simpa using h2
      rw [show decide (0 < x.run ∧ 0 < x.rise) = true from decide_eq_true ⟨h1, h2⟩]
      clear h1 h2
      go_enter Try.func27, Try.ntmps27
      go_wp2
      go_ret
      exact ⟨rfl, by go_grown⟩
    · have d1 : decide (0 < x.run) = true := by simpa using h1
      have d2 : decide (0 < x.rise) = false := by simpa using h2
      rw [show decide (0 < x.run ∧ 0 < x.rise) = false from decide_eq_false (fun h => h2 h.2)]
      clear h1 h2
      go_enter Try.func27, Try.ntmps27
      go_wp2
      go_ret
      exact ⟨rfl, by go_grown⟩
  · have d1 : decide (0 < x.run) = false := by simpa using h1
    rw [show decide (0 < x.run ∧ 0 < x.rise) = false from decide_eq_false (fun h => h1 h.1)]
    clear h1
    go_enter Try.func27, Try.ntmps27
    go_wp2
    go_ret
    exact ⟨rfl, by go_grown⟩
theorem line_At (x : Ln) (tick : Int) (w : World) (hg : x.good) (ht : I64 tick) :
    Calls Try.prog 25 #[.agg x.row, .int .i64 tick] w fun e w' => e = .returned (.int .i64 (lnat x tick)) ∧ Below w.heap.size w w' := by
  by_cases h1 : x.run < 1
  · rw [show lnat x tick = 0 from if_pos h1]
    have d1 : decide (x.run < 1) = true := by simpa using h1
    clear h1
    go_enter Try.func25, Try.ntmps25
    go_wp2
    go_ret
    exact ⟨rfl, by go_grown⟩
  · have HQ := Lib.hid (show lnat x tick = max (satq (x.value + floorq (satq (satq (tick - x.tick) * x.rise)) x.run)) 0 from if_neg h1)
    have d1 : decide (x.run < 1) = false := by simpa using h1
    have HSub := Lib.hid (fun W => sat_Sub tick x.tick W ht hg.1)
    have HMul := Lib.hid (fun W => sat_Mul (satq (tick - x.tick)) x.rise W (satq_I64 _) hg.2.2.1)
    have HFl := Lib.hid (fun W => sat_Floor (satq (satq (tick - x.tick) * x.rise)) x.run W (satq_I64 _) hg.2.2.2)
    have HFI := floorq_I64 (satq_I64 (satq (tick - x.tick) * x.rise)) hg.2.2.2
    have HAdd := Lib.hid (fun W => sat_Add x.value (floorq (satq (satq (tick - x.tick) * x.rise)) x.run) W hg.2.1 HFI)
    generalize lnat x tick = R at *
    generalize satq (tick - x.tick) = S1 at *
    generalize satq (S1 * x.rise) = S2 at *
    generalize floorq S2 x.run = S3 at *
    generalize satq (x.value + S3) = S4 at *
    clear h1 hg ht HFI
    go_enter Try.func25, Try.ntmps25
    go_wp2
    go_quiet ((first
      | (go_at_call 57; exact Calls.quiet_of_same ((HSub.out _).mono fun _ _ h => ⟨h.1, h.2.symm⟩))
      | (go_at_call 56; exact Calls.quiet_of_same ((HMul.out _).mono fun _ _ h => ⟨h.1, h.2.symm⟩))
      | (go_at_call 55; exact Calls.quiet_of_same ((HFl.out _).mono fun _ _ h => ⟨h.1, h.2.symm⟩))))
    go_wp2_with (go_at_call 58; refine (HAdd.out _).mono ?_; rintro e v1 ⟨rfl, rfl⟩)
    all_goals
      first | (exfalso; omega) | skip
      go_ret
      exact ⟨ret_int (by first | (rw [HQ.out]; done) | (rw [HQ.out]; omega)), below_drewN (by go_grown) _⟩
theorem ref52_At (x : Ln) (tick : Int) (w : World) (hg : x.good) (ht : I64 tick) :
    Calls Try.prog 26 #[.agg x.row, .int .i64 tick] w fun e w' => e = .returned (.int .i64 (lnat x tick)) ∧ Below w.heap.size w w' := by
  by_cases h1 : x.run < 1
  · rw [show lnat x tick = 0 from if_pos h1]
    have d1 : decide (x.run < 1) = true := by simpa using h1
    clear h1
    go_enter Try.func26, Try.ntmps26
    go_wp2
    go_ret
    exact ⟨rfl, by go_grown⟩
  · have HQ := Lib.hid (show lnat x tick = max (satq (x.value + floorq (satq (satq (tick - x.tick) * x.rise)) x.run)) 0 from if_neg h1)
    have d1 : decide (x.run < 1) = false := by simpa using h1
    have HSub := Lib.hid (fun W => ref_Sub tick x.tick W ht hg.1)
    have HMul := Lib.hid (fun W => ref_Mul (satq (tick - x.tick)) x.rise W (satq_I64 _) hg.2.2.1)
    have HFl := Lib.hid (fun W => ref_Floor (satq (satq (tick - x.tick) * x.rise)) x.run W (satq_I64 _) hg.2.2.2)
    have HFI := floorq_I64 (satq_I64 (satq (tick - x.tick) * x.rise)) hg.2.2.2
    have HAdd := Lib.hid (fun W => ref_Add x.value (floorq (satq (satq (tick - x.tick) * x.rise)) x.run) W hg.2.1 HFI)
    generalize lnat x tick = R at *
    generalize satq (tick - x.tick) = S1 at *
    generalize satq (S1 * x.rise) = S2 at *
    generalize floorq S2 x.run = S3 at *
    generalize satq (x.value + S3) = S4 at *
    clear h1 hg ht HFI
    have B0 := Lib.hid (Blk.new w 42 x.row)
    go_enter Try.func26, Try.ntmps26
    go_wp2
    go_quiet ((first
      | (go_at_call 60; exact Calls.quiet_of_same ((HSub.out _).mono fun _ _ h => ⟨h.1, h.2.symm⟩))
      | (go_at_call 59; exact Calls.quiet_of_same ((HMul.out _).mono fun _ _ h => ⟨h.1, h.2.symm⟩))))
    have E1 := Lib.hid (show Below w.heap.size w ((w.alloc (.cells x.row 42)).drewN nq) from below_drewN (by go_grown) _)
    obtain ⟨B1, E1⟩ := And.intro (Lib.hid (show Blk ((w.alloc (.cells x.row 42)).drewN nq) w.heap.size 42 x.row from B0.out)) E1
    go_wp2
    generalize (w.alloc (.cells x.row 42)).drewN nq = W6 at *
    have c1 := B1.out.cellv (i := 1) (v := .int .i64 x.value) rfl
    have c3 := B1.out.cellv (i := 3) (v := .int .i64 x.run) rfl
    go_quiet ((first
      | (go_at_call 62; exact Calls.quiet_of_same ((HFl.out _).mono fun _ _ h => ⟨h.1, h.2.symm⟩))
      | (go_at_call 61; exact Calls.quiet_of_same ((HAdd.out _).mono fun _ _ h => ⟨h.1, h.2.symm⟩))))
    by_cases hp : S4 < 0
    all_goals
      go_wp2
      go_ret
      exact ⟨ret_int (by first | (rw [HQ.out]; done) | (rw [HQ.out]; omega)), below_drewN E1.out _⟩
end Go.Proofs.Ytfeccjjheiillaa
/- trend.Of: the walk. (fast region) -/
namespace Go.Proofs.Ytfeccjjheiillaa
open Go.RowKit
set_option linter.unusedSimpArgs false
set_option linter.unusedVariables false
set_option maxHeartbeats 8000000
set_option maxRecDepth 100000
abbrev z4 : Array Value := #[.int .i64 0, .int .i64 0, .int .i64 0, .int .i64 0]
def LI2 (w wr : World) (T : TypeId) : Prop := Blk wr w.heap.size T z4 ∧ Below w.heap.size w wr
theorem LI2.start (w : World) (T : TypeId) : LI2 w (w.alloc (.cells z4 T)) T := ⟨Blk.new w _ _, by go_grown⟩
theorem LI2.call {w wr w' : World} {T : TypeId} (h : LI2 w wr T) (hb : Below wr.heap.size wr w') : LI2 w w' T := ⟨h.1.call hb, h.2.trans (hb.mono h.2.size)⟩
def LineP (S : List Smp) (w : World) (e : Ending) (w' : World) : Prop := e = .returned (.tuple #[.agg (lineS S).row, .bool (hasS S)]) ∧ Below w.heap.size w w'
theorem trend_Of (A : Option Addr) (len cap : Nat) (l : List Smp) (w : World) (hs : SmpsAre w A len cap l) (hg : ∀ x ∈ l, x.good) (hn : len ≤ 200) :
    Calls Try.prog 23 #[.slice A len cap] w (LineP (serq 256 l) w) := by
  have D0 := Lib.hid (LI2.start w 43)
  have HS := Lib.hid hs
  have HO := Lib.hid (fun W hW => (show Calls Try.prog 18 #[.int .i64 256, .slice A len cap] W (OfS W (serq 256 l) 256) from series_Of 256 A len cap l W hW (by omega) (by omega) (by omega)))
  have HF := Lib.hid (serq_fin 256 hg)
  have HSl := Lib.hid (show (serq 256 l).length ≤ 200 by have := serq_len 256 l; have := hs.1; omega)
  clear hs hg
  generalize serq 256 l = S at *
  unfold LineP
  have hfd : ∀ (x : Stat) (w : World), (Instr.field 97 (.agg x.row) 4).run Try.prog w = .ok (.int .i64 x.mean) w := fun _ _ => by kernel_rfl
  have HG := Lib.hid (line_good HF.out)
  by_cases h0 : S.length = 0
  · have e1 : lineS S = ln0 := if_pos h0
    have e2 : hasS S = false := by unfold hasS; simp [h0]
    rw [e1, e2]
    clear e1 e2 HG
    have H0 := Lib.hid h0
    clear h0
    go_enter Try.func23, Try.ntmps23
    go_wp2_with (first
      | (go_at_call 18; refine (HO.out _ (slice_keep HS.out D0.out.2)).mono ?_; rintro e v1 ⟨g1, u1, rfl, hi1⟩; have I1 := Lib.hid hi1.1; have D1 := Lib.hid (D0.out.call hi1.2.2.1); clear hi1)
      | (go_at_call 20; refine (series_List g1 u1 S _ _ I1.out (by have := HSl.out; omega)).mono ?_; rintro e v2 ⟨A2, n2, c2, rfl, ho2, hb2⟩; have D2 := Lib.hid (D1.out.call hb2); have hn2 : n2 = 0 := (by rw [← (ho2.is smp_len).1, H0.out]); subst hn2; clear ho2 hb2)
      | (refine wpList_store_row rfl 43 (.tmp 2) (.tmp 16) rfl w.heap.size _ _ _ rfl rfl D2.out.1 (by rfl) (by kernel_rfl) (by simp [Value.oneCell']) ?_; intro w9 hb9 hg9))
    refine bodyPost_ret (results_row_tmp rfl _ _ w.heap.size _ _ _ rfl hb9 Try.underlying43 rfl (by kernel_rfl)) rfl ⟨rfl, D2.out.2.trans (Only.below hg9 (by omega) D2.out.2.size)⟩
  · have e2 : hasS S = true := by unfold hasS; simp [h0]
    rw [e2]
    clear e2
    by_cases h1 : S.length = 1
    · have e1 : lineS S = ⟨tkq S 0, vlq S 0, 0, 1⟩ := by unfold lineS; rw [if_neg h0, if_pos h1]
      rw [e1]
      clear e1 HG
      have H1 := Lib.hid h1
      clear h0 h1
      go_enter Try.func23, Try.ntmps23
      focus (go_upto_region 5 with (first
        | (go_at_call 18; refine (HO.out _ (slice_keep HS.out D0.out.2)).mono ?_; rintro e v1 ⟨g1, u1, rfl, hi1⟩; have I1 := Lib.hid hi1.1; have D1 := Lib.hid (D0.out.call hi1.2.2.1); clear hi1)
        | (go_at_call 20; refine (series_List g1 u1 S _ _ I1.out (by have := HSl.out; omega)).mono ?_; rintro e v2 ⟨A2, n2, c2, rfl, ho2, hb2⟩; have D2 := Lib.hid (D1.out.call hb2); have hn2 : n2 = 1 := (by rw [← (ho2.is smp_len).1, H1.out]); subst hn2; have L2 := Lib.hid (ho2.is smp_len); clear ho2 hb2)))
      obtain ⟨b, off, rfl, c0, c1, -⟩ := ends_at L2.out (by omega)
      have C0 := Lib.hid c0
      have C1 := Lib.hid c1
      have HBB := Lib.hid (cell_lt c0)
      clear c0 c1
      refine wp_region_any (by kernel_rfl) ?_; change wpAny _ _ _ _ _ _ _ (World.drew v2); refine any_of_anyG (late := fun j => [9, 10].contains j) (S := fun wS => Below v2.heap.size v2 wS) _ _ _ _ ?_
      have S0 := (Below.refl v2.heap.size v2).drew
      refine anyG_takes (is := [0, 1, 2, 3, 4]) (vs := [_, _, _, .int .i64 (tkq S 0), _]) (m := 6) (listed2 := #[true, true, true, true, true, false, false, false, false, false, false]) (a2 := ⟨#[_, _, _, _, _, _, _, _, _, _, _, _, _, _, _, _, _, _, _, _, _, _, _, _, _, _, _, _, _, _, _, _, _, _, _, _, _, _, _, _, _, _, _, _, _, _, _, _, _, _, _, _, _, _, _, _, _, _, _], _⟩) (by kernel_rfl) (fun j hj => by first | (simp at hj; done) | (simp at hj; simp; omega)) (by kernel_rfl) (fun _ _ _ _ _ h => h) (Ys.cons rfl (Or.inl ⟨by rfl, fun W1 hW1 => by first | rfl | (go_simp; done) | (go_simp; with_reducible rfl)⟩) (Ys.cons rfl (Or.inl ⟨by rfl, fun W1 hW1 => by first | rfl | (go_simp; done) | (go_simp; with_reducible rfl)⟩) (Ys.cons rfl (Or.inl ⟨by rfl, fun W1 hW1 => by first | rfl | (go_simp; done) | (go_simp; with_reducible rfl)⟩) (Ys.cons rfl (Or.inl ⟨by rfl, fun W1 hW1 => by have c := (hW1.cell (p := ⟨b, off, none⟩) HBB.out).trans C0.out; go_simp⟩) (Ys.cons rfl (Or.inl ⟨by rfl, fun W1 hW1 => by first | rfl | (go_simp; done) | (go_simp; with_reducible rfl)⟩) (Ys.nil)))))) (S0) (by rfl) (by rfl) ?_
      refine anyG_takes (is := [5, 6, 7, 8]) (vs := [_, _, .int .i64 (vlq S 0), _]) (m := 2) (listed2 := #[true, true, true, true, true, true, true, true, true, false, false]) (a2 := ⟨#[_, _, _, _, _, _, _, _, _, _, _, _, _, _, _, _, _, _, _, _, _, _, _, _, _, _, _, _, _, _, _, _, _, _, _, _, _, _, _, _, _, _, _, _, _, _, _, _, _, _, _, _, _, _, _, _, _, _, _], _⟩) (by kernel_rfl) (fun j hj => by first | (simp at hj; done) | (simp at hj; simp; omega)) (by kernel_rfl) (fun _ _ _ _ _ h => h) (Ys.cons rfl (Or.inl ⟨by rfl, fun W1 hW1 => by first | rfl | (go_simp; done) | (go_simp; with_reducible rfl)⟩) (Ys.cons rfl (Or.inl ⟨by rfl, fun W1 hW1 => by first | rfl | (go_simp; done) | (go_simp; with_reducible rfl)⟩) (Ys.cons rfl (Or.inl ⟨by rfl, fun W1 hW1 => by have c := (hW1.cell (p := ⟨b, off + 1, none⟩) HBB.out).trans C1.out; go_simp⟩) (Ys.cons rfl (Or.inl ⟨by rfl, fun W1 hW1 => by first | rfl | (go_simp; done) | (go_simp; with_reducible rfl)⟩) (Ys.nil))))) (S0) (by rfl) (by rfl) ?_
      refine anyG_of_any _ _ _ _ (by kernel_rfl) ?_
      refine any_one (k := 9) (by kernel_rfl) rfl (by rfl) (fun Q2 hQ2 => ?_); go_wp2_with (refine wpList_store_row rfl 43 (.tmp 2) (.tmp 28) rfl w.heap.size _ _ _ rfl rfl (D2.out.call (S0)).1 (by rfl) (by kernel_rfl) (by simp [Value.oneCell']) ?_; intro w9 hb9 hg9); (try refine hQ2 _ _ ?_); (try clear hQ2 Q2)
      refine wpAny_take (i := 10) (v := _) rfl (by kernel_rfl) (by kernel_rfl) (by kernel_rfl) (fun _ _ _ h => h) (Or.inl ⟨by rfl, fun W => by rfl⟩) ?_
      refine wpAny_done (by kernel_rfl) ?_ _
      go_wp2
      refine bodyPost_ret (results_row_tmp rfl _ _ w.heap.size _ _ _ rfl hb9 Try.underlying43 rfl (by kernel_rfl)) rfl ⟨rfl, (D2.out.call (S0)).2.trans (Only.below hg9 (by omega) (D2.out.call (S0)).2.size)⟩
    · have e1 : lineS S = ⟨midq (lateq S), meanq (valq (lateq S)), meanq (valq (lateq S)) - meanq (valq (earlyq S)), midq (lateq S) - midq (earlyq S)⟩ := by unfold lineS; rw [if_neg h0, if_neg h1]
      rw [e1] at HG ⊢
      clear e1
      obtain ⟨n, h, d, hn3, hnd, hdn0, h1h, hhd, hhalf⟩ : ∃ n h d : Nat, S.length = n ∧ n ≤ d + h ∧ d + h ≤ n ∧ 1 ≤ h ∧ h ≤ d ∧ S.length / 2 = h := ⟨S.length, S.length / 2, S.length - S.length / 2, rfl, by omega, by omega, by omega, by omega, rfl⟩
      have HN3 := Lib.hid hn3
      have HEa := Lib.hid (show earlyq S = S.take h by unfold earlyq; rw [hhalf])
      have HLa := Lib.hid (show lateq S = S.drop d by unfold lateq; rw [show S.length - S.length / 2 = d by omega])
      have FE := Lib.hid (show Fin (earlyq S) by rw [HEa.out]; exact HF.out.take h)
      have FL := Lib.hid (show Fin (lateq S) by rw [HLa.out]; exact HF.out.drop d)
      have lE := Lib.hid (show (earlyq S).length = h by rw [HEa.out, List.length_take]; omega)
      have lL := Lib.hid (show (lateq S).length = h by rw [HLa.out, List.length_drop]; omega)
      have mE := mean_bd FE.out (by rw [lE.out]; omega)
      have mL := mean_bd FL.out (by rw [lL.out]; omega)
      have b1 := mid_bd FE.out (by rw [lE.out]; omega)
      have b2 := mid_bd FL.out (by rw [lL.out]; omega)
      obtain ⟨b3, b4, b5, b6⟩ := b1
      obtain ⟨b7, b8, b9, b10⟩ := b2
      have q1 : 0 ≤ midq (earlyq S) ∧ midq (earlyq S) ≤ 9223372036854775807 := by omega
      have q2 : 0 ≤ midq (lateq S) ∧ midq (lateq S) ≤ 9223372036854775807 := by omega
      clear b3 b4 b5 b6 b7 b8 b9 b10
      have HWE := Lib.hid (fun W A c hW => window_Of A h c (earlyq S) W hW (fun x hx => (FE.out.2 x hx).1) (by have := HSl.out; omega))
      have HWL := Lib.hid (fun W A c hW => window_Of A h c (lateq S) W hW (fun x hx => (FL.out.2 x hx).1) (by have := HSl.out; omega))
      have HME := Lib.hid (fun W A c hW => trend_middle A h c (earlyq S) W hW FE.out h1h (by have := HSl.out; omega))
      have HML := Lib.hid (fun W A c hW => trend_middle A h c (lateq S) W hW FL.out h1h (by have := HSl.out; omega))
      have HmE := Lib.hid (statq_meanT (earlyq S))
      have HmL := Lib.hid (statq_meanT (lateq S))
      generalize statq (earlyq S) = TE at *
      generalize statq (lateq S) = TL at *
      have HfE : ∀ w : World, (Instr.field 97 (.agg TE.row) 4).run Try.prog w = .ok (.int .i64 (meanq (valq (earlyq S)))) w := fun w => by rw [← HmE.out]; exact hfd TE w
      have HfL : ∀ w : World, (Instr.field 97 (.agg TL.row) 4).run Try.prog w = .ok (.int .i64 (meanq (valq (lateq S)))) w := fun w => by rw [← HmL.out]; exact hfd TL w
      generalize meanq (valq (earlyq S)) = ME at *
      generalize meanq (valq (lateq S)) = ML at *
      generalize midq (earlyq S) = IE at *
      generalize midq (lateq S) = IL at *
      have hw0 : (n : Int) / 2 = (h : Int) := by omega
      have hw1 : (n : Int) - (h : Int) = (d : Int) := by omega
      have hw3 : IntKind.i64.wrap ((n : Int) - (h : Int)) = (d : Int) := by rw [hw1]; exact IntWalk.i64_in _ (by have := HSl.out; omega)
      have hhn : h ≤ n := by omega
      have hdn : d ≤ n := by omega
      have hsm : n ≤ 200 := by have := HSl.out; omega
      have dn0 : ((n : Int) == 0) = false := by simp; omega
      have dn1 : ((n : Int) == 1) = false := by simp; omega
      clear h0 h1 hn3 hfd hhalf
      go_enter Try.func23, Try.ntmps23
      focus (go_upto_region 7 with (first
        | (go_at_call 18; refine (HO.out _ (slice_keep HS.out D0.out.2)).mono ?_; rintro e v1 ⟨g1, u1, rfl, hi1⟩; have I1 := Lib.hid hi1.1; have D1 := Lib.hid (D0.out.call hi1.2.2.1); clear hi1)
        | (go_at_call 20; refine (series_List g1 u1 S _ _ I1.out (by have := HSl.out; omega)).mono ?_; rintro e v2 ⟨A2, n2, c2, rfl, ho2, hb2⟩; have D2 := Lib.hid (D1.out.call hb2); have hn2 : n2 = n := (by rw [← (ho2.is smp_len).1, HN3.out]); subst hn2; have L2 := Lib.hid (ho2.is smp_len); clear ho2 hb2)))
      obtain ⟨b, off, rfl, -, -, -⟩ := ends_at L2.out (by omega)
      have hc := L2.out.2.1
      have hc2 : c2 ≤ 9223372036854775807 := by have := L2.out.2.2.1; unfold maxLen at this; omega
      have hdc : d < c2 := by omega
      have hdc2 : ¬ c2 = d := by omega
      have hdc3 : ¬ c2 ≤ d := by omega
      go_quiet (fail)
      rw [show n2 - d = h by omega]
      have HDr := (Below.refl v2.heap.size v2)
      have PE := Lib.hid (show SmpsAre v2 (some ⟨b, off, none⟩) h c2 (earlyq S) by rw [HEa.out]; exact slice_take L2.out hhn)
      have PL := Lib.hid (show SmpsAre v2 (some ⟨b, off + d * 2, none⟩) h (c2 - d) (lateq S) by rw [HLa.out]; have := slice_drop L2.out hdn; rwa [show n2 - d = h by omega] at this)
      have D3 := Lib.hid (D2.out.call (below_drewN HDr nq))
      have PE3 := Lib.hid (slice_keep PE.out (below_drewN HDr nq))
      have PL3 := Lib.hid (slice_keep PL.out (below_drewN HDr nq))
      obtain ⟨mE1, mE2⟩ := mE
      obtain ⟨mL1, mL2⟩ := mL
      obtain ⟨q11, q12⟩ := q1
      obtain ⟨q21, q22⟩ := q2
      generalize v2.drewN nq = W3 at *
      clear HDr hw0 hw1 hw3 dn0 dn1 hdc2 hdc3 PE PL D2 L2
      go_wp2_with fail
      refine (HWE.out _ _ _ PE3.out).mono ?_
      rintro e v4 ⟨rfl, hb4⟩
      have D4 := Lib.hid (D3.out.call hb4)
      have PE4 := Lib.hid (slice_keep PE3.out hb4)
      have PL4 := Lib.hid (slice_keep PL3.out hb4)
      clear hb4 PE3 PL3 D3
      go_wp2_with fail
      refine (HWL.out _ _ _ PL4.out).mono ?_
      rintro e v5 ⟨rfl, hb5⟩
      have D5 := Lib.hid (D4.out.call hb5)
      have PE5 := Lib.hid (slice_keep PE4.out hb5)
      have PL5 := Lib.hid (slice_keep PL4.out hb5)
      clear hb5 PE4 PL4 D4
      go_wp2_with fail
      refine (HML.out _ _ _ PL5.out).mono ?_
      rintro e v6 ⟨rfl, hb6⟩
      have D6 := Lib.hid (D5.out.call hb6)
      have PE6 := Lib.hid (slice_keep PE5.out hb6)
      have PL6 := Lib.hid (slice_keep PL5.out hb6)
      clear hb6 PE5 PL5 D5
      go_wp2_with fail
      refine (HML.out _ _ _ PL6.out).mono ?_
      rintro e v7 ⟨rfl, hb7⟩
      have D7 := Lib.hid (D6.out.call hb7)
      have PE7 := Lib.hid (slice_keep PE6.out hb7)
      clear hb7 PE6 PL6 D6
      go_wp2_with fail
      refine (HME.out _ _ _ PE7.out).mono ?_
      rintro e v8 ⟨rfl, hb8⟩
      have D8 := Lib.hid (D7.out.call hb8)
      clear hb8 PE7 D7
      go_wp2_with (refine wpList_store_row rfl 43 (.tmp 2) (.tmp 58) rfl w.heap.size _ _ _ rfl rfl D8.out.1 (by rfl) (by kernel_rfl) (by simp [Value.oneCell']) ?_; intro w9 hb9 hg9)
      refine bodyPost_ret (results_row_tmp rfl _ _ w.heap.size _ _ _ rfl hb9 Try.underlying43 rfl (by kernel_rfl)) rfl ⟨rfl, D8.out.2.trans (Only.below hg9 (by omega) D8.out.2.size)⟩
end Go.Proofs.Ytfeccjjheiillaa
