/- Several texts in one. -/
import Derived.Test.YtfeccjjheiillaaKTrendAhead2
import Derived.Test.YtfeccjjheiillaaKTrendAhead3
import Derived.Test.YtfeccjjheiillaaEqs
/- Chapter 52: awake; equality of lines. -/
namespace Go.Proofs.Ytfeccjjheiillaa
open Go.RowKit
set_option linter.unusedSimpArgs false
set_option linter.unusedVariables false
set_option maxHeartbeats 4000000
set_option maxRecDepth 100000
theorem eq_line (x : Ln) :
    (∀ W : World, (binOp .eql 43 (.agg x.row) (.agg x.row)).run Try.prog W = .ok (.bool true) W) ∧ (∀ W : World, (binOp .neq 42 (.agg x.row) (.agg x.row)).run Try.prog W = .ok (.bool false) W) := by
  have h1 := eq_ints (t := 43) (by kernel_rfl) (by kernel_rfl) (by kernel_rfl) (by kernel_rfl) [.i64, .i64, .i64, .i64] [x.tick, x.value, x.rise, x.run] [x.tick, x.value, x.rise, x.run] (by kernel_rfl) (by kernel_rfl) (by kernel_rfl) _ _ rfl rfl true (by simp)
  have h2 := eq_ints (t := 42) (by kernel_rfl) (by kernel_rfl) (by kernel_rfl) (by kernel_rfl) [.i64, .i64, .i64, .i64] [x.tick, x.value, x.rise, x.run] [x.tick, x.value, x.rise, x.run] (by kernel_rfl) (by kernel_rfl) (by kernel_rfl) _ _ rfl rfl true (by simp)
  exact ⟨h1.2.1, fun W => (h2.2.2 W).trans rfl⟩
def two52 : List Smp := [⟨0, 0⟩, ⟨10, 20⟩]
def ln52 : Ln := ⟨10, 20, 20, 10⟩
theorem ln_ext {x y : Ln} (h1 : x.tick = y.tick) (h2 : x.value = y.value) (h3 : x.rise = y.rise) (h4 : x.run = y.run) : x = y := by
  cases x; cases y; simp only at h1 h2 h3 h4; subst h1 h2 h3 h4; rfl
theorem line52 : lineS (serq 256 two52) = ln52 ∧ hasS (serq 256 two52) = true ∧ lnat ln52 15 = 30 := ⟨ln_ext (by decide +kernel) (by decide +kernel) (by decide +kernel) (by decide +kernel), by decide +kernel, by decide +kernel⟩
theorem awake52 (w : World) : Calls Try.prog 22 #[] w fun e w' => e = .returned (.bool true) ∧ Below w.heap.size w w' := by
  have HO := Lib.hid (fun A c W hW => trend_Of A 2 c two52 W hW (fun x hx => by
    simp only [two52, List.mem_cons, List.not_mem_nil, or_false] at hx
    rcases hx with rfl | rfl <;> unfold Smp.good I64 <;> simp) (by omega))
  unfold LineP at HO
  rw [line52.1, line52.2.1] at HO
  have HA := Lib.hid (fun W => line_At ln52 15 W (by unfold Ln.good ln52 I64; simp) (by unfold I64; omega))
  rw [line52.2.2] at HA
  have HU := Lib.hid (fun W => line_Up ln52 W)
  rw [show decide (0 < ln52.run ∧ 0 < ln52.rise) = true by decide] at HU
  obtain ⟨q1, -⟩ := eq_line ln52
  have HL := Lib.hid (show SmpsAre (w.alloc (.cells #[.int .i64 0, .int .i64 0, .int .i64 10, .int .i64 20] 34)) (some ⟨w.heap.size, 0, none⟩) 2 2 two52 from slice_blk (l := two52) (fun _ => rfl) (Blk.new w _ _) rfl (by decide))
  have E0 := Lib.hid (show Below w.heap.size w (w.alloc (.cells #[.int .i64 0, .int .i64 0, .int .i64 10, .int .i64 20] 34)) by go_grown)
  go_enter Try.func22, Try.ntmps22
  go_wp2_with fail
  refine (HO.out _ _ _ HL.out).mono ?_
  rintro e v1 ⟨rfl, hb1⟩
  have E1 := Lib.hid ((E0.out.trans (hb1.mono E0.out.size)).alloc (Nat.le_trans E0.out.size hb1.size) (.cells ln52.row 43))
  have B1 := Lib.hid (Blk.new v1 43 ln52.row)
  have c0 := B1.out.cellv (i := 0) (v := .int .i64 ln52.tick) rfl
  have c1 := B1.out.cellv (i := 1) (v := .int .i64 ln52.value) rfl
  have c2 := B1.out.cellv (i := 2) (v := .int .i64 ln52.rise) rfl
  have c3 := B1.out.cellv (i := 3) (v := .int .i64 ln52.run) rfl
  clear hb1
  go_wp2_with fail
  refine (HA.out _).mono ?_
  rintro e v2 ⟨rfl, hb2⟩
  have E2 := Lib.hid (E1.out.trans (hb2.mono E1.out.size))
  have d0 := (B1.out.call hb2).cellv (i := 0) (v := .int .i64 ln52.tick) rfl
  have d1 := (B1.out.call hb2).cellv (i := 1) (v := .int .i64 ln52.value) rfl
  have d2 := (B1.out.call hb2).cellv (i := 2) (v := .int .i64 ln52.rise) rfl
  have d3 := (B1.out.call hb2).cellv (i := 3) (v := .int .i64 ln52.run) rfl
  clear hb2 c0 c1 c2 c3
  go_wp2_with fail
  refine (HU.out _).mono ?_
  rintro e v3 ⟨rfl, hb3⟩
  go_wp2
  go_ret
  exact ⟨rfl, E2.out.trans (hb3.mono E2.out.size)⟩
end Go.Proofs.Ytfeccjjheiillaa
/- Chapter 52's law: TrendTells. (fast region) -/
namespace Go.Proofs.Ytfeccjjheiillaa
open Go.RowKit
set_option linter.unusedSimpArgs false
set_option linter.unusedVariables false
set_option maxHeartbeats 8000000
set_option maxRecDepth 100000
theorem walk_TrendTells (A : Option Addr) (len cap : Nat) (l : List Smp) (x0 x1 x2 x3 : Int) (at_ : Int) (w : World) (hs : SmpsAre w A len cap l) (hg : ∀ x ∈ l, x.good) (h0 : I64 x0) (h1 : I64 x1) (h2 : I64 x2) (h3 : I64 x3) (ha : I64 at_) :
    Calls Try.prog 5 #[.slice A len cap, .agg #[.int .i64 x0, .int .i64 x1, .int .i64 x2, .int .i64 x3], .int .i64 at_] w fun e w' => e = .returned (.bool true) ∧ Below w.heap.size w w' := by
  obtain ⟨x, rfl, rfl, rfl, rfl⟩ : ∃ x : Ln, x0 = x.tick ∧ x1 = x.value ∧ x2 = x.rise ∧ x3 = x.run := ⟨⟨x0, x1, x2, x3⟩, rfl, rfl, rfl, rfl⟩
  have HS := Lib.hid hs
  have hle : len ≤ cap := hs.2.1
  have hm : cap ≤ 9223372036854775807 := by have := hs.2.2.1; unfold maxLen at this; omega
  have B0 := Lib.hid (Blk.new w 42 x.row)
  have E0 := Lib.hid (show Below w.heap.size w (w.alloc (.cells x.row 42)) by go_grown)
  by_cases hl : 60 < len
  · have d0 : decide ((60 : Int) < (len : Int)) = true := by simp; omega
    clear hs hg
    go_enter Try.func5, Try.ntmps5
    go_wp2_with (go_at_call 22; refine (awake52 _).mono ?_; rintro e v1 ⟨rfl, hb1⟩; have E1 := Lib.hid (E0.out.trans (hb1.mono E0.out.size)); clear hb1)
    go_ret
    exact ⟨rfl, E1.out⟩
  have d0 : decide ((60 : Int) < (len : Int)) = false := by simp; omega
  have HO1 := Lib.hid (fun W hW => trend_Of A len cap l W hW hg (by omega))
  have HO2 := Lib.hid (fun W hW => ref52_Of A len cap l W hW hg (by omega))
  have HF := line_good (serq_fin 256 hg)
  have HB1 := Lib.hid (fun W => line_At (lineS (serq 256 l)) at_ W HF.1 ha)
  have HB2 := Lib.hid (fun W => ref52_At (lineS (serq 256 l)) at_ W HF.1 ha)
  have HA1 := Lib.hid (fun W => line_At x at_ W ⟨h0, h1, h2, h3⟩ ha)
  have HA2 := Lib.hid (fun W => ref52_At x at_ W ⟨h0, h1, h2, h3⟩ ha)
  have HU := Lib.hid (fun W => line_Up x W)
  unfold LineP at HO1 HO2
  have hrun : (hasS (serq 256 l) = false) ∨ (hasS (serq 256 l) = true ∧ decide ((lineS (serq 256 l)).run < 1) = false) := by
    by_cases h : (serq 256 l).length = 0
    · left; unfold hasS; simp [h]
    · right; exact ⟨by unfold hasS; simp [h], by have := HF.2 h; simp; omega⟩
  generalize hasS (serq 256 l) = HB at *
  generalize lnat x at_ = RA at *
  generalize lnat (lineS (serq 256 l)) at_ = RB at *
  generalize lineS (serq 256 l) = L at *
  obtain ⟨-, q2⟩ := eq_line L
  have eRA : (RA == RA) = true := by simp
  have eRB : (RB == RB) = true := by simp
  clear hs hg h0 h1 h2 h3 ha HF
  rcases hrun with rfl | ⟨rfl, dr⟩
  all_goals
    go_enter Try.func5, Try.ntmps5
    focus (go_upto_region 10 with (first
      | (go_at_call 22; refine (awake52 _).mono ?_; rintro e v1 ⟨rfl, hb1⟩; have E1 := Lib.hid (E0.out.trans (hb1.mono E0.out.size)); have B1 := Lib.hid (B0.out.call hb1); clear hb1)
      | (go_at_call 23; refine (HO1.out _ (slice_keep HS.out E1.out)).mono ?_; rintro e v2 ⟨rfl, hb2⟩; have A2 := hb2.trans ((Below.refl v2.heap.size v2).alloc (Nat.le_refl _) (.cells L.row 43) |>.mono hb2.size); have E2 := Lib.hid (E1.out.trans (A2.mono E1.out.size)); have B2 := Lib.hid (B1.out.call A2); have R2 := Lib.hid (Blk.new v2 43 L.row); clear hb2 A2)
      | (go_at_call 24; refine (HO2.out _ (slice_keep HS.out E2.out)).mono ?_; rintro e v3 ⟨rfl, hb3⟩; have A3 := hb3.trans ((Below.refl v3.heap.size v3).alloc (Nat.le_refl _) (.cells L.row 42) |>.mono hb3.size); have E3 := Lib.hid (E2.out.trans (A3.mono E2.out.size)); have B3 := Lib.hid (B2.out.call A3); have R3 := Lib.hid (R2.out.call A3); have Q3 := Lib.hid (Blk.new v3 42 L.row); have s3 := R3.out.cellv (i := 3) (v := .int .i64 L.run) rfl; clear hb3 A3)
      | (refine Blk.load rfl 43 (.tmp 7) rfl _ _ _ _ rfl R3.out Try.underlying43 rfl (by kernel_rfl) ?_)
      | (refine Blk.load rfl 42 (.tmp 9) rfl _ _ _ _ rfl Q3.out Try.underlying42 rfl (by kernel_rfl) ?_)
      | (refine Blk.load rfl 42 (.tmp 4) rfl _ _ _ _ rfl B3.out Try.underlying42 rfl (by kernel_rfl) ?_)))
    have RP := Lib.hid (B3.out.alloc (.cells x.row 43))
    have R7 := Lib.hid (R3.out.alloc (.cells x.row 43))
    have R9 := Lib.hid (Q3.out.alloc (.cells x.row 43))
    have R11 := Lib.hid (Blk.new (v3.alloc (.cells L.row 42)) 43 x.row)
    have E5 := Lib.hid (E3.out.alloc E3.out.size (.cells x.row 43))
    simp only [World.size_alloc] at R11
    generalize (v3.alloc (.cells L.row 42)).alloc (.cells x.row 43) = W5 at *
    (try clear s3)
    (try clear q2)
    generalize v3.heap.size = g9 at *
    generalize v2.heap.size = g7 at *
    by_cases hu : 0 < x.run
    · have du : decide (0 < x.run) = true := by simpa using hu
      have hU2 : decide (0 < x.run ∧ 0 < x.rise) = decide (0 < x.rise) := by simp [hu]
      rw [hU2] at HU
      generalize hUU : decide (0 < x.rise) = U at *
      have eU : (U == U) = true := by simp
      clear hU2 hu
      refine wp_region_any (by kernel_rfl) ?_; change wpAny _ _ _ _ _ _ _ (World.drew W5); refine any_of_anyG (late := fun _ => false) (S := fun wS => Below W5.heap.size W5 wS) _ _ _ _ ?_
      have S0 := (Below.refl W5.heap.size W5).drew
      refine anyG_takes (is := [0, 1, 3, 4]) (vs := [_, _, _, _]) (m := 26) (listed2 := #[true, true, false, true, true, false, false, false, false, false, false, false, false, false, false, false, false, false, false, false, false, false, false, false, false, false, false, false, false, false]) (a2 := ⟨#[_, _, _, _, _, _, _, _, _, _, _, _, _, _, _, _, _, _, _, _, _, _, _, _, _, _, _, _, _, _, _, _, _, _, _, _, _, _, _, _, _, _, _, _, _, _, _, _, _, _, _, _, _, _, _, _, _, _, _, _, _, _, _, _, _, _, _, _, _, _, _, _, _], _⟩) (by kernel_rfl) (fun j hj => by simp at hj) (by kernel_rfl) (fun _ _ _ _ _ h => h) (Ys.cons rfl (Or.inl ⟨by rfl, fun W1 hW1 => exec_load (ty := 43) (x := .tmp 11) rfl rfl (run_loadAt_blk _ _ _ _ _ _ (R11.out.call hW1) Try.underlying43 rfl (by first | kernel_rfl | exact info_num _))⟩) (Ys.cons rfl (Or.inl ⟨by rfl, fun W1 hW1 => by first | rfl | (go_simp; done) | (go_simp; with_reducible rfl)⟩) (Ys.cons rfl (Or.inl ⟨by rfl, fun W1 hW1 => exec_load (ty := 42) (x := .tmp 4) rfl rfl (run_loadAt_blk _ _ _ _ _ _ (RP.out.call hW1) Try.underlying42 rfl (by first | kernel_rfl | exact info_num _))⟩) (Ys.cons rfl (Or.inl ⟨by rfl, fun W1 hW1 => by first | rfl | (go_simp; done) | (go_simp; with_reducible rfl)⟩) (Ys.nil))))) (S0) (by rfl) (by rfl) ?_
      refine anyG_one (k := 2) (by kernel_rfl) rfl (by rfl) (fun Q2 hQ2 => ?_); go_wp2_with (go_at_call 25; refine (HA1.out _).mono ?_; rintro e v6 ⟨rfl, hb6⟩); refine hQ2 _ _ (fun _ => S0.trans (hb6.mono S0.size)) ?_; clear hQ2 Q2
      have S6 := S0.trans (hb6.mono S0.size)
      refine anyG_one (k := 5) (by kernel_rfl) rfl (by rfl) (fun Q2 hQ2 => ?_); go_wp2_with (go_at_call 26; refine (HA2.out _).mono ?_; rintro e v7 ⟨rfl, hb7⟩); refine hQ2 _ _ (fun _ => S6.trans (hb7.mono S6.size)) ?_; clear hQ2 Q2
      have S7 := S6.trans (hb7.mono S6.size)
      refine anyG_takes (is := [6, 7, 8, 10, 11]) (vs := [.bool true, _, _, _, .int .i64 x.run]) (m := 19) (listed2 := #[true, true, true, true, true, true, true, true, true, false, true, true, false, false, false, false, false, false, false, false, false, false, false, false, false, false, false, false, false, false]) (a2 := ⟨#[_, _, _, _, _, _, _, _, _, _, _, _, _, _, _, _, _, _, _, _, _, _, _, _, _, _, _, _, _, _, _, _, _, _, _, _, _, _, _, _, _, _, _, _, _, _, _, _, _, _, _, _, _, _, _, _, _, _, _, _, _, _, _, _, _, _, _, _, _, _, _, _, _], _⟩) (by kernel_rfl) (fun j hj => by simp at hj) (by kernel_rfl) (fun _ _ _ _ _ h => h) (Ys.cons rfl (Or.inl ⟨by rfl, fun W1 hW1 => by go_simp⟩) (Ys.cons rfl (Or.inl ⟨by rfl, fun W1 hW1 => by first | rfl | (go_simp; done) | (go_simp; with_reducible rfl)⟩) (Ys.cons rfl (Or.inl ⟨by rfl, fun W1 hW1 => exec_load (ty := 43) (x := .tmp 11) rfl rfl (run_loadAt_blk _ _ _ _ _ _ (R11.out.call hW1) Try.underlying43 rfl (by first | kernel_rfl | exact info_num _))⟩) (Ys.cons rfl (Or.inl ⟨by rfl, fun W1 hW1 => by first | rfl | (go_simp; done) | (go_simp; with_reducible rfl)⟩) (Ys.cons rfl (Or.inl ⟨by rfl, fun W1 hW1 => by have c := (RP.out.call hW1).cellv (i := 3) (v := .int .i64 x.run) rfl; go_simp⟩) (Ys.nil)))))) (S7) (by rfl) (by rfl) ?_
      refine anyG_takes (is := [12]) (vs := [.bool true]) (m := 18) (listed2 := #[true, true, true, true, true, true, true, true, true, false, true, true, true, false, false, false, false, false, false, false, false, false, false, false, false, false, false, false, false, false]) (a2 := ⟨#[_, _, _, _, _, _, _, _, _, _, _, _, _, _, _, _, _, _, _, _, _, _, _, _, _, _, _, _, _, _, _, _, _, _, _, _, _, _, _, _, _, _, _, _, _, _, _, _, _, _, _, _, _, _, _, _, _, _, _, _, _, _, _, _, _, _, _, _, _, _, _, _, _], _⟩) (by kernel_rfl) (fun j hj => by simp at hj) (by kernel_rfl) (fun _ _ _ _ _ h => h) (Ys.cons rfl (Or.inl ⟨by rfl, fun W1 hW1 => by go_simp⟩) (Ys.nil)) (S7) (by rfl) (by rfl) ?_
      refine anyG_one (k := 9) (by kernel_rfl) rfl (by rfl) (fun Q2 hQ2 => ?_); go_wp2_with (go_at_call 27; refine (HU.out _).mono ?_; rintro e v8 ⟨rfl, hb8⟩); refine hQ2 _ _ (fun _ => S7.trans (hb8.mono S7.size)) ?_; clear hQ2 Q2
      have S8 := S7.trans (hb8.mono S7.size)
      refine anyG_takes (is := [13, 14, 15, 16, 17]) (vs := [_, _, .int .i64 x.rise, .bool U, .bool U]) (m := 12) (listed2 := #[true, true, true, true, true, true, true, true, true, true, true, true, true, true, true, true, true, true, false, false, false, false, false, false, false, false, false, false, false, false]) (a2 := ⟨#[_, _, _, _, _, _, _, _, _, _, _, _, _, _, _, _, _, _, _, _, _, _, _, _, _, _, _, _, _, _, _, _, _, _, _, _, _, _, _, _, _, _, _, _, _, _, _, _, _, _, _, _, _, _, _, _, _, _, _, _, _, _, _, _, _, _, _, _, _, _, _, _, _], _⟩) (by kernel_rfl) (fun j hj => by simp at hj) (by kernel_rfl) (fun _ _ _ _ _ h => h) (Ys.cons rfl (Or.inl ⟨by rfl, fun W1 hW1 => by first | rfl | (go_simp; done) | (go_simp; with_reducible rfl)⟩) (Ys.cons rfl (Or.inl ⟨by rfl, fun W1 hW1 => by first | rfl | (go_simp; done) | (go_simp; with_reducible rfl)⟩) (Ys.cons rfl (Or.inl ⟨by rfl, fun W1 hW1 => by have c := (RP.out.call hW1).cellv (i := 2) (v := .int .i64 x.rise) rfl; go_simp⟩) (Ys.cons rfl (Or.inl ⟨by rfl, fun W1 hW1 => by go_simp⟩) (Ys.cons rfl (Or.inl ⟨by rfl, fun W1 hW1 => by rfl⟩) (Ys.nil)))))) (S8) (by rfl) (by rfl) ?_
      refine anyG_takes (is := [18, 19, 20, 21, 22]) (vs := [.bool true, .bool true, _, _, _]) (m := 7) (listed2 := #[true, true, true, true, true, true, true, true, true, true, true, true, true, true, true, true, true, true, true, true, true, true, true, false, false, false, false, false, false, false]) (a2 := ⟨#[_, _, _, _, _, _, _, _, _, _, _, _, _, _, _, _, _, _, _, _, _, _, _, _, _, _, _, _, _, _, _, _, _, _, _, _, _, _, _, _, _, _, _, _, _, _, _, _, _, _, _, _, _, _, _, _, _, _, _, _, _, _, _, _, _, _, _, _, _, _, _, _, _], _⟩) (by kernel_rfl) (fun j hj => by simp at hj) (by kernel_rfl) (fun _ _ _ _ _ h => h) (Ys.cons rfl (Or.inl ⟨by rfl, fun W1 hW1 => by go_simp⟩) (Ys.cons rfl (Or.inl ⟨by rfl, fun W1 hW1 => by rfl⟩) (Ys.cons rfl (Or.inl ⟨by rfl, fun W1 hW1 => by first | rfl | (go_simp; done) | (go_simp; with_reducible rfl)⟩) (Ys.cons rfl (Or.inl ⟨by rfl, fun W1 hW1 => exec_load (ty := 43) (x := .tmp 7) rfl rfl (run_loadAt_blk _ _ _ _ _ _ (R7.out.call hW1) Try.underlying43 rfl (by first | kernel_rfl | exact info_num _))⟩) (Ys.cons rfl (Or.inl ⟨by rfl, fun W1 hW1 => by first | rfl | (go_simp; done) | (go_simp; with_reducible rfl)⟩) (Ys.nil)))))) (S8) (by rfl) (by rfl) ?_
      refine anyG_takes (is := [24, 25]) (vs := [_, _]) (m := 5) (listed2 := #[true, true, true, true, true, true, true, true, true, true, true, true, true, true, true, true, true, true, true, true, true, true, true, false, true, true, false, false, false, false]) (a2 := ⟨#[_, _, _, _, _, _, _, _, _, _, _, _, _, _, _, _, _, _, _, _, _, _, _, _, _, _, _, _, _, _, _, _, _, _, _, _, _, _, _, _, _, _, _, _, _, _, _, _, _, _, _, _, _, _, _, _, _, _, _, _, _, _, _, _, _, _, _, _, _, _, _, _, _], _⟩) (by kernel_rfl) (fun j hj => by simp at hj) (by kernel_rfl) (fun _ _ _ _ _ h => h) (Ys.cons rfl (Or.inl ⟨by rfl, fun W1 hW1 => exec_load (ty := 42) (x := .tmp 9) rfl rfl (run_loadAt_blk _ _ _ _ _ _ (R9.out.call hW1) Try.underlying42 rfl (by first | kernel_rfl | exact info_num _))⟩) (Ys.cons rfl (Or.inl ⟨by rfl, fun W1 hW1 => by first | rfl | (go_simp; done) | (go_simp; with_reducible rfl)⟩) (Ys.nil))) (S8) (by rfl) (by rfl) ?_
      refine anyG_one (k := 23) (by kernel_rfl) rfl (by rfl) (fun Q2 hQ2 => ?_); go_wp2_with (go_at_call 25; refine (HB1.out _).mono ?_; rintro e v9 ⟨rfl, hb9⟩); refine hQ2 _ _ (fun _ => S8.trans (hb9.mono S8.size)) ?_; clear hQ2 Q2
      have S9 := S8.trans (hb9.mono S8.size)
      refine anyG_one (k := 26) (by kernel_rfl) rfl (by rfl) (fun Q2 hQ2 => ?_); go_wp2_with (go_at_call 26; refine (HB2.out _).mono ?_; rintro e v10 ⟨rfl, hb10⟩); refine hQ2 _ _ (fun _ => S9.trans (hb10.mono S9.size)) ?_; clear hQ2 Q2
      have S10 := S9.trans (hb10.mono S9.size)
      refine anyG_takes (is := [27, 28, 29]) (vs := [.bool true, .bool true, _]) (m := 0) (listed2 := #[true, true, true, true, true, true, true, true, true, true, true, true, true, true, true, true, true, true, true, true, true, true, true, true, true, true, true, true, true, true]) (a2 := ⟨#[_, _, _, _, _, _, _, _, _, _, _, _, _, _, _, _, _, _, _, _, _, _, _, _, _, _, _, _, _, _, _, _, _, _, _, _, _, _, _, _, _, _, _, _, _, _, _, _, _, _, _, _, _, _, _, _, _, _, _, _, _, _, _, _, _, _, _, _, _, _, _, _, _], _⟩) (by kernel_rfl) (fun j hj => by simp at hj) (by kernel_rfl) (fun _ _ _ _ _ h => h) (Ys.cons rfl (Or.inl ⟨by rfl, fun W1 hW1 => by go_simp⟩) (Ys.cons rfl (Or.inl ⟨by rfl, fun W1 hW1 => by rfl⟩) (Ys.cons rfl (Or.inl ⟨by rfl, fun W1 hW1 => by first | rfl | (go_simp; done) | (go_simp; with_reducible rfl)⟩) (Ys.nil)))) (S10) (by rfl) (by rfl) ?_
      refine anyG_done (by kernel_rfl) ?_ _
      go_wp2
      go_ret
      exact ⟨rfl, E5.out.trans (Below.mono (S10) E5.out.size)⟩
    · have du : decide (0 < x.run) = false := by simpa using hu
      have hU2 : decide (0 < x.run ∧ 0 < x.rise) = false := decide_eq_false (fun h => hu h.1)
      rw [hU2] at HU
      clear hU2 hu
      refine wp_region_any (by kernel_rfl) ?_; change wpAny _ _ _ _ _ _ _ (World.drew W5); refine any_of_anyG (late := fun _ => false) (S := fun wS => Below W5.heap.size W5 wS) _ _ _ _ ?_
      have S0 := (Below.refl W5.heap.size W5).drew
      refine anyG_takes (is := [0, 1, 3, 4]) (vs := [_, _, _, _]) (m := 26) (listed2 := #[true, true, false, true, true, false, false, false, false, false, false, false, false, false, false, false, false, false, false, false, false, false, false, false, false, false, false, false, false, false]) (a2 := ⟨#[_, _, _, _, _, _, _, _, _, _, _, _, _, _, _, _, _, _, _, _, _, _, _, _, _, _, _, _, _, _, _, _, _, _, _, _, _, _, _, _, _, _, _, _, _, _, _, _, _, _, _, _, _, _, _, _, _, _, _, _, _, _, _, _, _, _, _, _, _, _, _, _, _], _⟩) (by kernel_rfl) (fun j hj => by simp at hj) (by kernel_rfl) (fun _ _ _ _ _ h => h) (Ys.cons rfl (Or.inl ⟨by rfl, fun W1 hW1 => exec_load (ty := 43) (x := .tmp 11) rfl rfl (run_loadAt_blk _ _ _ _ _ _ (R11.out.call hW1) Try.underlying43 rfl (by first | kernel_rfl | exact info_num _))⟩) (Ys.cons rfl (Or.inl ⟨by rfl, fun W1 hW1 => by first | rfl | (go_simp; done) | (go_simp; with_reducible rfl)⟩) (Ys.cons rfl (Or.inl ⟨by rfl, fun W1 hW1 => exec_load (ty := 42) (x := .tmp 4) rfl rfl (run_loadAt_blk _ _ _ _ _ _ (RP.out.call hW1) Try.underlying42 rfl (by first | kernel_rfl | exact info_num _))⟩) (Ys.cons rfl (Or.inl ⟨by rfl, fun W1 hW1 => by first | rfl | (go_simp; done) | (go_simp; with_reducible rfl)⟩) (Ys.nil))))) (S0) (by rfl) (by rfl) ?_
      refine anyG_one (k := 2) (by kernel_rfl) rfl (by rfl) (fun Q2 hQ2 => ?_); go_wp2_with (go_at_call 25; refine (HA1.out _).mono ?_; rintro e v6 ⟨rfl, hb6⟩); refine hQ2 _ _ (fun _ => S0.trans (hb6.mono S0.size)) ?_; clear hQ2 Q2
      have S6 := S0.trans (hb6.mono S0.size)
      refine anyG_one (k := 5) (by kernel_rfl) rfl (by rfl) (fun Q2 hQ2 => ?_); go_wp2_with (go_at_call 26; refine (HA2.out _).mono ?_; rintro e v7 ⟨rfl, hb7⟩); refine hQ2 _ _ (fun _ => S6.trans (hb7.mono S6.size)) ?_; clear hQ2 Q2
      have S7 := S6.trans (hb7.mono S6.size)
      refine anyG_takes (is := [6, 7, 8, 10, 11]) (vs := [.bool true, _, _, _, .int .i64 x.run]) (m := 19) (listed2 := #[true, true, true, true, true, true, true, true, true, false, true, true, false, false, false, false, false, false, false, false, false, false, false, false, false, false, false, false, false, false]) (a2 := ⟨#[_, _, _, _, _, _, _, _, _, _, _, _, _, _, _, _, _, _, _, _, _, _, _, _, _, _, _, _, _, _, _, _, _, _, _, _, _, _, _, _, _, _, _, _, _, _, _, _, _, _, _, _, _, _, _, _, _, _, _, _, _, _, _, _, _, _, _, _, _, _, _, _, _], _⟩) (by kernel_rfl) (fun j hj => by simp at hj) (by kernel_rfl) (fun _ _ _ _ _ h => h) (Ys.cons rfl (Or.inl ⟨by rfl, fun W1 hW1 => by go_simp⟩) (Ys.cons rfl (Or.inl ⟨by rfl, fun W1 hW1 => by first | rfl | (go_simp; done) | (go_simp; with_reducible rfl)⟩) (Ys.cons rfl (Or.inl ⟨by rfl, fun W1 hW1 => exec_load (ty := 43) (x := .tmp 11) rfl rfl (run_loadAt_blk _ _ _ _ _ _ (R11.out.call hW1) Try.underlying43 rfl (by first | kernel_rfl | exact info_num _))⟩) (Ys.cons rfl (Or.inl ⟨by rfl, fun W1 hW1 => by first | rfl | (go_simp; done) | (go_simp; with_reducible rfl)⟩) (Ys.cons rfl (Or.inl ⟨by rfl, fun W1 hW1 => by have c := (RP.out.call hW1).cellv (i := 3) (v := .int .i64 x.run) rfl; go_simp⟩) (Ys.nil)))))) (S7) (by rfl) (by rfl) ?_
      refine anyG_takes (is := [12]) (vs := [.bool false]) (m := 18) (listed2 := #[true, true, true, true, true, true, true, true, true, false, true, true, true, false, false, false, false, false, false, false, false, false, false, false, false, false, false, false, false, false]) (a2 := ⟨#[_, _, _, _, _, _, _, _, _, _, _, _, _, _, _, _, _, _, _, _, _, _, _, _, _, _, _, _, _, _, _, _, _, _, _, _, _, _, _, _, _, _, _, _, _, _, _, _, _, _, _, _, _, _, _, _, _, _, _, _, _, _, _, _, _, _, _, _, _, _, _, _, _], _⟩) (by kernel_rfl) (fun j hj => by simp at hj) (by kernel_rfl) (fun _ _ _ _ _ h => h) (Ys.cons rfl (Or.inl ⟨by rfl, fun W1 hW1 => by go_simp⟩) (Ys.nil)) (S7) (by rfl) (by rfl) ?_
      refine anyG_one (k := 9) (by kernel_rfl) rfl (by rfl) (fun Q2 hQ2 => ?_); go_wp2_with (go_at_call 27; refine (HU.out _).mono ?_; rintro e v8 ⟨rfl, hb8⟩); refine hQ2 _ _ (fun _ => S7.trans (hb8.mono S7.size)) ?_; clear hQ2 Q2
      have S8 := S7.trans (hb8.mono S7.size)
      refine anyG_takes (is := [13, 14, 15, 16, 17]) (vs := [_, undef, undef, undef, .bool false]) (m := 12) (listed2 := #[true, true, true, true, true, true, true, true, true, true, true, true, true, true, true, true, true, true, false, false, false, false, false, false, false, false, false, false, false, false]) (a2 := ⟨#[_, _, _, _, _, _, _, _, _, _, _, _, _, _, _, _, _, _, _, _, _, _, _, _, _, _, _, _, _, _, _, _, _, _, _, _, _, _, _, _, _, _, _, _, _, _, _, _, _, _, _, _, _, _, _, _, _, _, _, _, _, _, _, _, _, _, _, _, _, _, _, _, _], _⟩) (by kernel_rfl) (fun j hj => by simp at hj) (by kernel_rfl) (fun _ _ _ _ _ h => h) (Ys.cons rfl (Or.inl ⟨by rfl, fun W1 hW1 => by first | rfl | (go_simp; done) | (go_simp; with_reducible rfl)⟩) (Ys.cons rfl (Or.inr ⟨by rfl, rfl⟩) (Ys.cons rfl (Or.inr ⟨by rfl, rfl⟩) (Ys.cons rfl (Or.inr ⟨by rfl, rfl⟩) (Ys.cons rfl (Or.inl ⟨by rfl, fun W1 hW1 => by rfl⟩) (Ys.nil)))))) (S8) (by rfl) (by rfl) ?_
      refine anyG_takes (is := [18, 19, 20, 21, 22]) (vs := [.bool true, .bool true, _, _, _]) (m := 7) (listed2 := #[true, true, true, true, true, true, true, true, true, true, true, true, true, true, true, true, true, true, true, true, true, true, true, false, false, false, false, false, false, false]) (a2 := ⟨#[_, _, _, _, _, _, _, _, _, _, _, _, _, _, _, _, _, _, _, _, _, _, _, _, _, _, _, _, _, _, _, _, _, _, _, _, _, _, _, _, _, _, _, _, _, _, _, _, _, _, _, _, _, _, _, _, _, _, _, _, _, _, _, _, _, _, _, _, _, _, _, _, _], _⟩) (by kernel_rfl) (fun j hj => by simp at hj) (by kernel_rfl) (fun _ _ _ _ _ h => h) (Ys.cons rfl (Or.inl ⟨by rfl, fun W1 hW1 => by go_simp⟩) (Ys.cons rfl (Or.inl ⟨by rfl, fun W1 hW1 => by rfl⟩) (Ys.cons rfl (Or.inl ⟨by rfl, fun W1 hW1 => by first | rfl | (go_simp; done) | (go_simp; with_reducible rfl)⟩) (Ys.cons rfl (Or.inl ⟨by rfl, fun W1 hW1 => exec_load (ty := 43) (x := .tmp 7) rfl rfl (run_loadAt_blk _ _ _ _ _ _ (R7.out.call hW1) Try.underlying43 rfl (by first | kernel_rfl | exact info_num _))⟩) (Ys.cons rfl (Or.inl ⟨by rfl, fun W1 hW1 => by first | rfl | (go_simp; done) | (go_simp; with_reducible rfl)⟩) (Ys.nil)))))) (S8) (by rfl) (by rfl) ?_
      refine anyG_takes (is := [24, 25]) (vs := [_, _]) (m := 5) (listed2 := #[true, true, true, true, true, true, true, true, true, true, true, true, true, true, true, true, true, true, true, true, true, true, true, false, true, true, false, false, false, false]) (a2 := ⟨#[_, _, _, _, _, _, _, _, _, _, _, _, _, _, _, _, _, _, _, _, _, _, _, _, _, _, _, _, _, _, _, _, _, _, _, _, _, _, _, _, _, _, _, _, _, _, _, _, _, _, _, _, _, _, _, _, _, _, _, _, _, _, _, _, _, _, _, _, _, _, _, _, _], _⟩) (by kernel_rfl) (fun j hj => by simp at hj) (by kernel_rfl) (fun _ _ _ _ _ h => h) (Ys.cons rfl (Or.inl ⟨by rfl, fun W1 hW1 => exec_load (ty := 42) (x := .tmp 9) rfl rfl (run_loadAt_blk _ _ _ _ _ _ (R9.out.call hW1) Try.underlying42 rfl (by first | kernel_rfl | exact info_num _))⟩) (Ys.cons rfl (Or.inl ⟨by rfl, fun W1 hW1 => by first | rfl | (go_simp; done) | (go_simp; with_reducible rfl)⟩) (Ys.nil))) (S8) (by rfl) (by rfl) ?_
      refine anyG_one (k := 23) (by kernel_rfl) rfl (by rfl) (fun Q2 hQ2 => ?_); go_wp2_with (go_at_call 25; refine (HB1.out _).mono ?_; rintro e v9 ⟨rfl, hb9⟩); refine hQ2 _ _ (fun _ => S8.trans (hb9.mono S8.size)) ?_; clear hQ2 Q2
      have S9 := S8.trans (hb9.mono S8.size)
      refine anyG_one (k := 26) (by kernel_rfl) rfl (by rfl) (fun Q2 hQ2 => ?_); go_wp2_with (go_at_call 26; refine (HB2.out _).mono ?_; rintro e v10 ⟨rfl, hb10⟩); refine hQ2 _ _ (fun _ => S9.trans (hb10.mono S9.size)) ?_; clear hQ2 Q2
      have S10 := S9.trans (hb10.mono S9.size)
      refine anyG_takes (is := [27, 28, 29]) (vs := [.bool true, .bool true, _]) (m := 0) (listed2 := #[true, true, true, true, true, true, true, true, true, true, true, true, true, true, true, true, true, true, true, true, true, true, true, true, true, true, true, true, true, true]) (a2 := ⟨#[_, _, _, _, _, _, _, _, _, _, _, _, _, _, _, _, _, _, _, _, _, _, _, _, _, _, _, _, _, _, _, _, _, _, _, _, _, _, _, _, _, _, _, _, _, _, _, _, _, _, _, _, _, _, _, _, _, _, _, _, _, _, _, _, _, _, _, _, _, _, _, _, _], _⟩) (by kernel_rfl) (fun j hj => by simp at hj) (by kernel_rfl) (fun _ _ _ _ _ h => h) (Ys.cons rfl (Or.inl ⟨by rfl, fun W1 hW1 => by go_simp⟩) (Ys.cons rfl (Or.inl ⟨by rfl, fun W1 hW1 => by rfl⟩) (Ys.cons rfl (Or.inl ⟨by rfl, fun W1 hW1 => by first | rfl | (go_simp; done) | (go_simp; with_reducible rfl)⟩) (Ys.nil)))) (S10) (by rfl) (by rfl) ?_
      refine anyG_done (by kernel_rfl) ?_ _
      go_wp2
      go_ret
      exact ⟨rfl, E5.out.trans (Below.mono (S10) E5.out.size)⟩
end Go.Proofs.Ytfeccjjheiillaa
