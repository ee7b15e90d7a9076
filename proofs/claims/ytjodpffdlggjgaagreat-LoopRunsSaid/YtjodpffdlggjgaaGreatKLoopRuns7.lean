/- Several texts in one. -/
import Derived.Test.YtjodpffdlggjgaaGreatKLoopRuns6
import Derived.Test.YtjodpffdlggjgaaGreatEqs
/- Chapter 55's law: LoopRuns. (fast region) -/
namespace Go.Proofs.YtjodpffdlggjgaaGreat
open Go.RowKit
set_option linter.unusedSimpArgs false
set_option linter.unusedVariables false
set_option maxHeartbeats 8000000
set_option maxRecDepth 100000
theorem eq_rrow (x : Rw) : ∀ W : World, (binOp .neq 52 (.agg x.row) (.agg x.row)).run Tryz.prog W = .ok (.bool false) W := by
  have h2 := eq_ints (t := 52) (by kernel_rfl) (by kernel_rfl) (by kernel_rfl) (by kernel_rfl) [.i64, .i64, .i64, .i64, .i64] [x.tick, x.comes, x.repl, x.serves, x.left] [x.tick, x.comes, x.repl, x.serves, x.left] (by kernel_rfl) (by kernel_rfl) (by kernel_rfl) _ _ rfl rfl true (by simp)
  exact fun W => (h2.2.2 W).trans rfl
theorem rows_repl {p : Pol} (hk : p.okP) {c : Nat → Int} : ∀ k : Nat, k ≤ 2000 → (∀ i, i < k → 0 ≤ c i ∧ I64 (c i)) → ∀ r ∈ (lrun p c k).2, p.min ≤ r.repl ∧ r.repl ≤ p.max
  | 0, _, _ => fun r hr => by cases hr
  | k + 1, h2, hc => fun r hr => by
    have hr : r ∈ (lrun p c k).2 ++ [lrow p (lrun p c k).1 k (c k)] := hr
    rcases List.mem_append.1 hr with hr | hr
    · exact rows_repl hk k (by omega) (fun i hi => hc i (by omega)) r hr
    · rw [List.mem_singleton.1 hr]
      have := lrun_ok hk k (by omega) (fun i hi => hc i (by omega))
      exact ⟨this.rlo, this.rhi⟩
def comesL (l : List Shp) (k : Nat) : List Int := (List.range k).map (comesq l)
theorem comesL_next (l : List Shp) (k : Nat) : comesL l (k + 1) = comesL l k ++ [comesq l k] := by
  unfold comesL; rw [List.range_succ, List.map_append]; rfl
theorem comesL_len (l : List Shp) (k : Nat) : (comesL l k).length = k := by unfold comesL; simp
theorem comesL_run (p : Pol) (l : List Shp) (T : Nat) : lrun p (listq (comesL l T)) T = lrun p (comesq l) T := by
  refine lrun_congr p T (fun i hi => ?_)
  refine listq_eq ?_
  unfold comesL
  rw [List.getElem?_map, List.getElem?_range hi]; rfl
theorem RwsAre.row {w : World} {A : Option Addr} {len cap : Nat} {l : List Rw} (h : RwsAre w A len cap l) {k : Nat} (hk : k < len) : ∃ (b off : Nat) (s : Rw), A = some ⟨b, off, none⟩ ∧ l[k]? = some s ∧ b < w.heap.size ∧ w.cell? ⟨b, off + k * 5, none⟩ = some (.int .i64 s.tick) ∧ w.cell? ⟨b, off + k * 5 + 1, none⟩ = some (.int .i64 s.comes) ∧ w.cell? ⟨b, off + k * 5 + 2, none⟩ = some (.int .i64 s.repl) ∧ w.cell? ⟨b, off + k * 5 + 3, none⟩ = some (.int .i64 s.serves) ∧ w.cell? ⟨b, off + k * 5 + 4, none⟩ = some (.int .i64 s.left) := by
  obtain ⟨b, off, s, h1, h2, h3, h4⟩ := SliceIs.at_ h hk
  exact ⟨b, off, s, h1, h2, h3, h4 0 _ rfl, h4 1 _ rfl, h4 2 _ rfl, h4 3 _ rfl, h4 4 _ rfl⟩
theorem walk_LoopRuns (a0 a1 a2 a3 a4 a5 : Int) (a6 : Int) (A : Option Addr) (len cap : Nat) (l : List Shp) (w : World) (h0 : I64 a0) (h1 : I64 a1) (h2 : I64 a2) (h3 : I64 a3) (h4 : I64 a4) (h5 : I64 a5) (h6 : I64 a6) (hs : ShpsAre w A len cap l) (hg : ∀ x ∈ l, x.good) :
    Calls Tryz.prog 4 #[.agg #[.int .i64 a0, .int .i64 a1, .int .i64 a2, .int .i64 a3, .int .i64 a4, .int .i64 a5], .int .i64 a6, .slice A len cap] w fun e w' => e = .returned (.bool true) ∧ Below w.heap.size w w' := by
  obtain ⟨p, rfl, rfl, rfl, rfl, rfl, rfl⟩ : ∃ p : Pol, a0 = p.min ∧ a1 = p.max ∧ a2 = p.target ∧ a3 = p.tol ∧ a4 = p.window ∧ a5 = p.hold := ⟨⟨a0, a1, a2, a3, a4, a5⟩, rfl, rfl, rfl, rfl, rfl, rfl⟩
  have HP := Lib.hid (show p.fit from ⟨h0, h1, h2, h3, h4, h5⟩)
  have HS := Lib.hid hs
  have HG := Lib.hid hg
  have hle : len ≤ cap := hs.2.1
  have hm : cap ≤ 9223372036854775807 := by have := hs.2.2.1; unfold maxLen at this; omega
  have D0 := Lib.hid (PL.start w p)
  clear hs hg h0 h1 h2 h3 h4 h5 h6
  by_cases hl : 6 < len
  · have d0 : decide ((6 : Int) < (len : Int)) = true := by simp; omega
    go_enter Tryz.func4, Tryz.ntmps4
    go_wp2_with (go_at_call 13; refine (awake55 _).mono ?_; rintro e v1 ⟨rfl, hb1⟩; have D1 := Lib.hid (D0.out.call hb1); clear hb1)
    go_ret
    exact ⟨rfl, D1.out.2⟩
  have d0 : decide ((6 : Int) < (len : Int)) = false := by simp; omega
  by_cases ht : 40 < a6 ∧ a6 ≤ 1024
  · have d1 : decide (40 < a6) = true := by simp; omega
    have d2 : decide (a6 ≤ 1024) = true := by simp; omega
    clear ht
    go_enter Tryz.func4, Tryz.ntmps4
    go_wp2_with (go_at_call 13; refine (awake55 _).mono ?_; rintro e v1 ⟨rfl, hb1⟩; have D1 := Lib.hid (D0.out.call hb1); clear hb1)
    go_ret
    exact ⟨rfl, D1.out.2⟩
  have hd : (decide (40 < a6) = false) ∨ (decide (40 < a6) = true ∧ decide (a6 ≤ 1024) = false) := by simp only [decide_eq_true_eq, decide_eq_false_iff_not]; omega
  have HSh := Lib.hid (fun W hW => law_shapes A len cap l W hW (by omega))
  unfold ShapesP at HSh
  have HC := Lib.hid (fun W A2 n2 c2 hW (hn : n2 ≤ 1000) => loop_Check p a6 A2 n2 c2 l W hW hn)
  have HC2 := Lib.hid (fun W hW => ref55_Check p a6 A len cap l W hW (by omega))
  have HRn := Lib.hid (fun W A2 n2 c2 hW (hn : n2 ≤ 1000) => loop_Run p a6 A2 n2 c2 l W HP.out hW HG.out hn)
  unfold LRunP at HRn
  have HL := Lib.hid HS.out.1
  by_cases hE : lchk p a6 l = 0
  · obtain ⟨hk, he, ht1, ht2⟩ := lchk_ok hE
    obtain ⟨T, rfl⟩ : ∃ T : Nat, a6 = T := ⟨a6.toNat, by omega⟩
    have hT : T ≤ 40 := by omega
    have d1 : decide ((40 : Int) < (T : Int)) = false := by simp; omega
    rw [if_pos hE, hE, Int.toNat_natCast] at HRn
    rw [hE] at HC HC2
    have HOkS := errS_ok he
    have hcq : ∀ i, 0 ≤ comesq l i ∧ I64 (comesq l i) := fun i => ⟨sumS_nonneg i HOkS, sumS_I64 i l⟩
    have HSum := Lib.hid (fun (k : Nat) W A2 n2 c2 hW (hk2 : k ≤ 40) (hn : n2 ≤ 1000) => (show Calls Tryz.prog 18 #[.int .i64 k, .slice A2 n2 c2] W (fun e w' => e = .returned (.int .i64 (comesq l k)) ∧ Below W.heap.size W w') from shape_Sum k A2 n2 c2 l W hW HG.out (by unfold I64; omega) hn))
    have HRR := Lib.hid (fun W A n c hW (hn : n ≤ 1024) => ref55_Run p A n c (comesL l T) W HP.out hk hW (fun x hx => by
      unfold comesL at hx
      obtain ⟨i, -, rfl⟩ := List.mem_map.1 hx
      exact hcq i) hn)
    unfold RRunP at HRR
    rw [comesL_len, comesL_run] at HRR
    have HRep := Lib.hid (rows_repl hk T (by omega) (fun i _ => hcq i))
    have HRn2 := Lib.hid (lrun_len p (comesq l) T)
    have HC5 := Lib.hid (fun k => comesL_len l k)
    generalize (lrun p (comesq l) T).2 = R at *
    clear hk he hE ht hd HOkS hcq ht1 ht2
    go_enter Tryz.func4, Tryz.ntmps4
    go_wp2_with (first
      | (go_at_call 13; refine (awake55 _).mono ?_; rintro e v1 ⟨rfl, hb1⟩; have D1 := Lib.hid (D0.out.call hb1); clear hb1)
      | (go_at_call 14; refine (HSh.out _ (slice_keep HS.out D1.out.2)).mono ?_; rintro e v2 ⟨A2, n2, c2, rfl, hs2, hb2⟩; have D2 := Lib.hid (D1.out.call hb2); have L2 := Lib.hid hs2; have N2 := Lib.hid (show n2 ≤ 1000 from (by rw [← hs2.1, HL.out]; omega)); clear hb2 hs2)
      | (go_at_call 15; refine (HRn.out _ A2 n2 c2 L2.out N2.out).mono ?_; rintro e v3 ⟨A3, n3, c3, rfl, hs3, hb3⟩; have hn3 : n3 = T := (by rw [← hs3.1, HRn2.out]); subst hn3; have D3 := Lib.hid (D2.out.call hb3); have L3 := Lib.hid (slice_keep L2.out hb3); have R3 := Lib.hid hs3; clear hb3 hs3)
      | (go_at_call 16; refine (HC2.out _ (slice_keep HS.out D3.out.2)).mono ?_; rintro e v4 ⟨rfl, hb4⟩; have D4 := Lib.hid (D3.out.call hb4); have L4 := Lib.hid (slice_keep L3.out hb4); have R4 := Lib.hid (slice_keep R3.out hb4); have p0 := D4.out.1.cellv (i := 0) (v := .int .i64 p.min) rfl; have p1 := D4.out.1.cellv (i := 1) (v := .int .i64 p.max) rfl; have p2 := D4.out.1.cellv (i := 2) (v := .int .i64 p.target) rfl; have p3 := D4.out.1.cellv (i := 3) (v := .int .i64 p.tol) rfl; have p4 := D4.out.1.cellv (i := 4) (v := .int .i64 p.window) rfl; have p5 := D4.out.1.cellv (i := 5) (v := .int .i64 p.hold) rfl; clear hb4)
      | (refine Blk.load rfl 23 (.tmp 3) rfl _ _ _ _ rfl D3.out.1 Tryz.underlying23 rfl (by kernel_rfl) ?_)
      | (refine Blk.load rfl 23 (.tmp 3) rfl _ _ _ _ rfl D2.out.1 Tryz.underlying23 rfl (by kernel_rfl) ?_)
      | (go_at_call 17; refine (HC.out _ A2 n2 c2 L4.out N2.out).mono ?_; rintro e v5 ⟨rfl, hb5⟩; have D5 := Lib.hid (D4.out.call hb5); have L5 := Lib.hid (slice_keep L4.out hb5); have R5 := Lib.hid (slice_keep R4.out hb5); clear hb5))
    (try clear p0 p1 p2 p3 p4 p5)
    go_loopw [11, 12] (fun v i wr => ∃ k : Nat, ∃ A6 n6 c6, k ≤ n3 ∧ i = .int .i64 k ∧ v = .slice A6 n6 c6 ∧ OwnI wr v5.heap.size (.slice A6 n6 c6) (comesL l k) ∧ Below v5.heap.size v5 wr) (fun _ i _ => n3 - (intOf i).toNat)
    case atStart => exact ⟨0, none, 0, 0, Nat.zero_le _, rfl, rfl, Own.nil _ _ _ _ _, Below.refl _ _⟩
    case round =>
      obtain ⟨k, A6, n6, c6, hk, rfl, rfl, ho, hbel⟩ := hrel
      have HO := Lib.hid ho
      have HB := Lib.hid hbel
      clear ho hbel
      by_cases hlt : k < n3
      · have HN := Lib.hid (comesL_next l k)
        have HLk := Lib.hid (show (comesL l k).length < 1000000 by rw [HC5.out]; omega)
        have HS1 := Lib.hid (fun W hW => HSum.out k W A2 n2 c2 hW (by omega) N2.out)
        generalize comesq l k = cm at *
        have hki : (k : Int) < (n3 : Int) := by omega
        go_wp2_with (first
          | (go_at_call 18; refine (HS1.out _ (slice_keep L5.out HB.out)).mono ?_; rintro e v6 ⟨rfl, hb6⟩; have O6 := Lib.hid (HO.out.call hb6); have B6 := Lib.hid (HB.out.trans (hb6.mono HB.out.size)); clear hb6)
          | (at_builtin; refine push_int _ rfl _ _ rfl v5.heap.size _ _ rfl (Own.alloc O6.out _) ⟨v6.heap.size, 0, none⟩ 1 cm rfl (by simp) HLk.out (by have := B6.out.size; simp; omega) ?_; intro v' w7 ho7 hb7; obtain ⟨A7, n7, c7, rfl, -, -⟩ := own_shape ho7; have O7 := Lib.hid ho7; have B7 := Lib.hid ((B6.out.alloc B6.out.size _).trans hb7); clear ho7 hb7))
        go_roundw
        case rel => exact ⟨k + 1, A7, n7, c7, by omega, by go_num, rfl, by rw [HN.out]; exact O7.out, B7.out⟩
        case measure => simp [intOf]; omega
      · obtain rfl : k = n3 := by omega
        obtain ⟨A7, n7, c7, hv, hl7, hs7⟩ := own_shape HO.out
        cases hv
        have I6 := Lib.hid hs7
        have hn6 : n6 ≤ 1024 := (by rw [← hs7.1, HC5.out]; omega)
        have D6 := Lib.hid (D5.out.call HB.out)
        have R6 := Lib.hid (slice_keep R5.out HB.out)
        have e1 : ∀ x : Int, (x != x) = false := fun x => by simp
        clear hl7 hs7
        go_wp2_with (first
          | (refine Blk.load rfl 23 (.tmp 3) rfl _ _ _ _ rfl D6.out.1 Tryz.underlying23 rfl (by kernel_rfl) ?_)
          | (go_at_call 19; refine (HRR.out _ A6 n6 c6 I6.out hn6).mono ?_; rintro e v7 ⟨A7, n7, c7, rfl, hs7, hb7⟩; have hn7 : n7 = k := (by rw [← hs7.1, HRn2.out]); subst hn7; have D7 := Lib.hid (D6.out.call hb7); have R7 := Lib.hid (slice_keep R6.out hb7); have Q7 := Lib.hid hs7; clear hb7 hs7))
        go_loopw [94] (fun i wr => ∃ k : Nat, k ≤ n7 ∧ i = .int .i64 k ∧ Below v7.heap.size v7 wr) (fun i _ => n7 - (intOf i).toNat)
        case atStart => exact ⟨0, Nat.zero_le _, rfl, Below.refl _ _⟩
        case round =>
          obtain ⟨k, hk, rfl, hbel⟩ := hrel
          have HW := Lib.hid hbel
          clear hbel
          by_cases hlt : k < n7
          · obtain ⟨b, off, s, rfl, hs1, hb, t0, t1, t2, t3, t4⟩ := RwsAre.row R7.out hlt
            obtain ⟨b2, off2, s2, rfl, hs2, hb2, u0, u1, u2, u3, u4⟩ := RwsAre.row Q7.out hlt
            obtain rfl : s2 = s := Option.some.inj (hs2.symm.trans hs1)
            have hr := HRep.out _ (List.mem_of_getElem? hs1)
            have dr1 : decide (s2.repl < p.min) = false := by simp; omega
            have dr2 : decide (p.max < s2.repl) = false := by simp; omega
            have q := eq_rrow s2
            have hki : (k : Int) < (n7 : Int) := by omega
            have kt0 := (HW.out.cell (p := ⟨b, off + k * 5, none⟩) hb).trans t0
            have kt1 := (HW.out.cell (p := ⟨b, off + k * 5 + 1, none⟩) hb).trans t1
            have kt2 := (HW.out.cell (p := ⟨b, off + k * 5 + 2, none⟩) hb).trans t2
            have kt3 := (HW.out.cell (p := ⟨b, off + k * 5 + 3, none⟩) hb).trans t3
            have kt4 := (HW.out.cell (p := ⟨b, off + k * 5 + 4, none⟩) hb).trans t4
            have BX := Lib.hid (Blk.new wr 51 s2.row)
            have EB := Lib.hid (HW.out.alloc HW.out.size (.cells s2.row 51))
            have DX := Lib.hid (D7.out.call EB.out).1
            have KU := Lib.hid (fun W (hW : Below (wr.alloc (.cells s2.row 51)).heap.size (wr.alloc (.cells s2.row 51)) W) => (⟨(((EB.out.trans (hW.mono EB.out.size)).cell (p := ⟨b2, off2 + k * 5, none⟩) hb2).trans u0), (((EB.out.trans (hW.mono EB.out.size)).cell (p := ⟨b2, off2 + k * 5 + 1, none⟩) hb2).trans u1), (((EB.out.trans (hW.mono EB.out.size)).cell (p := ⟨b2, off2 + k * 5 + 2, none⟩) hb2).trans u2), (((EB.out.trans (hW.mono EB.out.size)).cell (p := ⟨b2, off2 + k * 5 + 3, none⟩) hb2).trans u3), (((EB.out.trans (hW.mono EB.out.size)).cell (p := ⟨b2, off2 + k * 5 + 4, none⟩) hb2).trans u4)⟩ : W.cell? ⟨b2, off2 + k * 5, none⟩ = _ ∧ W.cell? ⟨b2, off2 + k * 5 + 1, none⟩ = _ ∧ W.cell? ⟨b2, off2 + k * 5 + 2, none⟩ = _ ∧ W.cell? ⟨b2, off2 + k * 5 + 3, none⟩ = _ ∧ W.cell? ⟨b2, off2 + k * 5 + 4, none⟩ = _))
            have HQ := Lib.hid q
            have HD1 := Lib.hid dr1
            have HD2 := Lib.hid dr2
            clear t0 t1 t2 t3 t4 u0 u1 u2 u3 u4 hs1 hs2 hr hb hb2 q dr1 dr2
            focus (go_upto_region 21 with (fail))
            clear kt0 kt1 kt2 kt3 kt4
            obtain ⟨W1, hW1⟩ : ∃ W1, W1 = wr.alloc (.cells s2.row 51) := ⟨_, rfl⟩
            rw [← hW1] at BX EB DX KU ⊢
            clear hW1
            refine wp_region_any (by kernel_rfl) ?_; change wpAny _ _ _ _ _ _ _ (World.drew W1); refine any_of_anyG (late := fun _ => false) (S := fun wS => Below W1.heap.size W1 wS) _ _ _ _ ?_
            have S0 := (Below.refl W1.heap.size W1).drew
            refine anyG_takes (is := [0, 1, 2, 3, 4]) (vs := [_, _, _, _, .agg s2.row]) (m := 15) (listed2 := #[true, true, true, true, true, false, false, false, false, false, false, false, false, false, false, false, false, false, false, false]) (a2 := ⟨#[_, _, _, _, _, _, _, _, _, _, _, _, _, _, _, _, _, _, _, _, _, _, _, _, _, _, _, _, _, _, _, _, _, _, _, _, _, _, _, _, _, _, _, _, _, _, _, _, _, _, _, _, _, _, _, _, _, _, _, _, _, _, _, _, _, _, _, _, _, _, _, _, _, _, _, _, _, _, _, _, _, _, _, _, _, _, _, _, _, _, _, _, _, _, _, _, _, _, _, _, _, _, _, _, _, _, _, _, _, _, _, _, _, _, _, _, _, _, _, _], _⟩) (by kernel_rfl) (fun j hj => by simp at hj) (by kernel_rfl) (fun _ _ _ _ _ h => h) (Ys.cons rfl (Or.inl ⟨by rfl, fun W1 hW1 => exec_load (ty := 51) (x := .tmp 15) rfl rfl (run_loadAt_blk _ _ _ _ _ _ (BX.out.call hW1) Tryz.underlying51 rfl (by first | kernel_rfl | exact info_num _))⟩) (Ys.cons rfl (Or.inl ⟨by rfl, fun W1 hW1 => by first | rfl | (go_simp; done) | (go_simp; with_reducible rfl)⟩) (Ys.cons rfl (Or.inl ⟨by rfl, fun W1 hW1 => by first | rfl | (go_simp; done) | (go_simp; with_reducible rfl)⟩) (Ys.cons rfl (Or.inl ⟨by rfl, fun W1 hW1 => by first | rfl | (go_simp; done) | (go_simp; with_reducible rfl)⟩) (Ys.cons rfl (Or.inl ⟨by rfl, fun W1 hW1 => by obtain ⟨q0, q1, q2, q3, q4⟩ := KU.out _ hW1; go_simp⟩) (Ys.nil)))))) (S0) (by rfl) (by rfl) ?_
            refine anyG_takes (is := [5, 6, 7, 8, 9]) (vs := [.bool false, .bool false, _, .int .i64 s2.repl, _]) (m := 10) (listed2 := #[true, true, true, true, true, true, true, true, true, true, false, false, false, false, false, false, false, false, false, false]) (a2 := ⟨#[_, _, _, _, _, _, _, _, _, _, _, _, _, _, _, _, _, _, _, _, _, _, _, _, _, _, _, _, _, _, _, _, _, _, _, _, _, _, _, _, _, _, _, _, _, _, _, _, _, _, _, _, _, _, _, _, _, _, _, _, _, _, _, _, _, _, _, _, _, _, _, _, _, _, _, _, _, _, _, _, _, _, _, _, _, _, _, _, _, _, _, _, _, _, _, _, _, _, _, _, _, _, _, _, _, _, _, _, _, _, _, _, _, _, _, _, _, _, _, _], _⟩) (by kernel_rfl) (fun j hj => by simp at hj) (by kernel_rfl) (fun _ _ _ _ _ h => h) (Ys.cons rfl (Or.inl ⟨by rfl, fun W1 hW1 => by have q := HQ.out; go_simp⟩) (Ys.cons rfl (Or.inl ⟨by rfl, fun W1 hW1 => by rfl⟩) (Ys.cons rfl (Or.inl ⟨by rfl, fun W1 hW1 => by first | rfl | (go_simp; done) | (go_simp; with_reducible rfl)⟩) (Ys.cons rfl (Or.inl ⟨by rfl, fun W1 hW1 => by have c := (BX.out.call hW1).cellv (i := 2) (v := .int .i64 s2.repl) rfl; go_simp⟩) (Ys.cons rfl (Or.inl ⟨by rfl, fun W1 hW1 => by first | rfl | (go_simp; done) | (go_simp; with_reducible rfl)⟩) (Ys.nil)))))) (S0) (by rfl) (by rfl) ?_
            refine anyG_takes (is := [10, 11, 12, 13, 14]) (vs := [.int .i64 p.min, .bool false, .bool false, .bool false, _]) (m := 5) (listed2 := #[true, true, true, true, true, true, true, true, true, true, true, true, true, true, true, false, false, false, false, false]) (a2 := ⟨#[_, _, _, _, _, _, _, _, _, _, _, _, _, _, _, _, _, _, _, _, _, _, _, _, _, _, _, _, _, _, _, _, _, _, _, _, _, _, _, _, _, _, _, _, _, _, _, _, _, _, _, _, _, _, _, _, _, _, _, _, _, _, _, _, _, _, _, _, _, _, _, _, _, _, _, _, _, _, _, _, _, _, _, _, _, _, _, _, _, _, _, _, _, _, _, _, _, _, _, _, _, _, _, _, _, _, _, _, _, _, _, _, _, _, _, _, _, _, _, _], _⟩) (by kernel_rfl) (fun j hj => by simp at hj) (by kernel_rfl) (fun _ _ _ _ _ h => h) (Ys.cons rfl (Or.inl ⟨by rfl, fun W1 hW1 => by have c := (DX.out.call hW1).cellv (i := 0) (v := .int .i64 p.min) rfl; go_simp⟩) (Ys.cons rfl (Or.inl ⟨by rfl, fun W1 hW1 => by have q := HD1.out; go_simp⟩) (Ys.cons rfl (Or.inl ⟨by rfl, fun W1 hW1 => by rfl⟩) (Ys.cons rfl (Or.inl ⟨by rfl, fun W1 hW1 => by rfl⟩) (Ys.cons rfl (Or.inl ⟨by rfl, fun W1 hW1 => by first | rfl | (go_simp; done) | (go_simp; with_reducible rfl)⟩) (Ys.nil)))))) (S0) (by rfl) (by rfl) ?_
            refine anyG_takes (is := [15, 16, 17, 18, 19]) (vs := [.int .i64 s2.repl, _, .int .i64 p.max, .bool false, .bool false]) (m := 0) (listed2 := #[true, true, true, true, true, true, true, true, true, true, true, true, true, true, true, true, true, true, true, true]) (a2 := ⟨#[_, _, _, _, _, _, _, _, _, _, _, _, _, _, _, _, _, _, _, _, _, _, _, _, _, _, _, _, _, _, _, _, _, _, _, _, _, _, _, _, _, _, _, _, _, _, _, _, _, _, _, _, _, _, _, _, _, _, _, _, _, _, _, _, _, _, _, _, _, _, _, _, _, _, _, _, _, _, _, _, _, _, _, _, _, _, _, _, _, _, _, _, _, _, _, _, _, _, _, _, _, _, _, _, _, _, _, _, _, _, _, _, _, _, _, _, _, _, _, _], _⟩) (by kernel_rfl) (fun j hj => by simp at hj) (by kernel_rfl) (fun _ _ _ _ _ h => h) (Ys.cons rfl (Or.inl ⟨by rfl, fun W1 hW1 => by have c := (BX.out.call hW1).cellv (i := 2) (v := .int .i64 s2.repl) rfl; go_simp⟩) (Ys.cons rfl (Or.inl ⟨by rfl, fun W1 hW1 => by first | rfl | (go_simp; done) | (go_simp; with_reducible rfl)⟩) (Ys.cons rfl (Or.inl ⟨by rfl, fun W1 hW1 => by have c := (DX.out.call hW1).cellv (i := 1) (v := .int .i64 p.max) rfl; go_simp⟩) (Ys.cons rfl (Or.inl ⟨by rfl, fun W1 hW1 => by have q := HD2.out; go_simp⟩) (Ys.cons rfl (Or.inl ⟨by rfl, fun W1 hW1 => by rfl⟩) (Ys.nil)))))) (S0) (by rfl) (by rfl) ?_
            refine anyG_done (by kernel_rfl) ?_ _
            have E9 := Lib.hid (EB.out.trans (Below.mono (S0) EB.out.size))
            go_wp2
            go_roundw
            case rel => first | exact ⟨k + 1, by omega, by go_num, E9.out⟩ | ((repeat apply Exists.intro); exact ⟨⟨k + 1, by omega, by go_num, E9.out⟩, rfl⟩)
            case measure => simp [intOf]; omega
          · obtain rfl : k = n7 := by omega
            go_wp2
            go_ret
            exact ⟨rfl, D7.out.2.trans (HW.out.mono D7.out.2.size)⟩
  · rw [if_neg hE] at HRn
    generalize lchk p a6 l = E at *
    have e1 : (E != E) = false := by simp
    have e2 : (E == E) = true := by simp
    have e3 : (E != 0) = true := by simpa using hE
    have e4 : (E == 0) = false := by simpa using hE
    clear hE ht
    rcases hd with d1 | ⟨d1, d2⟩
    all_goals
      go_enter Tryz.func4, Tryz.ntmps4
      go_wp2_with (first
        | (go_at_call 13; refine (awake55 _).mono ?_; rintro e v1 ⟨rfl, hb1⟩; have D1 := Lib.hid (D0.out.call hb1); clear hb1)
        | (go_at_call 14; refine (HSh.out _ (slice_keep HS.out D1.out.2)).mono ?_; rintro e v2 ⟨A2, n2, c2, rfl, hs2, hb2⟩; have D2 := Lib.hid (D1.out.call hb2); have L2 := Lib.hid hs2; have N2 := Lib.hid (show n2 ≤ 1000 from (by rw [← hs2.1, HL.out]; omega)); clear hb2 hs2)
        | (go_at_call 15; refine (HRn.out _ A2 n2 c2 L2.out N2.out).mono ?_; rintro e v3 ⟨A3, n3, c3, rfl, hs3, hb3⟩; have hn3 : n3 = 0 := hs3.1.symm; subst hn3; have D3 := Lib.hid (D2.out.call hb3); have L3 := Lib.hid (slice_keep L2.out hb3); clear hb3 hs3)
        | (go_at_call 16; refine (HC2.out _ (slice_keep HS.out D3.out.2)).mono ?_; rintro e v4 ⟨rfl, hb4⟩; have D4 := Lib.hid (D3.out.call hb4); have L4 := Lib.hid (slice_keep L3.out hb4); have p0 := D4.out.1.cellv (i := 0) (v := .int .i64 p.min) rfl; have p1 := D4.out.1.cellv (i := 1) (v := .int .i64 p.max) rfl; have p2 := D4.out.1.cellv (i := 2) (v := .int .i64 p.target) rfl; have p3 := D4.out.1.cellv (i := 3) (v := .int .i64 p.tol) rfl; have p4 := D4.out.1.cellv (i := 4) (v := .int .i64 p.window) rfl; have p5 := D4.out.1.cellv (i := 5) (v := .int .i64 p.hold) rfl; clear hb4)
        | (refine Blk.load rfl 23 (.tmp 3) rfl _ _ _ _ rfl D3.out.1 Tryz.underlying23 rfl (by kernel_rfl) ?_)
        | (refine Blk.load rfl 23 (.tmp 3) rfl _ _ _ _ rfl D2.out.1 Tryz.underlying23 rfl (by kernel_rfl) ?_)
        | (go_at_call 17; refine (HC.out _ A2 n2 c2 L4.out N2.out).mono ?_; rintro e v5 ⟨rfl, hb5⟩; have D5 := Lib.hid (D4.out.call hb5); have L5 := Lib.hid (slice_keep L4.out hb5); have L4 := L5; have D4 := D5; have p0 := D5.out.1.cellv (i := 0) (v := .int .i64 p.min) rfl; have p1 := D5.out.1.cellv (i := 1) (v := .int .i64 p.max) rfl; have p2 := D5.out.1.cellv (i := 2) (v := .int .i64 p.target) rfl; have p3 := D5.out.1.cellv (i := 3) (v := .int .i64 p.tol) rfl; have p4 := D5.out.1.cellv (i := 4) (v := .int .i64 p.window) rfl; have p5 := D5.out.1.cellv (i := 5) (v := .int .i64 p.hold) rfl; clear hb5))
      go_ret
      exact ⟨rfl, D4.out.2⟩
end Go.Proofs.YtjodpffdlggjgaaGreat
