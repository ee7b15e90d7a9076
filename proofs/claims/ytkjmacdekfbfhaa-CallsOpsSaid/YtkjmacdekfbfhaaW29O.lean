/- Chapter 29's law: CallsOps. (fast region) -/
import Derived.Test.YtkjmacdekfbfhaaW29
import Derived.Deep.QuietTactic
import Derived.BigQuiet
import Derived.Deep.Cut
namespace Go.Proofs.Ytkjmacdekfbfhaa
open Go.RowKit
set_option linter.unusedSimpArgs false
set_option linter.unusedVariables false
set_option maxHeartbeats 8000000
set_option maxRecDepth 100000
theorem own_at {w : World} {b : Nat} {V : Value} {l : List COp} (h : OwnC w b V l) : ∃ A c, V = .slice A l.length c ∧ COpsAre w A l.length c l := by
  obtain ⟨A, n, c, rfl, rfl, h2⟩ := h.shape cop_len
  exact ⟨A, c, rfl, h2⟩
theorem own_atD {w : World} {b : Nat} {V : Value} {l : List COp} (h : OwnD w b V l) : ∃ A c, V = .slice A l.length c ∧ COpsAre w A l.length c l := by
  obtain ⟨A, n, c, rfl, rfl, h2⟩ := h.shape cop_len
  exact ⟨A, c, rfl, h2⟩
theorem walk_CallsOps (c0 c1 c2 c3 k : Int) (s : ByteArray) (t v h p0 p1 p2 p3 p4 p5 : Int) (w : World) (i0 : I64 c0) (i1 : I64 c1) (i2 : I64 c2) (i3 : I64 c3) (ik : I64 k) (hs : s.size ≤ maxLen) (it : I64 t) (iv : I64 v) (ih : I64 h) (j0 : I64 p0) (j1 : I64 p1) (j2 : I64 p2) (j3 : I64 p3) (j4 : I64 p4) (j5 : I64 p5) :
    Calls Try.prog 3 #[.agg #[.int .i64 c0, .int .i64 c1, .int .i64 c2, .int .i64 c3], .agg #[.int .i64 k, .string s, .int .i64 t, .int .i64 v, .int .i64 h, .int .i64 p0, .int .i64 p1, .int .i64 p2, .int .i64 p3, .int .i64 p4, .int .i64 p5]] w fun e w' => e = .returned (.bool true) ∧ Below w.heap.size w w' := by
  obtain ⟨c, rfl, rfl, rfl, rfl⟩ : ∃ c : Cfg, c0 = c.str ∧ c1 = c.smp ∧ c2 = c.lod ∧ c3 = c.his := ⟨⟨c0, c1, c2, c3⟩, rfl, rfl, rfl, rfl⟩
  obtain ⟨p, rfl, rfl, rfl, rfl, rfl, rfl⟩ : ∃ p : Pol, p0 = p.min ∧ p1 = p.max ∧ p2 = p.target ∧ p3 = p.tol ∧ p4 = p.window ∧ p5 = p.hold := ⟨⟨p0, p1, p2, p3, p4, p5⟩, rfl, rfl, rfl, rfl, rfl, rfl⟩
  show Calls Try.prog 3 #[.agg c.row, .agg (callRow k s t v h p)] w _
  have hc : c.fit := ⟨i0, i1, i2, i3⟩
  have X := Lib.hid (And.intro ((Blk.new w 23 c.row).alloc (.cells (callRow k s t v h p) 27)) (And.intro (Blk.new2 w (.cells c.row 23) 27 (callRow k s t v h p)) (show Below w.heap.size w ((w.alloc (.cells c.row 23)).alloc (.cells (callRow k s t v h p) 27)) by go_grown)))
  have H1 := Lib.hid (fun W => calls_Ops c k s t v h p W hs hc)
  have H2 := Lib.hid (fun W => ref29_Ops c k s t v h p W hs hc)
  have HH1 := Lib.hid (fun W => calls_Home c s W hs hc)
  have HH2 := Lib.hid (fun W => ref29_Home c s W hs hc)
  have HLn := Lib.hid (stepsq_len c k s t v p)
  have HG := Lib.hid (stepsq_good c k s t v p)
  have HRi := Lib.hid (show ris (stepsq c k s t v p) [] = true from opsq_ris _ _ _ _ _)
  have hsz : s.size ≤ 9223372036854775807 := by unfold maxLen at hs; omega
  clear i0 i1 i2 i3 ik it iv ih j0 j1 j2 j3 j4 j5 hc hs
  generalize stepsq c k s t v p = L at *
  generalize homeq c s = HM at *
  by_cases hbig : 100 < s.size
  · have d0 : decide ((100 : Int) < (s.size : Int)) = true := by simp; omega
    clear hbig
    go_enter Try.func3, Try.ntmps3
    go_wp2_with (go_at_call 14; refine (awake29 _).mono ?_; rintro e v1 ⟨rfl, hb1⟩; have D1 := Lib.hid (X.out.2.2.trans (hb1.mono X.out.2.2.size)); have C1 := X.out.2.1.call hb1; have r1 := C1.cellv (i := 1) (v := .string s) rfl; have z1 := C1.lt; clear hb1 C1)
    go_ret
    exact ⟨rfl, D1.out⟩
  have d0 : decide ((100 : Int) < (s.size : Int)) = false := by simp; omega
  clear hbig
  go_enter Try.func3, Try.ntmps3
  focus (go_upto_region 7 with (first
    | (go_at_call 14; refine (awake29 _).mono ?_; rintro e v1 ⟨rfl, hb1⟩; have D1 := Lib.hid (X.out.2.2.trans (hb1.mono X.out.2.2.size)); have B1 := Lib.hid (X.out.1.call hb1); have C1 := Lib.hid (X.out.2.1.call hb1); have r1 := C1.out.cellv (i := 1) (v := .string s) rfl; have z1 := C1.out.lt; clear hb1)
    | (refine Blk.load rfl 23 (.tmp 2) rfl _ _ _ _ rfl B1.out Try.underlying23 rfl (by kernel_rfl) ?_)
    | (refine Blk.load rfl 27 (.tmp 3) rfl _ _ _ _ rfl C1.out Try.underlying27 rfl (by kernel_rfl) ?_)
    | (go_at_call 15; refine (H1.out _).mono ?_; rintro e v2 ⟨V2, rfl, o2, hb2⟩; obtain ⟨A2, c2, rfl, hs2⟩ := own_at o2; have S2 := Lib.hid hs2; have D2 := Lib.hid (D1.out.trans (hb2.mono D1.out.size)); have B2 := Lib.hid (B1.out.call hb2); have C2 := Lib.hid (C1.out.call hb2); clear hb2 hs2 o2)
    | (refine Blk.load rfl 23 (.tmp 2) rfl _ _ _ _ rfl B2.out Try.underlying23 rfl (by kernel_rfl) ?_)
    | (refine Blk.load rfl 27 (.tmp 3) rfl _ _ _ _ rfl C2.out Try.underlying27 rfl (by kernel_rfl) ?_)
    | (go_at_call 16; refine (H2.out _).mono ?_; rintro e v3 ⟨V3, rfl, o3, hb3⟩; obtain ⟨A3, c3, rfl, hs3⟩ := own_atD o3; have S3 := Lib.hid hs3; have T2 := Lib.hid (slice_keep S2.out hb3); have D3 := Lib.hid (D2.out.trans (hb3.mono D2.out.size)); have B3 := Lib.hid (B2.out.call hb3); have C3 := Lib.hid (C2.out.call hb3); clear hb3 hs3 o3)))
  refine wp_region_any (by kernel_rfl) ?_; change wpAny _ _ _ _ _ _ _ (World.drew v3); refine any_of_anyG (late := fun _ => false) (S := fun wS => Below v3.heap.size v3 wS) _ _ _ _ ?_
  have S0 := (Below.refl v3.heap.size v3).drew
  refine anyG_takes (is := [0, 1, 2, 3, 4]) (vs := [_, .int .i64 (L.length : Nat), _, .int .i64 (L.length : Nat), .bool false]) (m := 11) (listed2 := #[true, true, true, true, true, false, false, false, false, false, false, false, false, false, false, false]) (a2 := ⟨#[_, _, _, _, _, _, _, _, _, _, _, _, _, _, _, _, _, _, _, _, _, _, _, _, _, _, _, _, _, _, _, _, _, _, _, _, _, _, _, _, _, _, _, _, _, _, _, _, _, _, _, _, _, _, _, _, _, _, _, _], _⟩) (by kernel_rfl) (fun j hj => by simp at hj) (by kernel_rfl) (fun _ _ _ _ _ h => h) (Ys.cons rfl (Or.inl ⟨by rfl, fun W1 hW1 => by first | rfl | (go_simp; done) | (go_simp; with_reducible rfl)⟩) (Ys.cons rfl (Or.inl ⟨by rfl, fun W1 hW1 => by go_simp⟩) (Ys.cons rfl (Or.inl ⟨by rfl, fun W1 hW1 => by first | rfl | (go_simp; done) | (go_simp; with_reducible rfl)⟩) (Ys.cons rfl (Or.inl ⟨by rfl, fun W1 hW1 => by go_simp⟩) (Ys.cons rfl (Or.inl ⟨by rfl, fun W1 hW1 => by go_simp⟩) (Ys.nil)))))) (S0) (by rfl) (by rfl) ?_
  refine anyG_takes (is := [5, 6, 7, 8, 10]) (vs := [.bool false, _, _, .string s, _]) (m := 6) (listed2 := #[true, true, true, true, true, true, true, true, true, false, true, false, false, false, false, false]) (a2 := ⟨#[_, _, _, _, _, _, _, _, _, _, _, _, _, _, _, _, _, _, _, _, _, _, _, _, _, _, _, _, _, _, _, _, _, _, _, _, _, _, _, _, _, _, _, _, _, _, _, _, _, _, _, _, _, _, _, _, _, _, _, _], _⟩) (by kernel_rfl) (fun j hj => by simp at hj) (by kernel_rfl) (fun _ _ _ _ _ h => h) (Ys.cons rfl (Or.inl ⟨by rfl, fun W1 hW1 => by rfl⟩) (Ys.cons rfl (Or.inl ⟨by rfl, fun W1 hW1 => exec_load (ty := 23) (x := .tmp 2) rfl rfl (run_loadAt_blk _ _ _ _ _ _ (B3.out.call hW1) Try.underlying23 rfl (by first | kernel_rfl | exact info_num _))⟩) (Ys.cons rfl (Or.inl ⟨by rfl, fun W1 hW1 => by first | rfl | (go_simp; done) | (go_simp; with_reducible rfl)⟩) (Ys.cons rfl (Or.inl ⟨by rfl, fun W1 hW1 => by have c := (C3.out.call hW1).cellv (i := 1) (v := .string s) rfl; go_simp⟩) (Ys.cons rfl (Or.inl ⟨by rfl, fun W1 hW1 => exec_load (ty := 23) (x := .tmp 2) rfl rfl (run_loadAt_blk _ _ _ _ _ _ (B3.out.call hW1) Try.underlying23 rfl (by first | kernel_rfl | exact info_num _))⟩) (Ys.nil)))))) (S0) (by rfl) (by rfl) ?_
  refine anyG_takes (is := [11, 12]) (vs := [_, .string s]) (m := 4) (listed2 := #[true, true, true, true, true, true, true, true, true, false, true, true, true, false, false, false]) (a2 := ⟨#[_, _, _, _, _, _, _, _, _, _, _, _, _, _, _, _, _, _, _, _, _, _, _, _, _, _, _, _, _, _, _, _, _, _, _, _, _, _, _, _, _, _, _, _, _, _, _, _, _, _, _, _, _, _, _, _, _, _, _, _], _⟩) (by kernel_rfl) (fun j hj => by simp at hj) (by kernel_rfl) (fun _ _ _ _ _ h => h) (Ys.cons rfl (Or.inl ⟨by rfl, fun W1 hW1 => by first | rfl | (go_simp; done) | (go_simp; with_reducible rfl)⟩) (Ys.cons rfl (Or.inl ⟨by rfl, fun W1 hW1 => by have c := (C3.out.call hW1).cellv (i := 1) (v := .string s) rfl; go_simp⟩) (Ys.nil))) (S0) (by rfl) (by rfl) ?_
  refine anyG_one (k := 9) (by kernel_rfl) rfl (by rfl) (fun Q2 hQ2 => ?_); go_wp2_with (go_at_call 17; refine (HH1.out _).mono ?_; rintro e v4 ⟨rfl, hb4⟩); refine hQ2 _ _ (fun _ => S0.trans (hb4.mono S0.size)) ?_; clear hQ2 Q2
  have S4 := S0.trans (hb4.mono S0.size)
  refine anyG_one (k := 13) (by kernel_rfl) rfl (by rfl) (fun Q2 hQ2 => ?_); go_wp2_with (go_at_call 18; refine (HH2.out _).mono ?_; rintro e v5 ⟨rfl, hb5⟩); refine hQ2 _ _ (fun _ => S4.trans (hb5.mono S4.size)) ?_; clear hQ2 Q2
  have S5 := S4.trans (hb5.mono S4.size)
  refine anyG_takes (is := [14, 15]) (vs := [.bool false, .bool false]) (m := 0) (listed2 := #[true, true, true, true, true, true, true, true, true, true, true, true, true, true, true, true]) (a2 := ⟨#[_, _, _, _, _, _, _, _, _, _, _, _, _, _, _, _, _, _, _, _, _, _, _, _, _, _, _, _, _, _, _, _, _, _, _, _, _, _, _, _, _, _, _, _, _, _, _, _, _, _, _, _, _, _, _, _, _, _, _, _], _⟩) (by kernel_rfl) (fun j hj => by simp at hj) (by kernel_rfl) (fun _ _ _ _ _ h => h) (Ys.cons rfl (Or.inl ⟨by rfl, fun W1 hW1 => by go_simp⟩) (Ys.cons rfl (Or.inl ⟨by rfl, fun W1 hW1 => by rfl⟩) (Ys.nil))) (S5) (by rfl) (by rfl) ?_
  refine anyG_done (by kernel_rfl) ?_ _
  have D6 := Lib.hid (D3.out.trans ((S5).mono D3.out.size))
  have T6 := Lib.hid (slice_keep T2.out S5)
  have U6 := Lib.hid (slice_keep S3.out S5)
  have hLn := HLn.out
  go_wp2
  go_loopw [39] (fun i wr => ∃ j : Nat, j ≤ L.length ∧ i = .int .i64 j ∧ Below w.heap.size w wr ∧ COpsAre wr A2 L.length c2 L ∧ COpsAre wr A3 L.length c3 L) (fun i _ => L.length - (intOf i).toNat)
  case atStart => exact ⟨0, Nat.zero_le _, rfl, D6.out, T6.out, U6.out⟩
  case round =>
    obtain ⟨j, hj, rfl, hbel, ha2, ha3⟩ := hrel
    have HB := Lib.hid hbel
    have HA2 := Lib.hid ha2
    have HA3 := Lib.hid ha3
    have hle2 : L.length ≤ c2 := ha2.2.1
    have hle3 : L.length ≤ c3 := ha3.2.1
    have hm2 : c2 ≤ 9223372036854775807 := by have := ha2.2.2.1; unfold maxLen at this; omega
    have hm3 : c3 ≤ 9223372036854775807 := by have := ha3.2.2.1; unfold maxLen at this; omega
    clear hbel ha2 ha3
    by_cases hlt : j < L.length
    · obtain ⟨b, off, x, rfl, hx, hb, t0, t1⟩ := COpsAre.at_ HA2.out hlt
      obtain ⟨b', off', x', rfl, hx', hb', t0', t1'⟩ := COpsAre.at_ HA3.out hlt
      obtain rfl : x = x' := Option.some.inj (hx.symm.trans hx')
      obtain ⟨q1, q2, q3⟩ := eq_cop x x
      have dd : copEq x x = true := decide_eq_true rfl
      have hji : (j : Int) < (L.length : Int) := by omega
      clear hx hx' q2
      go_wp2
      go_quiet (fail)
      go_wp2
      go_roundw
      case rel => exact ⟨j + 1, by omega, by go_num, below_drewN (HB.out.alloc HB.out.size _) nq, slice_keep HA2.out (below_drewN ((Below.refl _ _).alloc (Nat.le_refl _) _) nq), slice_keep HA3.out (below_drewN ((Below.refl _ _).alloc (Nat.le_refl _) _) nq)⟩
      case measure => simp [intOf]; omega
    · obtain ⟨n, hn⟩ : ∃ n, n = L.length := ⟨_, rfl⟩
      have HRs := Lib.hid (calls_Rising A2 L.length c2 L wr HA2.out HG.out (by omega))
      rw [HRi.out] at HRs
      go_wp2_with (go_at_call 19; refine HRs.out.mono ?_; rintro e v9 ⟨rfl, hb9⟩; have D9 := Lib.hid (HB.out.trans (hb9.mono HB.out.size)); clear hb9)
      go_ret
      exact ⟨rfl, D9.out⟩
end Go.Proofs.Ytkjmacdekfbfhaa
