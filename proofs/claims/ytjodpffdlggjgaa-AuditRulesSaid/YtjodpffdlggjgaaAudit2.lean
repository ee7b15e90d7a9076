/- audit.Rule: the walk. (fast region) -/
import Derived.Test.YtjodpffdlggjgaaAudit
namespace Go.Proofs.Ytjodpffdlggjgaa
open Go.RowKit
set_option linter.unusedSimpArgs false
set_option linter.unusedVariables false
set_option maxHeartbeats 8000000
set_option maxRecDepth 100000
theorem audit_Rule (p : Pol) (A : Option Addr) (len cap : Nat) (past : List Adv) (a : Adv) (w : World) (hp : p.fit) (ha : a.good) (hs : AdvsAre w A len cap past) (hn : len ≤ 1000) :
    Calls Try.prog 12 #[(.agg #[.int .i64 p.min, .int .i64 p.max, .int .i64 p.target, .int .i64 p.tol, .int .i64 p.window, .int .i64 p.hold]), .slice A len cap, .agg a.row] w fun e w' => e = .returned (.int .i64 (ruleq p past a)) ∧ Below w.heap.size w w' := by
  have HS := Lib.hid hs
  have D0 := Lib.hid (DA.start w p a)
  have HQ := Lib.hid (show ruleq p past a = if a.why < 1 then 1 else if 6 < a.why then 1 else if polHas p a.repl = false then 2 else if a.want ≠ rawq p a.load (nowq p past) then 3
    else if a.repl ≠ boundq p (steadyq p a.tick a.want past).1 then 4 else if (steadyq p a.tick a.want past).2 ≠ decide (a.why = 4) then 4
    else if whyOk a (nowq p past) = false then 5 else 0 from rfl)
  have HNo := Lib.hid (fun W hW => decide_Now p A len cap past W hW hn)
  have HSt := Lib.hid (fun W hW => steady_Of p a.tick a.want A len cap past W hp hW hn ha.1)
  have HHa := Lib.hid (fun W => policy_Has p a.repl W)
  have HRa := Lib.hid (fun W => control_Raw p a.load (nowq p past) W hp ha.2.1)
  have HWh := Lib.hid (fun W => audit_why p a (nowq p past) W)
  generalize ruleq p past a = RQ at *
  generalize nowq p past = NW at *
  generalize steadyq p a.tick a.want past = SQ at *
  obtain ⟨sn, sh⟩ := SQ
  dsimp only at HSt HQ
  have HBo := Lib.hid (fun W => control_Bound p sn W)
  generalize boundq p sn = BO at *
  generalize whyOk a NW = WY at *
  generalize rawq p a.load NW = RW at *
  generalize polHas p a.repl = PH at *
  clear hs hp ha
  go_enter Try.func12, Try.ntmps12
  go_wp2_with (refine Blk.load rfl 23 (.tmp 3) rfl w.heap.size _ _ _ rfl D0.out.1 Try.underlying23 rfl (by kernel_rfl) ?_)
  refine (HNo.out _ (slice_keep HS.out D0.out.2.2)).mono ?_
  rintro e v1 ⟨rfl, hb1⟩
  have D1 := Lib.hid (D0.out.call hb1)
  clear hb1
  obtain ⟨c0, c1, c2, c3, c4, c5, c6⟩ := D1.out.cells
  go_wp2_with (refine Blk.load rfl 23 (.tmp 3) rfl w.heap.size _ _ _ rfl D1.out.1 Try.underlying23 rfl (by kernel_rfl) ?_)
  refine (HSt.out _ (slice_keep HS.out D1.out.2.2)).mono ?_
  rintro e v2 ⟨rfl, hb2⟩
  have D2 := Lib.hid (D1.out.call hb2)
  clear hb2 c0 c1 c2 c3 c4 c5 c6
  obtain ⟨c0, c1, c2, c3, c4, c5, c6⟩ := D2.out.cells
  by_cases k1 : a.why < 1
  · have HE := Lib.hid (show RQ = 1 by rw [HQ.out, if_pos k1])
    go_wp2
    go_ret
    exact ⟨ret_int HE.out.symm, D2.out.2.2⟩
  have d1 : decide (a.why < 1) = false := by simpa using k1
  by_cases k2 : 6 < a.why
  · have HE := Lib.hid (show RQ = 1 by rw [HQ.out, if_neg k1, if_pos k2])
    go_wp2
    go_ret
    exact ⟨ret_int HE.out.symm, D2.out.2.2⟩
  have d2 : decide (6 < a.why) = false := by simpa using k2
  have HQ2 := Lib.hid (HQ.out.trans ((if_neg k1).trans (if_neg k2)))
  clear HQ k1 k2
  go_wp2_with (refine Blk.load rfl 23 (.tmp 3) rfl w.heap.size _ _ _ rfl D2.out.1 Try.underlying23 rfl (by kernel_rfl) ?_)
  refine (HHa.out _).mono ?_
  rintro e v3 ⟨rfl, hb3⟩
  have D3 := Lib.hid (D2.out.call hb3)
  clear hb3 c0 c1 c2 c3 c4 c5 c6 d1 d2
  cases PH
  · have HE := Lib.hid (show RQ = 2 from HQ2.out.trans (if_pos rfl))
    go_wp2
    go_ret
    exact ⟨ret_int HE.out.symm, D3.out.2.2⟩
  have HQ3 := Lib.hid (HQ2.out.trans (if_neg (by decide)))
  clear HQ2
  go_upto_region 7 with (fail)
  refine wp_region_any (by kernel_rfl) ?_; change wpAny _ _ _ _ _ _ _ (World.drew v3); refine any_of_anyG (late := fun _ => false) (S := fun wS => Below v3.heap.size v3 wS) _ _ _ _ ?_
  have S0 := (Below.refl v3.heap.size v3).drew
  refine anyG_takes (is := [0, 1, 2, 3, 4]) (vs := [_, .int .i64 a.want, _, _, .int .i64 a.load]) (m := 4) (listed2 := #[true, true, true, true, true, false, false, false, false]) (a2 := ⟨#[_, _, _, _, _, _, _, _, _, _, _, _, _, _, _, _, _, _, _, _, _, _, _, _, _, _, _, _, _, _, _, _, _, _, _, _, _, _, _, _, _, _, _, _, _, _, _, _, _, _, _, _, _, _, _, _, _, _, _, _, _, _, _, _, _, _, _], _⟩) (by kernel_rfl) (fun j hj => by simp at hj) (by kernel_rfl) (fun _ _ _ _ _ h => h) (Ys.cons rfl (Or.inl ⟨by rfl, fun W1 hW1 => by first | rfl | (go_simp; done) | (go_simp; with_reducible rfl)⟩) (Ys.cons rfl (Or.inl ⟨by rfl, fun W1 hW1 => by have c := (D3.out.call hW1).cells.2.2.1; go_simp⟩) (Ys.cons rfl (Or.inl ⟨by rfl, fun W1 hW1 => exec_load (ty := 23) (x := .tmp 3) rfl rfl (run_loadAt_blk _ _ _ _ _ _ (D3.out.1.call hW1) Try.underlying23 rfl (by first | kernel_rfl | exact info_num _))⟩) (Ys.cons rfl (Or.inl ⟨by rfl, fun W1 hW1 => by first | rfl | (go_simp; done) | (go_simp; with_reducible rfl)⟩) (Ys.cons rfl (Or.inl ⟨by rfl, fun W1 hW1 => by have c := (D3.out.call hW1).cells.2.1; go_simp⟩) (Ys.nil)))))) (S0) (by rfl) (by rfl) ?_
  refine anyG_takes (is := [5]) (vs := [_]) (m := 3) (listed2 := #[true, true, true, true, true, true, false, false, false]) (a2 := ⟨#[_, _, _, _, _, _, _, _, _, _, _, _, _, _, _, _, _, _, _, _, _, _, _, _, _, _, _, _, _, _, _, _, _, _, _, _, _, _, _, _, _, _, _, _, _, _, _, _, _, _, _, _, _, _, _, _, _, _, _, _, _, _, _, _, _, _, _], _⟩) (by kernel_rfl) (fun j hj => by simp at hj) (by kernel_rfl) (fun _ _ _ _ _ h => h) (Ys.cons rfl (Or.inl ⟨by rfl, fun W1 hW1 => by first | rfl | (go_simp; done) | (go_simp; with_reducible rfl)⟩) (Ys.nil)) (S0) (by rfl) (by rfl) ?_
  refine anyG_one (k := 6) (by kernel_rfl) rfl (by rfl) (fun Q2 hQ2 => ?_); go_wp2_with (go_at_call 46; refine (HRa.out _).mono ?_; rintro e v4 ⟨rfl, hb4⟩); refine hQ2 _ _ (fun _ => S0.trans (hb4.mono S0.size)) ?_; clear hQ2 Q2
  have S4 := S0.trans (hb4.mono S0.size)
  refine anyG_one (k := 7) (by kernel_rfl) rfl (by rfl) (fun Q2 hQ2 => ?_); go_wp2_with fail; refine hQ2 _ _ (fun _ => S4) ?_; clear hQ2 Q2
  refine anyG_takes (is := [8]) (vs := [_]) (m := 0) (listed2 := #[true, true, true, true, true, true, true, true, true]) (a2 := ⟨#[_, _, _, _, _, _, _, _, _, _, _, _, _, _, _, _, _, _, _, _, _, _, _, _, _, _, _, _, _, _, _, _, _, _, _, _, _, _, _, _, _, _, _, _, _, _, _, _, _, _, _, _, _, _, _, _, _, _, _, _, _, _, _, _, _, _, _], _⟩) (by kernel_rfl) (fun j hj => by simp at hj) (by kernel_rfl) (fun _ _ _ _ _ h => h) (Ys.cons rfl (Or.inl ⟨by rfl, fun W1 hW1 => by first | rfl | (go_simp; done) | (go_simp; with_reducible rfl)⟩) (Ys.nil)) (S4) (by rfl) (by rfl) ?_
  refine anyG_done (by kernel_rfl) ?_ _
  have D4 := Lib.hid (D3.out.call S4)
  by_cases k3 : a.want = RW
  · have d3 : (a.want != RW) = false := by simpa using k3
    have HQ4 := Lib.hid (HQ3.out.trans (if_neg (fun h => h k3)))
    clear HQ3 k3
    by_cases k4 : a.repl = BO
    · have d4 : (a.repl != BO) = false := by simpa using k4
      have HQ5 := Lib.hid (HQ4.out.trans (if_neg (fun h => h k4)))
      have d5 : (a.why == 4) = decide (a.why = 4) := by rw [Bool.eq_iff_iff]; simp
      have D5 := Lib.hid d5
      clear HQ4 k4
      go_upto_region 9 with (fail)
      refine wp_region_any (by kernel_rfl) ?_; change wpAny _ _ _ _ _ _ _ (World.drew v4); refine any_of_anyG (late := fun _ => false) (S := fun wS => Below v4.heap.size v4 wS) _ _ _ _ ?_
      have S0 := (Below.refl v4.heap.size v4).drew
      refine anyG_takes (is := [0, 1, 2, 3]) (vs := [_, .int .i64 a.repl, _, _]) (m := 10) (listed2 := #[true, true, true, true, false, false, false, false, false, false, false, false, false, false]) (a2 := ⟨#[_, _, _, _, _, _, _, _, _, _, _, _, _, _, _, _, _, _, _, _, _, _, _, _, _, _, _, _, _, _, _, _, _, _, _, _, _, _, _, _, _, _, _, _, _, _, _, _, _, _, _, _, _, _, _, _, _, _, _, _, _, _, _, _, _, _, _], _⟩) (by kernel_rfl) (fun j hj => by simp at hj) (by kernel_rfl) (fun _ _ _ _ _ h => h) (Ys.cons rfl (Or.inl ⟨by rfl, fun W1 hW1 => by first | rfl | (go_simp; done) | (go_simp; with_reducible rfl)⟩) (Ys.cons rfl (Or.inl ⟨by rfl, fun W1 hW1 => by have c := (D4.out.call hW1).cells.2.2.2.1; go_simp⟩) (Ys.cons rfl (Or.inl ⟨by rfl, fun W1 hW1 => exec_load (ty := 23) (x := .tmp 3) rfl rfl (run_loadAt_blk _ _ _ _ _ _ (D4.out.1.call hW1) Try.underlying23 rfl (by first | kernel_rfl | exact info_num _))⟩) (Ys.cons rfl (Or.inl ⟨by rfl, fun W1 hW1 => by first | rfl | (go_simp; done) | (go_simp; with_reducible rfl)⟩) (Ys.nil))))) (S0) (by rfl) (by rfl) ?_
      refine anyG_one (k := 4) (by kernel_rfl) rfl (by rfl) (fun Q2 hQ2 => ?_); go_wp2_with (go_at_call 47; refine (HBo.out _).mono ?_; rintro e v5 ⟨rfl, hb5⟩); refine hQ2 _ _ (fun _ => S0.trans (hb5.mono S0.size)) ?_; clear hQ2 Q2
      have S5 := S0.trans (hb5.mono S0.size)
      refine anyG_one (k := 5) (by kernel_rfl) rfl (by rfl) (fun Q2 hQ2 => ?_); go_wp2_with fail; refine hQ2 _ _ (fun _ => S5) ?_; clear hQ2 Q2
      refine anyG_takes (is := [6, 7, 8, 9]) (vs := [_, _, _, .int .i64 a.why]) (m := 4) (listed2 := #[true, true, true, true, true, true, true, true, true, true, false, false, false, false]) (a2 := ⟨#[_, _, _, _, _, _, _, _, _, _, _, _, _, _, _, _, _, _, _, _, _, _, _, _, _, _, _, _, _, _, _, _, _, _, _, _, _, _, _, _, _, _, _, _, _, _, _, _, _, _, _, _, _, _, _, _, _, _, _, _, _, _, _, _, _, _, _], _⟩) (by kernel_rfl) (fun j hj => by simp at hj) (by kernel_rfl) (fun _ _ _ _ _ h => h) (Ys.cons rfl (Or.inl ⟨by rfl, fun W1 hW1 => by first | rfl | (go_simp; done) | (go_simp; with_reducible rfl)⟩) (Ys.cons rfl (Or.inl ⟨by rfl, fun W1 hW1 => by first | rfl | (go_simp; done) | (go_simp; with_reducible rfl)⟩) (Ys.cons rfl (Or.inl ⟨by rfl, fun W1 hW1 => by first | rfl | (go_simp; done) | (go_simp; with_reducible rfl)⟩) (Ys.cons rfl (Or.inl ⟨by rfl, fun W1 hW1 => by have c := (D4.out.call hW1).cells.2.2.2.2.1; go_simp⟩) (Ys.nil))))) (S5) (by rfl) (by rfl) ?_
      refine anyG_one (k := 10) (by kernel_rfl) rfl (by rfl) (fun Q2 hQ2 => ?_); go_wp2_with fail; refine hQ2 _ _ (fun _ => S5) ?_; clear hQ2 Q2
      refine anyG_one (k := 11) (by kernel_rfl) rfl (by rfl) (fun Q2 hQ2 => ?_); go_wp2_with fail; refine hQ2 _ _ (fun _ => S5) ?_; clear hQ2 Q2
      refine anyG_takes (is := [12, 13]) (vs := [_, _]) (m := 0) (listed2 := #[true, true, true, true, true, true, true, true, true, true, true, true, true, true]) (a2 := ⟨#[_, _, _, _, _, _, _, _, _, _, _, _, _, _, _, _, _, _, _, _, _, _, _, _, _, _, _, _, _, _, _, _, _, _, _, _, _, _, _, _, _, _, _, _, _, _, _, _, _, _, _, _, _, _, _, _, _, _, _, _, _, _, _, _, _, _, _], _⟩) (by kernel_rfl) (fun j hj => by simp at hj) (by kernel_rfl) (fun _ _ _ _ _ h => h) (Ys.cons rfl (Or.inl ⟨by rfl, fun W1 hW1 => by first | rfl | (go_simp; done) | (go_simp; with_reducible rfl)⟩) (Ys.cons rfl (Or.inl ⟨by rfl, fun W1 hW1 => by first | rfl | (go_simp; done) | (go_simp; with_reducible rfl)⟩) (Ys.nil))) (S5) (by rfl) (by rfl) ?_
      refine anyG_done (by kernel_rfl) ?_ _
      have D6 := Lib.hid (D4.out.call S5)
      clear d5 D5
      generalize hB : (!sh == decide (a.why = 4)) = Bx
      cases Bx
      · have k5 : sh = decide (a.why = 4) := by revert hB; cases sh <;> cases decide (a.why = 4) <;> decide
        have HQ6 := Lib.hid (HQ5.out.trans (if_neg (fun h => h k5)))
        clear HQ5 k5 hB
        go_wp2_with (first | (refine Blk.load rfl 23 (.tmp 3) rfl w.heap.size _ _ _ rfl D6.out.1 Try.underlying23 rfl (by kernel_rfl) ?_) | (refine Blk.load rfl 26 (.tmp 5) rfl (w.heap.size + 1) _ _ _ rfl D6.out.2.1 Try.underlying26 rfl (by kernel_rfl) ?_))
        refine (HWh.out _).mono ?_
        rintro e v7 ⟨rfl, hb7⟩
        have D7 := Lib.hid (D6.out.call hb7)
        clear hb7
        cases WY
        · have HE := Lib.hid (HQ6.out.trans (if_pos rfl))
          go_wp2
          go_ret
          exact ⟨ret_int HE.out.symm, D7.out.2.2⟩
        · have HE := Lib.hid (HQ6.out.trans (if_neg (by decide)))
          go_wp2
          go_ret
          exact ⟨ret_int HE.out.symm, D7.out.2.2⟩
      · have k5 : sh ≠ decide (a.why = 4) := by revert hB; cases sh <;> cases decide (a.why = 4) <;> decide
        have HE := Lib.hid (HQ5.out.trans (if_pos k5))
        clear HQ5 k5 hB
        go_wp2
        go_ret
        exact ⟨ret_int HE.out.symm, D6.out.2.2⟩
    · have d4 : (a.repl != BO) = true := by simpa using k4
      have HE := Lib.hid (HQ4.out.trans (if_pos k4))
      clear HQ4 k4
      go_upto_region 9 with (fail)
      refine wp_region_any (by kernel_rfl) ?_; change wpAny _ _ _ _ _ _ _ (World.drew v4); refine any_of_anyG (late := fun _ => false) (S := fun wS => Below v4.heap.size v4 wS) _ _ _ _ ?_
      have S0 := (Below.refl v4.heap.size v4).drew
      refine anyG_takes (is := [0, 1, 2, 3]) (vs := [_, .int .i64 a.repl, _, _]) (m := 10) (listed2 := #[true, true, true, true, false, false, false, false, false, false, false, false, false, false]) (a2 := ⟨#[_, _, _, _, _, _, _, _, _, _, _, _, _, _, _, _, _, _, _, _, _, _, _, _, _, _, _, _, _, _, _, _, _, _, _, _, _, _, _, _, _, _, _, _, _, _, _, _, _, _, _, _, _, _, _, _, _, _, _, _, _, _, _, _, _, _, _], _⟩) (by kernel_rfl) (fun j hj => by simp at hj) (by kernel_rfl) (fun _ _ _ _ _ h => h) (Ys.cons rfl (Or.inl ⟨by rfl, fun W1 hW1 => by first | rfl | (go_simp; done) | (go_simp; with_reducible rfl)⟩) (Ys.cons rfl (Or.inl ⟨by rfl, fun W1 hW1 => by have c := (D4.out.call hW1).cells.2.2.2.1; go_simp⟩) (Ys.cons rfl (Or.inl ⟨by rfl, fun W1 hW1 => exec_load (ty := 23) (x := .tmp 3) rfl rfl (run_loadAt_blk _ _ _ _ _ _ (D4.out.1.call hW1) Try.underlying23 rfl (by first | kernel_rfl | exact info_num _))⟩) (Ys.cons rfl (Or.inl ⟨by rfl, fun W1 hW1 => by first | rfl | (go_simp; done) | (go_simp; with_reducible rfl)⟩) (Ys.nil))))) (S0) (by rfl) (by rfl) ?_
      refine anyG_one (k := 4) (by kernel_rfl) rfl (by rfl) (fun Q2 hQ2 => ?_); go_wp2_with (go_at_call 47; refine (HBo.out _).mono ?_; rintro e v5 ⟨rfl, hb5⟩); refine hQ2 _ _ (fun _ => S0.trans (hb5.mono S0.size)) ?_; clear hQ2 Q2
      have S5 := S0.trans (hb5.mono S0.size)
      refine anyG_one (k := 5) (by kernel_rfl) rfl (by rfl) (fun Q2 hQ2 => ?_); go_wp2_with fail; refine hQ2 _ _ (fun _ => S5) ?_; clear hQ2 Q2
      refine anyG_takes (is := [6, 7, 8, 9, 10]) (vs := [_, undef, undef, undef, undef]) (m := 3) (listed2 := #[true, true, true, true, true, true, true, true, true, true, true, false, false, false]) (a2 := ⟨#[_, _, _, _, _, _, _, _, _, _, _, _, _, _, _, _, _, _, _, _, _, _, _, _, _, _, _, _, _, _, _, _, _, _, _, _, _, _, _, _, _, _, _, _, _, _, _, _, _, _, _, _, _, _, _, _, _, _, _, _, _, _, _, _, _, _, _], _⟩) (by kernel_rfl) (fun j hj => by simp at hj) (by kernel_rfl) (fun _ _ _ _ _ h => h) (Ys.cons rfl (Or.inl ⟨by rfl, fun W1 hW1 => by first | rfl | (go_simp; done) | (go_simp; with_reducible rfl)⟩) (Ys.cons rfl (Or.inr ⟨by rfl, rfl⟩) (Ys.cons rfl (Or.inr ⟨by rfl, rfl⟩) (Ys.cons rfl (Or.inr ⟨by rfl, rfl⟩) (Ys.cons rfl (Or.inr ⟨by rfl, rfl⟩) (Ys.nil)))))) (S5) (by rfl) (by rfl) ?_
      refine anyG_takes (is := [11, 12, 13]) (vs := [undef, _, _]) (m := 0) (listed2 := #[true, true, true, true, true, true, true, true, true, true, true, true, true, true]) (a2 := ⟨#[_, _, _, _, _, _, _, _, _, _, _, _, _, _, _, _, _, _, _, _, _, _, _, _, _, _, _, _, _, _, _, _, _, _, _, _, _, _, _, _, _, _, _, _, _, _, _, _, _, _, _, _, _, _, _, _, _, _, _, _, _, _, _, _, _, _, _], _⟩) (by kernel_rfl) (fun j hj => by simp at hj) (by kernel_rfl) (fun _ _ _ _ _ h => h) (Ys.cons rfl (Or.inr ⟨by rfl, rfl⟩) (Ys.cons rfl (Or.inl ⟨by rfl, fun W1 hW1 => by first | rfl | (go_simp; done) | (go_simp; with_reducible rfl)⟩) (Ys.cons rfl (Or.inl ⟨by rfl, fun W1 hW1 => by first | rfl | (go_simp; done) | (go_simp; with_reducible rfl)⟩) (Ys.nil)))) (S5) (by rfl) (by rfl) ?_
      refine anyG_done (by kernel_rfl) ?_ _
      have D6 := Lib.hid (D4.out.call S5)
      go_wp2
      go_ret
      exact ⟨ret_int HE.out.symm, D6.out.2.2⟩
  · have d3 : (a.want != RW) = true := by simpa using k3
    have HE := Lib.hid (show RQ = 3 from HQ3.out.trans (if_pos k3))
    clear k3
    go_wp2
    go_ret
    exact ⟨ret_int HE.out.symm, D4.out.2.2⟩
end Go.Proofs.Ytjodpffdlggjgaa
