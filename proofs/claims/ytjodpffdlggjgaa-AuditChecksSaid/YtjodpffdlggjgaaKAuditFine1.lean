/- Several texts in one. -/
import Derived.Test.YtjodpffdlggjgaaKDecideFollows2
import Derived.Test.YtjodpffdlggjgaaRegT
import Derived.Test.YtjodpffdlggjgaaRegL
import Derived.Test.YtjodpffdlggjgaaKDecideFollows3
/- Package audit and its reference: which rule a decision breaks. (fast region) -/
namespace Go.Proofs.Ytjodpffdlggjgaa
open Go.RowKit
set_option linter.unusedSimpArgs false
set_option linter.unusedVariables false
set_option maxHeartbeats 4000000
set_option maxRecDepth 100000
def whyOk (a : Adv) (now : Int) : Bool := if a.why = 2 then decide (now < a.repl) else if a.why = 3 then decide (a.repl < now) else if a.why = 1 then a.repl == now else true
def polHas (p : Pol) (n : Int) : Bool := decide (p.okP ∧ p.min ≤ n ∧ n ≤ p.max)
def ruleq (p : Pol) (past : List Adv) (a : Adv) : Int :=
  if a.why < 1 then 1 else if 6 < a.why then 1 else if polHas p a.repl = false then 2 else if a.want ≠ rawq p a.load (nowq p past) then 3
  else if a.repl ≠ boundq p (steadyq p a.tick a.want past).1 then 4 else if (steadyq p a.tick a.want past).2 ≠ decide (a.why = 4) then 4
  else if whyOk a (nowq p past) = false then 5 else 0
abbrev Adv.row (a : Adv) : Array Value := #[.int .i64 a.tick, .int .i64 a.load, .int .i64 a.want, .int .i64 a.repl, .int .i64 a.why]
def DA (w wr : World) (p : Pol) (a : Adv) : Prop := Blk wr w.heap.size 23 p.row ∧ Blk wr (w.heap.size + 1) 26 a.row ∧ Below w.heap.size w wr
theorem DA.call {w wr w' : World} {p : Pol} {a : Adv} (h : DA w wr p a) (hb : Below wr.heap.size wr w') : DA w w' p a := ⟨h.1.call hb, h.2.1.call hb, h.2.2.trans (hb.mono h.2.2.size)⟩
theorem DA.start (w : World) (p : Pol) (a : Adv) : DA w ((w.alloc (.cells p.row 23)).alloc (.cells a.row 26)) p a :=
  ⟨(Blk.new w _ _).alloc _, Blk.new2 w _ _ _, by go_grown⟩
theorem DA.cells {w wr : World} {p : Pol} {a : Adv} (h : DA w wr p a) : wr.cell? ⟨w.heap.size + 1, 0, none⟩ = some (.int .i64 a.tick) ∧ wr.cell? ⟨w.heap.size + 1, 1, none⟩ = some (.int .i64 a.load) ∧ wr.cell? ⟨w.heap.size + 1, 2, none⟩ = some (.int .i64 a.want) ∧ wr.cell? ⟨w.heap.size + 1, 3, none⟩ = some (.int .i64 a.repl) ∧ wr.cell? ⟨w.heap.size + 1, 4, none⟩ = some (.int .i64 a.why) ∧ wr.cell? ⟨w.heap.size, 0, none⟩ = some (.int .i64 p.min) ∧ wr.cell? ⟨w.heap.size, 1, none⟩ = some (.int .i64 p.max) :=
  ⟨h.2.1.cellv rfl, h.2.1.cellv rfl, h.2.1.cellv rfl, h.2.1.cellv rfl, h.2.1.cellv rfl, h.1.cellv rfl, h.1.cellv rfl⟩
theorem audit_why (p : Pol) (a : Adv) (now : Int) (w : World) :
    Calls Try.prog 48 #[(.agg #[.int .i64 p.min, .int .i64 p.max, .int .i64 p.target, .int .i64 p.tol, .int .i64 p.window, .int .i64 p.hold]), .agg a.row, .int .i64 now] w fun e w' => e = .returned (.bool (whyOk a now)) ∧ Below w.heap.size w w' := by
  have HQ := Lib.hid (show whyOk a now = if a.why = 2 then decide (now < a.repl) else if a.why = 3 then decide (a.repl < now) else if a.why = 1 then a.repl == now else true from rfl)
  by_cases k2 : a.why = 2
  · have HE := Lib.hid (show whyOk a now = decide (now < a.repl) by rw [HQ.out, if_pos k2])
    have d2 : (a.why == 2) = true := by simpa using k2
    clear k2 HQ
    go_enter Try.func48, Try.ntmps48
    go_wp2
    go_ret
    exact ⟨ret_bool HE.out.symm, by go_grown⟩
  have d2 : (a.why == 2) = false := by simpa using k2
  by_cases k3 : a.why = 3
  · have HE := Lib.hid (show whyOk a now = decide (a.repl < now) by rw [HQ.out, if_neg k2, if_pos k3])
    have d3 : (a.why == 3) = true := by simpa using k3
    clear k2 k3 HQ
    go_enter Try.func48, Try.ntmps48
    go_wp2
    go_ret
    exact ⟨ret_bool HE.out.symm, by go_grown⟩
  have d3 : (a.why == 3) = false := by simpa using k3
  by_cases k1 : a.why = 1
  · have HE := Lib.hid (show whyOk a now = (a.repl == now) by rw [HQ.out, if_neg k2, if_neg k3, if_pos k1])
    have d1 : (a.why == 1) = true := by simpa using k1
    clear k1 k2 k3 HQ
    go_enter Try.func48, Try.ntmps48
    go_wp2
    go_ret
    exact ⟨ret_bool HE.out.symm, by go_grown⟩
  · have HE := Lib.hid (show whyOk a now = true by rw [HQ.out, if_neg k2, if_neg k3, if_neg k1])
    have d1 : (a.why == 1) = false := by simpa using k1
    clear k1 k2 k3 HQ
    go_enter Try.func48, Try.ntmps48
    go_wp2
    go_ret
    exact ⟨ret_bool HE.out.symm, by go_grown⟩
theorem polHas_eq (p : Pol) (n : Int) (b : Bool) (h : b = decide p.okP) : (b && decide (p.min ≤ n) && decide (n ≤ p.max)) = polHas p n := by
  subst h; unfold polHas; rw [Bool.eq_iff_iff]; simp [and_assoc]
theorem policy_Has (p : Pol) (n : Int) (w : World) :
    Calls Try.prog 45 #[(.agg #[.int .i64 p.min, .int .i64 p.max, .int .i64 p.target, .int .i64 p.tol, .int .i64 p.window, .int .i64 p.hold]), .int .i64 n] w fun e w' => e = .returned (.bool (polHas p n)) ∧ Below w.heap.size w w' := by
  by_cases hk : p.okP
  · have HC := Lib.hid (fun W => policy_Check p W)
    rw [polErr_ok hk] at HC
    have HE := Lib.hid (polHas_eq p n true (by simp [hk]))
    clear hk
    by_cases h1 : p.min ≤ n
    · have d1 : decide (p.min ≤ n) = true := by simpa using h1
      rw [d1] at HE
      go_enter Try.func45, Try.ntmps45
      go_wp2_with fail
      refine (HC.out _).mono ?_
      rintro e v1 ⟨rfl, hb1⟩
      have B1 := (Blk.new w 23 p.row).call hb1
      have E1 := Lib.hid (Below.trans (show Below w.heap.size w (w.alloc (.cells p.row 23)) by go_grown) (hb1.mono (by simp)))
      have c0 := B1.cellv (i := 0) (v := .int .i64 p.min) rfl
      have c1 := B1.cellv (i := 1) (v := .int .i64 p.max) rfl
      clear hb1 B1
      go_wp2
      go_ret
      exact ⟨ret_bool (by rw [← HE.out]; simp), E1.out⟩
    · have d1 : decide (p.min ≤ n) = false := by simpa using h1
      rw [d1] at HE
      go_enter Try.func45, Try.ntmps45
      go_wp2_with fail
      refine (HC.out _).mono ?_
      rintro e v1 ⟨rfl, hb1⟩
      have B1 := (Blk.new w 23 p.row).call hb1
      have E1 := Lib.hid (Below.trans (show Below w.heap.size w (w.alloc (.cells p.row 23)) by go_grown) (hb1.mono (by simp)))
      have c0 := B1.cellv (i := 0) (v := .int .i64 p.min) rfl
      clear hb1 B1
      go_wp2
      go_ret
      exact ⟨ret_bool (by rw [← HE.out]; simp), E1.out⟩
  · have HC := Lib.hid (fun W => policy_Check p W)
    rw [polErr_no hk] at HC
    have HE := Lib.hid (show polHas p n = false by unfold polHas; simp [hk])
    clear hk
    go_enter Try.func45, Try.ntmps45
    go_wp2_with fail
    refine (HC.out _).mono ?_
    rintro e v1 ⟨rfl, hb1⟩
    have E1 := Lib.hid (Below.trans (show Below w.heap.size w (w.alloc (.cells p.row 23)) by go_grown) (hb1.mono (by simp)))
    clear hb1
    go_wp2
    go_ret
    exact ⟨ret_bool HE.out.symm, E1.out⟩
end Go.Proofs.Ytjodpffdlggjgaa
/- audit.Rule: the walk. (fast region) -/
namespace Go.Proofs.Ytjodpffdlggjgaa
open Go.RowKit
set_option linter.unusedSimpArgs false
set_option linter.unusedVariables false
set_option maxHeartbeats 8000000
set_option maxRecDepth 100000
theorem audit_Rule (p : Pol) (A : Option Addr) (len cap : Nat) (past : List Adv) (a : Adv) (w : World) (hp : p.fit) (ha : a.good) (hs : AdvsAre w A len cap past) (hn : len ≤ 1000) :
    Calls Try.prog 12 #[(.agg #[.int .i64 p.min, .int .i64 p.max, .int .i64 p.target, .int .i64 p.tol, .int .i64 p.window, .int .i64 p.hold]), .slice A len cap, .agg a.row] w fun e w' => e = .returned (.int .i64 (ruleq p past a)) ∧ Below w.heap.size w w' := by
  have HS := Lib.hid hs
  have D0 := Lib.hid (DA.start w p a)
  have HQ := Lib.hid (show ruleq p past a = if a.why < 1 then 1 else if 6 < a.why then 1 else if polHas p a.repl = false then 2 else if a.want ≠ rawq p a.load (nowq p past) then 3
    else if a.repl ≠ boundq p (steadyq p a.tick a.want past).1 then 4 else if (steadyq p a.tick a.want past).2 ≠ decide (a.why = 4) then 4
    else if whyOk a (nowq p past) = false then 5 else 0 from rfl)
  have HNo := Lib.hid (fun W hW => decide_Now p A len cap past W hW hn)
  have HSt := Lib.hid (fun W hW => steady_Of p a.tick a.want A len cap past W hp hW hn ha.1)
  have HHa := Lib.hid (fun W => policy_Has p a.repl W)
  have HRa := Lib.hid (fun W => control_Raw p a.load (nowq p past) W hp ha.2.1)
  have HWh := Lib.hid (fun W => audit_why p a (nowq p past) W)
  generalize ruleq p past a = RQ at *
  generalize nowq p past = NW at *
  generalize steadyq p a.tick a.want past = SQ at *
  obtain ⟨sn, sh⟩ := SQ
  dsimp only at HSt HQ
  have HBo := Lib.hid (fun W => control_Bound p sn W)
  generalize boundq p sn = BO at *
  generalize whyOk a NW = WY at *
  generalize rawq p a.load NW = RW at *
  generalize polHas p a.repl = PH at *
  clear hs hp ha
  go_enter Try.func12, Try.ntmps12
  go_wp2_with (refine Blk.load rfl 23 (.tmp 3) rfl w.heap.size _ _ _ rfl D0.out.1 Try.underlying23 rfl (by kernel_rfl) ?_)
  refine (HNo.out _ (slice_keep HS.out D0.out.2.2)).mono ?_
  rintro e v1 ⟨rfl, hb1⟩
  have D1 := Lib.hid (D0.out.call hb1)
  clear hb1
  obtain ⟨c0, c1, c2, c3, c4, c5, c6⟩ := D1.out.cells
  go_wp2_with (refine Blk.load rfl 23 (.tmp 3) rfl w.heap.size _ _ _ rfl D1.out.1 Try.underlying23 rfl (by kernel_rfl) ?_)
  refine (HSt.out _ (slice_keep HS.out D1.out.2.2)).mono ?_
  rintro e v2 ⟨rfl, hb2⟩
  have D2 := Lib.hid (D1.out.call hb2)
  clear hb2 c0 c1 c2 c3 c4 c5 c6
  obtain ⟨c0, c1, c2, c3, c4, c5, c6⟩ := D2.out.cells
  by_cases k1 : a.why < 1
  · have HE := Lib.hid (show RQ = 1 by rw [HQ.out, if_pos k1])
    go_wp2
    go_ret
    exact ⟨ret_int HE.out.symm, D2.out.2.2⟩
  have d1 : decide (a.why < 1) = false := by simpa using k1
  by_cases k2 : 6 < a.why
  · have HE := Lib.hid (show RQ = 1 by rw [HQ.out, if_neg k1, if_pos k2])
    go_wp2
    go_ret
    exact ⟨ret_int HE.out.symm, D2.out.2.2⟩
  have d2 : decide (6 < a.why) = false := by simpa using k2
  have HQ2 := Lib.hid (HQ.out.trans ((if_neg k1).trans (if_neg k2)))
  clear HQ k1 k2
  go_wp2_with (refine Blk.load rfl 23 (.tmp 3) rfl w.heap.size _ _ _ rfl D2.out.1 Try.underlying23 rfl (by kernel_rfl) ?_)
  refine (HHa.out _).mono ?_
  rintro e v3 ⟨rfl, hb3⟩
  have D3 := Lib.hid (D2.out.call hb3)
  clear hb3 c0 c1 c2 c3 c4 c5 c6 d1 d2
  cases PH
  · have HE := Lib.hid (show RQ = 2 from HQ2.out.trans (if_pos rfl))
    go_wp2
    go_ret
    exact ⟨ret_int HE.out.symm, D3.out.2.2⟩
  have HQ3 := Lib.hid (HQ2.out.trans (if_neg (by decide)))
  clear HQ2
  go_upto_region 7 with (fail)
  refine wp_region_any (by kernel_rfl) ?_; change wpAny _ _ _ _ _ _ _ (World.drew v3); refine any_of_anyG (late := fun _ => false) (S := fun wS => Below v3.heap.size v3 wS) _ _ _ _ ?_
  have S0 := (Below.refl v3.heap.size v3).drew
  refine anyG_takes (is := [0, 1, 2, 3, 4]) (vs := [_, .int .i64 a.want, _, _, .int .i64 a.load]) (m := 4) (listed2 := #[true, true, true, true, true, false, false, false, false]) (a2 := ⟨#[_, _, _, _, _, _, _, _, _, _, _, _, _, _, _, _, _, _, _, _, _, _, _, _, _, _, _, _, _, _, _, _, _, _, _, _, _, _, _, _, _, _, _, _, _, _, _, _, _, _, _, _, _, _, _, _, _, _, _, _, _, _, _, _, _, _, _], _⟩) (by kernel_rfl) (fun j hj => by simp at hj) (by kernel_rfl) (fun _ _ _ _ _ h => h) (Ys.cons rfl (Or.inl ⟨by rfl, fun W1 hW1 => by first | rfl | (go_simp; done) | (go_simp; with_reducible rfl)⟩) (Ys.cons rfl (Or.inl ⟨by rfl, fun W1 hW1 => by have c := (D3.out.call hW1).cells.2.2.1; go_simp⟩) (Ys.cons rfl (Or.inl ⟨by rfl, fun W1 hW1 => exec_load (ty := 23) (x := .tmp 3) rfl rfl (run_loadAt_blk _ _ _ _ _ _ (D3.out.1.call hW1) Try.underlying23 rfl (by first | kernel_rfl | exact info_num _))⟩) (Ys.cons rfl (Or.inl ⟨by rfl, fun W1 hW1 => by first | rfl | (go_simp; done) | (go_simp; with_reducible rfl)⟩) (Ys.cons rfl (Or.inl ⟨by rfl, fun W1 hW1 => by have c := (D3.out.call hW1).cells.2.1; go_simp⟩) (Ys.nil)))))) (S0) (by rfl) (by rfl) ?_
  refine anyG_takes (is := [5]) (vs := [_]) (m := 3) (listed2 := #[true, true, true, true, true, true, false, false, false]) (a2 := ⟨#[_, _, _, _, _, _, _, _, _, _, _, _, _, _, _, _, _, _, _, _, _, _, _, _, _, _, _, _, _, _, _, _, _, _, _, _, _, _, _, _, _, _, _, _, _, _, _, _, _, _, _, _, _, _, _, _, _, _, _, _, _, _, _, _, _, _, _], _⟩) (by kernel_rfl) (fun j hj => by simp at hj) (by kernel_rfl) (fun _ _ _ _ _ h => h) (Ys.cons rfl (Or.inl ⟨by rfl, fun W1 hW1 => by first | rfl | (go_simp; done) | (go_simp; with_reducible rfl)⟩) (Ys.nil)) (S0) (by rfl) (by rfl) ?_
  refine anyG_one (k := 6) (by kernel_rfl) rfl (by rfl) (fun Q2 hQ2 => ?_); go_wp2_with (go_at_call 46; refine (HRa.out _).mono ?_; rintro e v4 ⟨rfl, hb4⟩); refine hQ2 _ _ (fun _ => S0.trans (hb4.mono S0.size)) ?_; clear hQ2 Q2
  have S4 := S0.trans (hb4.mono S0.size)
  refine anyG_one (k := 7) (by kernel_rfl) rfl (by rfl) (fun Q2 hQ2 => ?_); go_wp2_with fail; refine hQ2 _ _ (fun _ => S4) ?_; clear hQ2 Q2
  refine anyG_takes (is := [8]) (vs := [_]) (m := 0) (listed2 := #[true, true, true, true, true, true, true, true, true]) (a2 := ⟨#[_, _, _, _, _, _, _, _, _, _, _, _, _, _, _, _, _, _, _, _, _, _, _, _, _, _, _, _, _, _, _, _, _, _, _, _, _, _, _, _, _, _, _, _, _, _, _, _, _, _, _, _, _, _, _, _, _, _, _, _, _, _, _, _, _, _, _], _⟩) (by kernel_rfl) (fun j hj => by simp at hj) (by kernel_rfl) (fun _ _ _ _ _ h => h) (Ys.cons rfl (Or.inl ⟨by rfl, fun W1 hW1 => by first | rfl | (go_simp; done) | (go_simp; with_reducible rfl)⟩) (Ys.nil)) (S4) (by rfl) (by rfl) ?_
  refine anyG_done (by kernel_rfl) ?_ _
  have D4 := Lib.hid (D3.out.call S4)
  by_cases k3 : a.want = RW
  · have d3 : (a.want != RW) = false := by simpa using k3
    have HQ4 := Lib.hid (HQ3.out.trans (if_neg (fun h => h k3)))
    clear HQ3 k3
    by_cases k4 : a.repl = BO
    · have d4 : (a.repl != BO) = false := by simpa using k4
      have HQ5 := Lib.hid (HQ4.out.trans (if_neg (fun h => h k4)))
      have d5 : (a.why == 4) = decide (a.why = 4) := by rw [Bool.eq_iff_iff]; simp
      have D5 := Lib.hid d5
      clear HQ4 k4
      go_upto_region 9 with (fail)
      refine wp_region_any (by kernel_rfl) ?_; change wpAny _ _ _ _ _ _ _ (World.drew v4); refine any_of_anyG (late := fun _ => false) (S := fun wS => Below v4.heap.size v4 wS) _ _ _ _ ?_
      have S0 := (Below.refl v4.heap.size v4).drew
      refine anyG_takes (is := [0, 1, 2, 3]) (vs := [_, .int .i64 a.repl, _, _]) (m := 10) (listed2 := #[true, true, true, true, false, false, false, false, false, false, false, false, false, false]) (a2 := ⟨#[_, _, _, _, _, _, _, _, _, _, _, _, _, _, _, _, _, _, _, _, _, _, _, _, _, _, _, _, _, _, _, _, _, _, _, _, _, _, _, _, _, _, _, _, _, _, _, _, _, _, _, _, _, _, _, _, _, _, _, _, _, _, _, _, _, _, _], _⟩) (by kernel_rfl) (fun j hj => by simp at hj) (by kernel_rfl) (fun _ _ _ _ _ h => h) (Ys.cons rfl (Or.inl ⟨by rfl, fun W1 hW1 => by first | rfl | (go_simp; done) | (go_simp; with_reducible rfl)⟩) (Ys.cons rfl (Or.inl ⟨by rfl, fun W1 hW1 => by have c := (D4.out.call hW1).cells.2.2.2.1; go_simp⟩) (Ys.cons rfl (Or.inl ⟨by rfl, fun W1 hW1 => exec_load (ty := 23) (x := .tmp 3) rfl rfl (run_loadAt_blk _ _ _ _ _ _ (D4.out.1.call hW1) Try.underlying23 rfl (by first | kernel_rfl | exact info_num _))⟩) (Ys.cons rfl (Or.inl ⟨by rfl, fun W1 hW1 => by first | rfl | (go_simp; done) | (go_simp; with_reducible rfl)⟩) (Ys.nil))))) (S0) (by rfl) (by rfl) ?_
      refine anyG_one (k := 4) (by kernel_rfl) rfl (by rfl) (fun Q2 hQ2 => ?_); go_wp2_with (go_at_call 47; refine (HBo.out _).mono ?_; rintro e v5 ⟨rfl, hb5⟩); refine hQ2 _ _ (fun _ => S0.trans (hb5.mono S0.size)) ?_; clear hQ2 Q2
      have S5 := S0.trans (hb5.mono S0.size)
      refine anyG_one (k := 5) (by kernel_rfl) rfl (by rfl) (fun Q2 hQ2 => ?_); go_wp2_with fail; refine hQ2 _ _ (fun _ => S5) ?_; clear hQ2 Q2
      refine anyG_takes (is := [6, 7, 8, 9]) (vs := [_, _, _, .int .i64 a.why]) (m := 4) (listed2 := #[true, true, true, true, true, true, true, true, true, true, false, false, false, false]) (a2 := ⟨#[_, _, _, _, _, _, _, _, _, _, _, _, _, _, _, _, _, _, _, _, _, _, _, _, _, _, _, _, _, _, _, _, _, _, _, _, _, _, _, _, _, _, _, _, _, _, _, _, _, _, _, _, _, _, _, _, _, _, _, _, _, _, _, _, _, _, _], _⟩) (by kernel_rfl) (fun j hj => by simp at hj) (by kernel_rfl) (fun _ _ _ _ _ h => h) (Ys.cons rfl (Or.inl ⟨by rfl, fun W1 hW1 => by first | rfl | (go_simp; done) | (go_simp; with_reducible rfl)⟩) (Ys.cons rfl (Or.inl ⟨by rfl, fun W1 hW1 => by first | rfl | (go_simp; done) | (go_simp; with_reducible rfl)⟩) (Ys.cons rfl (Or.inl ⟨by rfl, fun W1 hW1 => by first | rfl | (go_simp; done) | (go_simp; with_reducible rfl)⟩) (Ys.cons rfl (Or.inl ⟨by rfl, fun W1 hW1 => by have c := (D4.out.call hW1).cells.2.2.2.2.1; go_simp⟩) (Ys.nil))))) (S5) (by rfl) (by rfl) ?_
      refine anyG_one (k := 10) (by kernel_rfl) rfl (by rfl) (fun Q2 hQ2 => ?_); go_wp2_with fail; refine hQ2 _ _ (fun _ => S5) ?_; clear hQ2 Q2
      refine anyG_one (k := 11) (by kernel_rfl) rfl (by rfl) (fun Q2 hQ2 => ?_); go_wp2_with fail; refine hQ2 _ _ (fun _ => S5) ?_; clear hQ2 Q2
      refine anyG_takes (is := [12, 13]) (vs := [_, _]) (m := 0) (listed2 := #[true, true, true, true, true, true, true, true, true, true, true, true, true, true]) (a2 := ⟨#[_, _, _, _, _, _, _, _, _, _, _, _, _, _, _, _, _, _, _, _, _, _, _, _, _, _, _, _, _, _, _, _, _, _, _, _, _, _, _, _, _, _, _, _, _, _, _, _, _, _, _, _, _, _, _, _, _, _, _, _, _, _, _, _, _, _, _], _⟩) (by kernel_rfl) (fun j hj => by simp at hj) (by kernel_rfl) (fun _ _ _ _ _ h => h) (Ys.cons rfl (Or.inl ⟨by rfl, fun W1 hW1 => by first | rfl | (go_simp; done) | (go_simp; with_reducible rfl)⟩) (Ys.cons rfl (Or.inl ⟨by rfl, fun W1 hW1 => by first | rfl | (go_simp; done) | (go_simp; with_reducible rfl)⟩) (Ys.nil))) (S5) (by rfl) (by rfl) ?_
      refine anyG_done (by kernel_rfl) ?_ _
      have D6 := Lib.hid (D4.out.call S5)
      clear d5 D5
      generalize hB : (!sh == decide (a.why = 4)) = Bx
      cases Bx
      · have k5 : sh = decide (a.why = 4) := by revert hB; cases sh <;> cases decide (a.why = 4) <;> decide
        have HQ6 := Lib.hid (HQ5.out.trans (if_neg (fun h => h k5)))
        clear HQ5 k5 hB
        go_wp2_with (first | (refine Blk.load rfl 23 (.tmp 3) rfl w.heap.size _ _ _ rfl D6.out.1 Try.underlying23 rfl (by kernel_rfl) ?_) | (refine Blk.load rfl 26 (.tmp 5) rfl (w.heap.size + 1) _ _ _ rfl D6.out.2.1 Try.underlying26 rfl (by kernel_rfl) ?_))
        refine (HWh.out _).mono ?_
        rintro e v7 ⟨rfl, hb7⟩
        have D7 := Lib.hid (D6.out.call hb7)
        clear hb7
        cases WY
        · have HE := Lib.hid (HQ6.out.trans (if_pos rfl))
          go_wp2
          go_ret
          exact ⟨ret_int HE.out.symm, D7.out.2.2⟩
        · have HE := Lib.hid (HQ6.out.trans (if_neg (by decide)))
          go_wp2
          go_ret
          exact ⟨ret_int HE.out.symm, D7.out.2.2⟩
      · have k5 : sh ≠ decide (a.why = 4) := by revert hB; cases sh <;> cases decide (a.why = 4) <;> decide
        have HE := Lib.hid (HQ5.out.trans (if_pos k5))
        clear HQ5 k5 hB
        go_wp2
        go_ret
        exact ⟨ret_int HE.out.symm, D6.out.2.2⟩
    · have d4 : (a.repl != BO) = true := by simpa using k4
      have HE := Lib.hid (HQ4.out.trans (if_pos k4))
      clear HQ4 k4
      go_upto_region 9 with (fail)
      refine wp_region_any (by kernel_rfl) ?_; change wpAny _ _ _ _ _ _ _ (World.drew v4); refine any_of_anyG (late := fun _ => false) (S := fun wS => Below v4.heap.size v4 wS) _ _ _ _ ?_
      have S0 := (Below.refl v4.heap.size v4).drew
      refine anyG_takes (is := [0, 1, 2, 3]) (vs := [_, .int .i64 a.repl, _, _]) (m := 10) (listed2 := #[true, true, true, true, false, false, false, false, false, false, false, false, false, false]) (a2 := ⟨#[_, _, _, _, _, _, _, _, _, _, _, _, _, _, _, _, _, _, _, _, _, _, _, _, _, _, _, _, _, _, _, _, _, _, _, _, _, _, _, _, _, _, _, _, _, _, _, _, _, _, _, _, _, _, _, _, _, _, _, _, _, _, _, _, _, _, _], _⟩) (by kernel_rfl) (fun j hj => by simp at hj) (by kernel_rfl) (fun _ _ _ _ _ h => h) (Ys.cons rfl (Or.inl ⟨by rfl, fun W1 hW1 => by first | rfl | (go_simp; done) | (go_simp; with_reducible rfl)⟩) (Ys.cons rfl (Or.inl ⟨by rfl, fun W1 hW1 => by have c := (D4.out.call hW1).cells.2.2.2.1; go_simp⟩) (Ys.cons rfl (Or.inl ⟨by rfl, fun W1 hW1 => exec_load (ty := 23) (x := .tmp 3) rfl rfl (run_loadAt_blk _ _ _ _ _ _ (D4.out.1.call hW1) Try.underlying23 rfl (by first | kernel_rfl | exact info_num _))⟩) (Ys.cons rfl (Or.inl ⟨by rfl, fun W1 hW1 => by first | rfl | (go_simp; done) | (go_simp; with_reducible rfl)⟩) (Ys.nil))))) (S0) (by rfl) (by rfl) ?_
      refine anyG_one (k := 4) (by kernel_rfl) rfl (by rfl) (fun Q2 hQ2 => ?_); go_wp2_with (go_at_call 47; refine (HBo.out _).mono ?_; rintro e v5 ⟨rfl, hb5⟩); refine hQ2 _ _ (fun _ => S0.trans (hb5.mono S0.size)) ?_; clear hQ2 Q2
      have S5 := S0.trans (hb5.mono S0.size)
      refine anyG_one (k := 5) (by kernel_rfl) rfl (by rfl) (fun Q2 hQ2 => ?_); go_wp2_with fail; refine hQ2 _ _ (fun _ => S5) ?_; clear hQ2 Q2
      refine anyG_takes (is := [6, 7, 8, 9, 10]) (vs := [_, undef, undef, undef, undef]) (m := 3) (listed2 := #[true, true, true, true, true, true, true, true, true, true, true, false, false, false]) (a2 := ⟨#[_, _, _, _, _, _, _, _, _, _, _, _, _, _, _, _, _, _, _, _, _, _, _, _, _, _, _, _, _, _, _, _, _, _, _, _, _, _, _, _, _, _, _, _, _, _, _, _, _, _, _, _, _, _, _, _, _, _, _, _, _, _, _, _, _, _, _], _⟩) (by kernel_rfl) (fun j hj => by simp at hj) (by kernel_rfl) (fun _ _ _ _ _ h => h) (Ys.cons rfl (Or.inl ⟨by rfl, fun W1 hW1 => by first | rfl | (go_simp; done) | (go_simp; with_reducible rfl)⟩) (Ys.cons rfl (Or.inr ⟨by rfl, rfl⟩) (Ys.cons rfl (Or.inr ⟨by rfl, rfl⟩) (Ys.cons rfl (Or.inr ⟨by rfl, rfl⟩) (Ys.cons rfl (Or.inr ⟨by rfl, rfl⟩) (Ys.nil)))))) (S5) (by rfl) (by rfl) ?_
      refine anyG_takes (is := [11, 12, 13]) (vs := [undef, _, _]) (m := 0) (listed2 := #[true, true, true, true, true, true, true, true, true, true, true, true, true, true]) (a2 := ⟨#[_, _, _, _, _, _, _, _, _, _, _, _, _, _, _, _, _, _, _, _, _, _, _, _, _, _, _, _, _, _, _, _, _, _, _, _, _, _, _, _, _, _, _, _, _, _, _, _, _, _, _, _, _, _, _, _, _, _, _, _, _, _, _, _, _, _, _], _⟩) (by kernel_rfl) (fun j hj => by simp at hj) (by kernel_rfl) (fun _ _ _ _ _ h => h) (Ys.cons rfl (Or.inr ⟨by rfl, rfl⟩) (Ys.cons rfl (Or.inl ⟨by rfl, fun W1 hW1 => by first | rfl | (go_simp; done) | (go_simp; with_reducible rfl)⟩) (Ys.cons rfl (Or.inl ⟨by rfl, fun W1 hW1 => by first | rfl | (go_simp; done) | (go_simp; with_reducible rfl)⟩) (Ys.nil)))) (S5) (by rfl) (by rfl) ?_
      refine anyG_done (by kernel_rfl) ?_ _
      have D6 := Lib.hid (D4.out.call S5)
      go_wp2
      go_ret
      exact ⟨ret_int HE.out.symm, D6.out.2.2⟩
  · have d3 : (a.want != RW) = true := by simpa using k3
    have HE := Lib.hid (show RQ = 3 from HQ3.out.trans (if_pos k3))
    clear k3
    go_wp2
    go_ret
    exact ⟨ret_int HE.out.symm, D4.out.2.2⟩
end Go.Proofs.Ytjodpffdlggjgaa
/- The reference's Rule: the walk. (fast region) -/
namespace Go.Proofs.Ytjodpffdlggjgaa
open Go.RowKit
set_option linter.unusedSimpArgs false
set_option linter.unusedVariables false
set_option maxHeartbeats 8000000
set_option maxRecDepth 100000
theorem polHas_ok {p : Pol} {n : Int} (hk : p.okP) : polHas p n = (decide (p.min ≤ n) && decide (n ≤ p.max)) := by unfold polHas; rw [Bool.eq_iff_iff]; simp [hk]
theorem whyOk_no (a : Adv) (now : Int) : whyOk a now = false ↔ (a.why = 2 ∧ a.repl ≤ now) ∨ (a.why = 3 ∧ now ≤ a.repl) ∨ (a.why = 1 ∧ a.repl ≠ now) := by
  unfold whyOk
  split
  · simp; omega
  · split
    · simp; omega
    · split
      · simp; omega
      · simp; omega
theorem ref48_Rule (p : Pol) (A : Option Addr) (len cap : Nat) (past : List Adv) (a : Adv) (w : World) (hp : p.fit) (ha : a.good) (hs : AdvsAre w A len cap past) (hn : len ≤ 1000) :
    Calls Try.prog 13 #[(.agg #[.int .i64 p.min, .int .i64 p.max, .int .i64 p.target, .int .i64 p.tol, .int .i64 p.window, .int .i64 p.hold]), .slice A len cap, .agg a.row] w fun e w' => e = .returned (.int .i64 (ruleq p past a)) ∧ Below w.heap.size w w' := by
  have HS := Lib.hid hs
  have D0 := Lib.hid (DA.start w p a)
  have HQ := Lib.hid (show ruleq p past a = if a.why < 1 then 1 else if 6 < a.why then 1 else if polHas p a.repl = false then 2 else if a.want ≠ rawq p a.load (nowq p past) then 3
    else if a.repl ≠ boundq p (steadyq p a.tick a.want past).1 then 4 else if (steadyq p a.tick a.want past).2 ≠ decide (a.why = 4) then 4
    else if whyOk a (nowq p past) = false then 5 else 0 from rfl)
  have HNo := Lib.hid (fun W hW => ref16_Now p A len cap past W hW hn)
  have HSt := Lib.hid (fun W hW => ref15_Of p a.tick a.want A len cap past W hp hW hn ha.1)
  have HRi := Lib.hid (fun W => ref_Right p W)
  have HOp := Lib.hid (fun W => ref_Open p a.load (nowq p past) W hp ha.2.1)
  have HB1 := Lib.hid (fun W => ref_Bound p (openq p a.load (nowq p past)) W)
  have HRo := raw_open2 p a.load (nowq p past)
  rw [← HRo] at HB1
  have HW := Lib.hid (whyOk_no a (nowq p past))
  clear HRo
  generalize ruleq p past a = RQ at *
  generalize nowq p past = NW at *
  generalize steadyq p a.tick a.want past = SQ at *
  obtain ⟨sn, sh⟩ := SQ
  dsimp only at HSt HQ
  have HB2 := Lib.hid (fun W => ref_Bound p sn W)
  generalize boundq p sn = BO at *
  generalize whyOk a NW = WY at *
  generalize rawq p a.load NW = RW at *
  generalize openq p a.load NW = OP at *
  clear hs hp ha
  obtain ⟨c0, c1, c2, c3, c4, c5, c6⟩ := D0.out.cells
  by_cases k1 : a.why < 1
  · have HE := Lib.hid (show RQ = 1 by rw [HQ.out, if_pos k1])
    go_enter Try.func13, Try.ntmps13
    go_wp2
    go_ret
    exact ⟨ret_int HE.out.symm, D0.out.2.2⟩
  have d1 : decide (a.why < 1) = false := by simpa using k1
  by_cases k2 : 6 < a.why
  · have HE := Lib.hid (show RQ = 1 by rw [HQ.out, if_neg k1, if_pos k2])
    go_enter Try.func13, Try.ntmps13
    go_wp2
    go_ret
    exact ⟨ret_int HE.out.symm, D0.out.2.2⟩
  have d2 : decide (6 < a.why) = false := by simpa using k2
  have HQ2 := Lib.hid (HQ.out.trans ((if_neg k1).trans (if_neg k2)))
  have K1 := Lib.hid k1
  clear HQ k1 k2
  go_enter Try.func13, Try.ntmps13
  go_wp2_with (refine Blk.load rfl 23 (.tmp 3) rfl w.heap.size _ _ _ rfl D0.out.1 Try.underlying23 rfl (by kernel_rfl) ?_)
  refine (HRi.out _).mono ?_
  rintro e v3 ⟨rfl, hb3⟩
  have D3 := Lib.hid (D0.out.call hb3)
  clear hb3 c0 c1 c2 c3 c4 c5 c6 d1 d2
  obtain ⟨c0, c1, c2, c3, c4, c5, c6⟩ := D3.out.cells
  by_cases hk : p.okP
  rotate_left
  · have HE := Lib.hid (show RQ = 2 from HQ2.out.trans (if_pos (by unfold polHas; simp [hk])))
    have dp : polOk p = false := polOk_false hk
    clear hk
    go_wp2
    go_ret
    exact ⟨ret_int HE.out.symm, D3.out.2.2⟩
  have dp : polOk p = true := polOk_true hk
  rw [polHas_ok hk] at HQ2
  by_cases m1 : a.repl < p.min
  · have HE := Lib.hid (show RQ = 2 from HQ2.out.trans (if_pos (by simp; omega)))
    have dm : decide (a.repl < p.min) = true := by simpa using m1
    clear hk m1
    go_wp2
    go_ret
    exact ⟨ret_int HE.out.symm, D3.out.2.2⟩
  have dm : decide (a.repl < p.min) = false := by simpa using m1
  by_cases m2 : p.max < a.repl
  · have HE := Lib.hid (show RQ = 2 from HQ2.out.trans (if_pos (by simp; omega)))
    have dm2 : decide (p.max < a.repl) = true := by simpa using m2
    clear hk m1 m2
    go_wp2
    go_ret
    exact ⟨ret_int HE.out.symm, D3.out.2.2⟩
  have dm2 : decide (p.max < a.repl) = false := by simpa using m2
  have HQ3 := Lib.hid (HQ2.out.trans (if_neg (by simp; omega)))
  clear HQ2 hk m1 m2
  go_wp2_with (refine Blk.load rfl 23 (.tmp 3) rfl w.heap.size _ _ _ rfl D3.out.1 Try.underlying23 rfl (by kernel_rfl) ?_)
  refine (HNo.out _ (slice_keep HS.out D3.out.2.2)).mono ?_
  rintro e v4 ⟨rfl, hb4⟩
  have D4 := Lib.hid (D3.out.call hb4)
  clear hb4 c0 c1 c2 c3 c4 c5 c6 dp dm dm2
  go_upto_region 6 with (fail)
  refine wp_region_any (by kernel_rfl) ?_; change wpAny _ _ _ _ _ _ _ (World.drew v4); refine any_of_anyG (late := fun _ => false) (S := fun wS => Below v4.heap.size v4 wS) _ _ _ _ ?_
  have S0 := (Below.refl v4.heap.size v4).drew
  refine anyG_takes (is := [0, 1, 2, 3, 4]) (vs := [_, .int .i64 a.want, _, _, _]) (m := 5) (listed2 := #[true, true, true, true, true, false, false, false, false, false]) (a2 := ⟨#[_, _, _, _, _, _, _, _, _, _, _, _, _, _, _, _, _, _, _, _, _, _, _, _, _, _, _, _, _, _, _, _, _, _, _, _, _, _, _, _, _, _, _, _, _, _, _, _, _, _, _, _, _, _, _, _, _, _, _, _, _, _, _, _, _, _, _, _, _, _, _, _, _, _, _, _, _, _, _, _, _, _, _, _, _, _, _, _, _, _, _, _, _, _, _, _, _, _, _, _, _, _], _⟩) (by kernel_rfl) (fun j hj => by simp at hj) (by kernel_rfl) (fun _ _ _ _ _ h => h) (Ys.cons rfl (Or.inl ⟨by rfl, fun W1 hW1 => by first | rfl | (go_simp; done) | (go_simp; with_reducible rfl)⟩) (Ys.cons rfl (Or.inl ⟨by rfl, fun W1 hW1 => by have c := (D4.out.call hW1).cells.2.2.1; go_simp⟩) (Ys.cons rfl (Or.inl ⟨by rfl, fun W1 hW1 => exec_load (ty := 23) (x := .tmp 3) rfl rfl (run_loadAt_blk _ _ _ _ _ _ (D4.out.1.call hW1) Try.underlying23 rfl (by first | kernel_rfl | exact info_num _))⟩) (Ys.cons rfl (Or.inl ⟨by rfl, fun W1 hW1 => exec_load (ty := 23) (x := .tmp 3) rfl rfl (run_loadAt_blk _ _ _ _ _ _ (D4.out.1.call hW1) Try.underlying23 rfl (by first | kernel_rfl | exact info_num _))⟩) (Ys.cons rfl (Or.inl ⟨by rfl, fun W1 hW1 => by first | rfl | (go_simp; done) | (go_simp; with_reducible rfl)⟩) (Ys.nil)))))) (S0) (by rfl) (by rfl) ?_
  refine anyG_takes (is := [5, 6]) (vs := [.int .i64 a.load, _]) (m := 3) (listed2 := #[true, true, true, true, true, true, true, false, false, false]) (a2 := ⟨#[_, _, _, _, _, _, _, _, _, _, _, _, _, _, _, _, _, _, _, _, _, _, _, _, _, _, _, _, _, _, _, _, _, _, _, _, _, _, _, _, _, _, _, _, _, _, _, _, _, _, _, _, _, _, _, _, _, _, _, _, _, _, _, _, _, _, _, _, _, _, _, _, _, _, _, _, _, _, _, _, _, _, _, _, _, _, _, _, _, _, _, _, _, _, _, _, _, _, _, _, _, _], _⟩) (by kernel_rfl) (fun j hj => by simp at hj) (by kernel_rfl) (fun _ _ _ _ _ h => h) (Ys.cons rfl (Or.inl ⟨by rfl, fun W1 hW1 => by have c := (D4.out.call hW1).cells.2.1; go_simp⟩) (Ys.cons rfl (Or.inl ⟨by rfl, fun W1 hW1 => by first | rfl | (go_simp; done) | (go_simp; with_reducible rfl)⟩) (Ys.nil))) (S0) (by rfl) (by rfl) ?_
  refine anyG_one (k := 7) (by kernel_rfl) rfl (by rfl) (fun Q2 hQ2 => ?_); go_wp2_with (go_at_call 52; refine (HOp.out _).mono ?_; rintro e v5 ⟨rfl, hb5⟩); refine hQ2 _ _ (fun _ => S0.trans (hb5.mono S0.size)) ?_; clear hQ2 Q2
  have S5 := S0.trans (hb5.mono S0.size)
  refine anyG_one (k := 8) (by kernel_rfl) rfl (by rfl) (fun Q2 hQ2 => ?_); go_wp2_with (go_at_call 51; refine (HB1.out _).mono ?_; rintro e v6 ⟨rfl, hb6⟩); refine hQ2 _ _ (fun _ => S5.trans (hb6.mono S5.size)) ?_; clear hQ2 Q2
  have S6 := S5.trans (hb6.mono S5.size)
  refine anyG_one (k := 9) (by kernel_rfl) rfl (by rfl) (fun Q2 hQ2 => ?_); go_wp2_with fail; refine hQ2 _ _ (fun _ => S6) ?_; clear hQ2 Q2
  refine anyG_done (by kernel_rfl) ?_ _
  have D6 := Lib.hid (D4.out.call S6)
  obtain ⟨c0, c1, c2, c3, c4, c5, c6⟩ := D6.out.cells
  by_cases k3 : a.want = RW
  rotate_left
  · have d3 : (a.want != RW) = true := by simpa using k3
    have HE := Lib.hid (show RQ = 3 from HQ3.out.trans (if_pos k3))
    clear k3
    go_wp2
    go_ret
    exact ⟨ret_int HE.out.symm, D6.out.2.2⟩
  have d3 : (a.want != RW) = false := by simpa using k3
  have HQ4 := Lib.hid (HQ3.out.trans (if_neg (fun h => h k3)))
  clear HQ3 k3
  go_wp2_with (refine Blk.load rfl 23 (.tmp 3) rfl w.heap.size _ _ _ rfl D6.out.1 Try.underlying23 rfl (by kernel_rfl) ?_)
  refine (HSt.out _ (slice_keep HS.out D6.out.2.2)).mono ?_
  rintro e v7 ⟨rfl, hb7⟩
  have D7 := Lib.hid (D6.out.call hb7)
  clear hb7 c0 c1 c2 c3 c4 c5 c6 d3
  by_cases k4 : a.repl = BO
  rotate_left
  · have d4 : (a.repl != BO) = true := by simpa using k4
    have HE := Lib.hid (HQ4.out.trans (if_pos k4))
    clear HQ4 k4
    go_upto_region 9 with (fail)
    refine wp_region_any (by kernel_rfl) ?_; change wpAny _ _ _ _ _ _ _ (World.drew v7); refine any_of_anyG (late := fun _ => false) (S := fun wS => Below v7.heap.size v7 wS) _ _ _ _ ?_
    have S0 := (Below.refl v7.heap.size v7).drew
    refine anyG_takes (is := [0, 1, 2, 3]) (vs := [_, .int .i64 a.repl, _, _]) (m := 9) (listed2 := #[true, true, true, true, false, false, false, false, false, false, false, false, false]) (a2 := ⟨#[_, _, _, _, _, _, _, _, _, _, _, _, _, _, _, _, _, _, _, _, _, _, _, _, _, _, _, _, _, _, _, _, _, _, _, _, _, _, _, _, _, _, _, _, _, _, _, _, _, _, _, _, _, _, _, _, _, _, _, _, _, _, _, _, _, _, _, _, _, _, _, _, _, _, _, _, _, _, _, _, _, _, _, _, _, _, _, _, _, _, _, _, _, _, _, _, _, _, _, _, _, _], _⟩) (by kernel_rfl) (fun j hj => by simp at hj) (by kernel_rfl) (fun _ _ _ _ _ h => h) (Ys.cons rfl (Or.inl ⟨by rfl, fun W1 hW1 => by first | rfl | (go_simp; done) | (go_simp; with_reducible rfl)⟩) (Ys.cons rfl (Or.inl ⟨by rfl, fun W1 hW1 => by have c := (D7.out.call hW1).cells.2.2.2.1; go_simp⟩) (Ys.cons rfl (Or.inl ⟨by rfl, fun W1 hW1 => exec_load (ty := 23) (x := .tmp 3) rfl rfl (run_loadAt_blk _ _ _ _ _ _ (D7.out.1.call hW1) Try.underlying23 rfl (by first | kernel_rfl | exact info_num _))⟩) (Ys.cons rfl (Or.inl ⟨by rfl, fun W1 hW1 => by first | rfl | (go_simp; done) | (go_simp; with_reducible rfl)⟩) (Ys.nil))))) (S0) (by rfl) (by rfl) ?_
    refine anyG_one (k := 4) (by kernel_rfl) rfl (by rfl) (fun Q2 hQ2 => ?_); go_wp2_with (go_at_call 51; refine (HB2.out _).mono ?_; rintro e v8 ⟨rfl, hb8⟩); refine hQ2 _ _ (fun _ => S0.trans (hb8.mono S0.size)) ?_; clear hQ2 Q2
    have S8 := S0.trans (hb8.mono S0.size)
    refine anyG_one (k := 5) (by kernel_rfl) rfl (by rfl) (fun Q2 hQ2 => ?_); go_wp2_with fail; refine hQ2 _ _ (fun _ => S8) ?_; clear hQ2 Q2
    refine anyG_takes (is := [6, 7, 8, 9, 10]) (vs := [_, undef, undef, undef, undef]) (m := 2) (listed2 := #[true, true, true, true, true, true, true, true, true, true, true, false, false]) (a2 := ⟨#[_, _, _, _, _, _, _, _, _, _, _, _, _, _, _, _, _, _, _, _, _, _, _, _, _, _, _, _, _, _, _, _, _, _, _, _, _, _, _, _, _, _, _, _, _, _, _, _, _, _, _, _, _, _, _, _, _, _, _, _, _, _, _, _, _, _, _, _, _, _, _, _, _, _, _, _, _, _, _, _, _, _, _, _, _, _, _, _, _, _, _, _, _, _, _, _, _, _, _, _, _, _], _⟩) (by kernel_rfl) (fun j hj => by simp at hj) (by kernel_rfl) (fun _ _ _ _ _ h => h) (Ys.cons rfl (Or.inl ⟨by rfl, fun W1 hW1 => by first | rfl | (go_simp; done) | (go_simp; with_reducible rfl)⟩) (Ys.cons rfl (Or.inr ⟨by rfl, rfl⟩) (Ys.cons rfl (Or.inr ⟨by rfl, rfl⟩) (Ys.cons rfl (Or.inr ⟨by rfl, rfl⟩) (Ys.cons rfl (Or.inr ⟨by rfl, rfl⟩) (Ys.nil)))))) (S8) (by rfl) (by rfl) ?_
    refine anyG_takes (is := [11, 12]) (vs := [undef, _]) (m := 0) (listed2 := #[true, true, true, true, true, true, true, true, true, true, true, true, true]) (a2 := ⟨#[_, _, _, _, _, _, _, _, _, _, _, _, _, _, _, _, _, _, _, _, _, _, _, _, _, _, _, _, _, _, _, _, _, _, _, _, _, _, _, _, _, _, _, _, _, _, _, _, _, _, _, _, _, _, _, _, _, _, _, _, _, _, _, _, _, _, _, _, _, _, _, _, _, _, _, _, _, _, _, _, _, _, _, _, _, _, _, _, _, _, _, _, _, _, _, _, _, _, _, _, _, _], _⟩) (by kernel_rfl) (fun j hj => by simp at hj) (by kernel_rfl) (fun _ _ _ _ _ h => h) (Ys.cons rfl (Or.inr ⟨by rfl, rfl⟩) (Ys.cons rfl (Or.inl ⟨by rfl, fun W1 hW1 => by first | rfl | (go_simp; done) | (go_simp; with_reducible rfl)⟩) (Ys.nil))) (S8) (by rfl) (by rfl) ?_
    refine anyG_done (by kernel_rfl) ?_ _
    have D8 := Lib.hid (D7.out.call S8)
    go_wp2
    go_ret
    exact ⟨ret_int HE.out.symm, D8.out.2.2⟩
  have d4 : (a.repl != BO) = false := by simpa using k4
  have HQ5 := Lib.hid (HQ4.out.trans (if_neg (fun h => h k4)))
  have d5 : (a.why == 4) = decide (a.why = 4) := by rw [Bool.eq_iff_iff]; simp
  clear HQ4 k4
  go_upto_region 9 with (fail)
  refine wp_region_any (by kernel_rfl) ?_; change wpAny _ _ _ _ _ _ _ (World.drew v7); refine any_of_anyG (late := fun _ => false) (S := fun wS => Below v7.heap.size v7 wS) _ _ _ _ ?_
  have S0 := (Below.refl v7.heap.size v7).drew
  refine anyG_takes (is := [0, 1, 2, 3]) (vs := [_, .int .i64 a.repl, _, _]) (m := 9) (listed2 := #[true, true, true, true, false, false, false, false, false, false, false, false, false]) (a2 := ⟨#[_, _, _, _, _, _, _, _, _, _, _, _, _, _, _, _, _, _, _, _, _, _, _, _, _, _, _, _, _, _, _, _, _, _, _, _, _, _, _, _, _, _, _, _, _, _, _, _, _, _, _, _, _, _, _, _, _, _, _, _, _, _, _, _, _, _, _, _, _, _, _, _, _, _, _, _, _, _, _, _, _, _, _, _, _, _, _, _, _, _, _, _, _, _, _, _, _, _, _, _, _, _], _⟩) (by kernel_rfl) (fun j hj => by simp at hj) (by kernel_rfl) (fun _ _ _ _ _ h => h) (Ys.cons rfl (Or.inl ⟨by rfl, fun W1 hW1 => by first | rfl | (go_simp; done) | (go_simp; with_reducible rfl)⟩) (Ys.cons rfl (Or.inl ⟨by rfl, fun W1 hW1 => by have c := (D7.out.call hW1).cells.2.2.2.1; go_simp⟩) (Ys.cons rfl (Or.inl ⟨by rfl, fun W1 hW1 => exec_load (ty := 23) (x := .tmp 3) rfl rfl (run_loadAt_blk _ _ _ _ _ _ (D7.out.1.call hW1) Try.underlying23 rfl (by first | kernel_rfl | exact info_num _))⟩) (Ys.cons rfl (Or.inl ⟨by rfl, fun W1 hW1 => by first | rfl | (go_simp; done) | (go_simp; with_reducible rfl)⟩) (Ys.nil))))) (S0) (by rfl) (by rfl) ?_
  refine anyG_one (k := 4) (by kernel_rfl) rfl (by rfl) (fun Q2 hQ2 => ?_); go_wp2_with (go_at_call 51; refine (HB2.out _).mono ?_; rintro e v8 ⟨rfl, hb8⟩); refine hQ2 _ _ (fun _ => S0.trans (hb8.mono S0.size)) ?_; clear hQ2 Q2
  have S8 := S0.trans (hb8.mono S0.size)
  refine anyG_one (k := 5) (by kernel_rfl) rfl (by rfl) (fun Q2 hQ2 => ?_); go_wp2_with fail; refine hQ2 _ _ (fun _ => S8) ?_; clear hQ2 Q2
  refine anyG_takes (is := [6, 7, 8, 9]) (vs := [_, _, _, .int .i64 a.why]) (m := 3) (listed2 := #[true, true, true, true, true, true, true, true, true, true, false, false, false]) (a2 := ⟨#[_, _, _, _, _, _, _, _, _, _, _, _, _, _, _, _, _, _, _, _, _, _, _, _, _, _, _, _, _, _, _, _, _, _, _, _, _, _, _, _, _, _, _, _, _, _, _, _, _, _, _, _, _, _, _, _, _, _, _, _, _, _, _, _, _, _, _, _, _, _, _, _, _, _, _, _, _, _, _, _, _, _, _, _, _, _, _, _, _, _, _, _, _, _, _, _, _, _, _, _, _, _], _⟩) (by kernel_rfl) (fun j hj => by simp at hj) (by kernel_rfl) (fun _ _ _ _ _ h => h) (Ys.cons rfl (Or.inl ⟨by rfl, fun W1 hW1 => by first | rfl | (go_simp; done) | (go_simp; with_reducible rfl)⟩) (Ys.cons rfl (Or.inl ⟨by rfl, fun W1 hW1 => by first | rfl | (go_simp; done) | (go_simp; with_reducible rfl)⟩) (Ys.cons rfl (Or.inl ⟨by rfl, fun W1 hW1 => by first | rfl | (go_simp; done) | (go_simp; with_reducible rfl)⟩) (Ys.cons rfl (Or.inl ⟨by rfl, fun W1 hW1 => by have c := (D7.out.call hW1).cells.2.2.2.2.1; go_simp⟩) (Ys.nil))))) (S8) (by rfl) (by rfl) ?_
  refine anyG_one (k := 10) (by kernel_rfl) rfl (by rfl) (fun Q2 hQ2 => ?_); go_wp2_with fail; refine hQ2 _ _ (fun _ => S8) ?_; clear hQ2 Q2
  refine anyG_one (k := 11) (by kernel_rfl) rfl (by rfl) (fun Q2 hQ2 => ?_); go_wp2_with fail; refine hQ2 _ _ (fun _ => S8) ?_; clear hQ2 Q2
  refine anyG_takes (is := [12]) (vs := [_]) (m := 0) (listed2 := #[true, true, true, true, true, true, true, true, true, true, true, true, true]) (a2 := ⟨#[_, _, _, _, _, _, _, _, _, _, _, _, _, _, _, _, _, _, _, _, _, _, _, _, _, _, _, _, _, _, _, _, _, _, _, _, _, _, _, _, _, _, _, _, _, _, _, _, _, _, _, _, _, _, _, _, _, _, _, _, _, _, _, _, _, _, _, _, _, _, _, _, _, _, _, _, _, _, _, _, _, _, _, _, _, _, _, _, _, _, _, _, _, _, _, _, _, _, _, _, _, _], _⟩) (by kernel_rfl) (fun j hj => by simp at hj) (by kernel_rfl) (fun _ _ _ _ _ h => h) (Ys.cons rfl (Or.inl ⟨by rfl, fun W1 hW1 => by first | rfl | (go_simp; done) | (go_simp; with_reducible rfl)⟩) (Ys.nil)) (S8) (by rfl) (by rfl) ?_
  refine anyG_done (by kernel_rfl) ?_ _
  have D8 := Lib.hid (D7.out.call S8)
  obtain ⟨c0, c1, c2, c3, c4, c5, c6⟩ := D8.out.cells
  clear d5
  generalize hB : (!sh == decide (a.why = 4)) = Bx
  cases Bx
  rotate_left
  · have k5 : sh ≠ decide (a.why = 4) := by revert hB; cases sh <;> cases decide (a.why = 4) <;> decide
    have HE := Lib.hid (HQ5.out.trans (if_pos k5))
    clear HQ5 k5 hB
    go_wp2
    go_ret
    exact ⟨ret_int HE.out.symm, D8.out.2.2⟩
  have k5 : sh = decide (a.why = 4) := by revert hB; cases sh <;> cases decide (a.why = 4) <;> decide
  have HQ6 := Lib.hid (HQ5.out.trans (if_neg (fun h => h k5)))
  clear HQ5 k5 hB
  by_cases n2 : a.why = 2
  · have e2 : (a.why == 2) = true := by simpa using n2
    have e3 : (a.why == 3) = false := by simp; omega
    have e1 : (a.why == 1) = false := by simp; omega
    by_cases n : a.repl ≤ NW
    · have HE := Lib.hid (HQ6.out.trans (if_pos (HW.out.2 (.inl ⟨n2, n⟩))))
      have en : decide (a.repl ≤ NW) = true := by simpa using n
      clear n n2
      go_wp2
      go_ret
      exact ⟨ret_int HE.out.symm, D8.out.2.2⟩
    · have HE := Lib.hid (HQ6.out.trans (if_neg (fun h => by rcases HW.out.1 h with h | h | h <;> omega)))
      have en : decide (a.repl ≤ NW) = false := by simpa using n
      clear n n2
      go_wp2
      go_ret
      exact ⟨ret_int HE.out.symm, D8.out.2.2⟩
  have e2 : (a.why == 2) = false := by simpa using n2
  by_cases n3 : a.why = 3
  · have e3 : (a.why == 3) = true := by simpa using n3
    have e1 : (a.why == 1) = false := by simp; omega
    by_cases n : NW ≤ a.repl
    · have HE := Lib.hid (HQ6.out.trans (if_pos (HW.out.2 (.inr (.inl ⟨n3, n⟩)))))
      have en : decide (NW ≤ a.repl) = true := by simpa using n
      clear n n2 n3
      go_wp2
      go_ret
      exact ⟨ret_int HE.out.symm, D8.out.2.2⟩
    · have HE := Lib.hid (HQ6.out.trans (if_neg (fun h => by rcases HW.out.1 h with h | h | h <;> omega)))
      have en : decide (NW ≤ a.repl) = false := by simpa using n
      clear n n2 n3
      go_wp2
      go_ret
      exact ⟨ret_int HE.out.symm, D8.out.2.2⟩
  have e3 : (a.why == 3) = false := by simpa using n3
  by_cases n1 : a.why = 1
  · have e1 : (a.why == 1) = true := by simpa using n1
    by_cases n : a.repl = NW
    · have HE := Lib.hid (HQ6.out.trans (if_neg (fun h => by rcases HW.out.1 h with h | h | h <;> omega)))
      have en : (a.repl != NW) = false := by simpa using n
      clear n n2 n3 n1
      go_wp2
      go_ret
      exact ⟨ret_int HE.out.symm, D8.out.2.2⟩
    · have HE := Lib.hid (HQ6.out.trans (if_pos (HW.out.2 (.inr (.inr ⟨n1, n⟩)))))
      have en : (a.repl != NW) = true := by simpa using n
      clear n n2 n3 n1
      go_wp2
      go_ret
      exact ⟨ret_int HE.out.symm, D8.out.2.2⟩
  · have HE := Lib.hid (HQ6.out.trans (if_neg (fun h => by rcases HW.out.1 h with h | h | h <;> omega)))
    have e1 : (a.why == 1) = false := by simpa using n1
    clear n1 n2 n3
    go_wp2
    go_ret
    exact ⟨ret_int HE.out.symm, D8.out.2.2⟩
end Go.Proofs.Ytjodpffdlggjgaa
/- Chapter 48's laws: awake, AuditRules. (fast region) -/
namespace Go.Proofs.Ytjodpffdlggjgaa
open Go.RowKit
set_option linter.unusedSimpArgs false
set_option linter.unusedVariables false
set_option maxHeartbeats 8000000
set_option maxRecDepth 100000
def zPol : Pol := ⟨0, 0, 0, 0, 0, 0⟩
theorem zPol_fit : zPol.fit := by unfold Pol.fit zPol I64; simp
theorem rule_48 (w : World) : Calls Try.prog 12 #[.agg #[.int .i64 0, .int .i64 0, .int .i64 0, .int .i64 0, .int .i64 0, .int .i64 0], .slice none 0 0, .agg #[.int .i64 0, .int .i64 0, .int .i64 0, .int .i64 0, .int .i64 0]] w fun e w' => e = .returned (.int .i64 1) ∧ Below w.heap.size w w' := by
  have h := audit_Rule zPol none 0 0 [] ⟨0, 0, 0, 0, 0⟩ w zPol_fit (by unfold Adv.good I64; simp) (slice_nil _ _ _) (by omega)
  rw [show ruleq zPol [] ⟨0, 0, 0, 0, 0⟩ = 1 by decide +kernel] at h
  exact h
theorem awake48 (w : World) : Calls Try.prog 11 #[] w fun e w' => e = .returned (.bool true) ∧ Below w.heap.size w w' := by
  go_enter Try.func11, Try.ntmps11
  go_wp2_with fail
  refine (rule_48 _).mono ?_
  rintro e v1 ⟨rfl, hb1⟩
  have E1 := Lib.hid hb1
  clear hb1
  go_wp2
  go_ret
  exact ⟨rfl, E1.out⟩
theorem walk_AuditRules (a0 a1 a2 a3 a4 a5 : Int) (A : Option Addr) (len cap : Nat) (past : List Adv) (x0 x1 x2 x3 x4 : Int) (w : World) (h0 : I64 a0) (h1 : I64 a1) (h2 : I64 a2) (h3 : I64 a3) (h4 : I64 a4) (h5 : I64 a5) (hs : AdvsAre w A len cap past) (hg : ∀ x ∈ past, x.good) (g0 : I64 x0) (g1 : I64 x1) (g2 : I64 x2) (g3 : I64 x3) (g4 : I64 x4) :
    Calls Try.prog 3 #[.agg #[.int .i64 a0, .int .i64 a1, .int .i64 a2, .int .i64 a3, .int .i64 a4, .int .i64 a5], .slice A len cap, .agg #[.int .i64 x0, .int .i64 x1, .int .i64 x2, .int .i64 x3, .int .i64 x4]] w fun e w' => e = .returned (.bool true) ∧ Below w.heap.size w w' := by
  obtain ⟨p, rfl, rfl, rfl, rfl, rfl, rfl⟩ : ∃ p : Pol, a0 = p.min ∧ a1 = p.max ∧ a2 = p.target ∧ a3 = p.tol ∧ a4 = p.window ∧ a5 = p.hold := ⟨⟨a0, a1, a2, a3, a4, a5⟩, rfl, rfl, rfl, rfl, rfl, rfl⟩
  obtain ⟨a, rfl, rfl, rfl, rfl, rfl⟩ : ∃ a : Adv, x0 = a.tick ∧ x1 = a.load ∧ x2 = a.want ∧ x3 = a.repl ∧ x4 = a.why := ⟨⟨x0, x1, x2, x3, x4⟩, rfl, rfl, rfl, rfl, rfl⟩
  have HP := Lib.hid (show p.fit from ⟨h0, h1, h2, h3, h4, h5⟩)
  have HA := Lib.hid (show a.good from ⟨g0, g1, g2, g3, g4⟩)
  have HS := Lib.hid hs
  have D0 := Lib.hid (DA.start w p a)
  have hle : len ≤ cap := hs.2.1
  have hm : cap ≤ 9223372036854775807 := by have := hs.2.2.1; unfold maxLen at this; omega
  clear h0 h1 h2 h3 h4 h5 hs hg g0 g1 g2 g3 g4
  go_enter Try.func3, Try.ntmps3
  go_wp2_with fail
  refine (awake48 _).mono ?_
  rintro e v1 ⟨rfl, hb1⟩
  have D1 := Lib.hid (D0.out.call hb1)
  clear hb1
  by_cases hl : 60 < len
  · go_wp2
    go_ret
    exact ⟨rfl, D1.out.2.2⟩
  have HR1 := Lib.hid (fun W hW => audit_Rule p A len cap past a W HP.out HA.out hW (by omega))
  have HR2 := Lib.hid (fun W hW => ref48_Rule p A len cap past a W HP.out HA.out hW (by omega))
  generalize ruleq p past a = RQ at *
  go_upto_region 5 with (fail)
  refine wp_region_any (by kernel_rfl) ?_; change wpAny _ _ _ _ _ _ _ (World.drew v1); refine any_of_anyG (late := fun _ => false) (S := fun wS => Below v1.heap.size v1 wS) _ _ _ _ ?_
  have S0 := (Below.refl v1.heap.size v1).drew
  refine anyG_takes (is := [0, 1, 2, 4, 5]) (vs := [_, _, _, _, _]) (m := 5) (listed2 := #[true, true, true, false, true, true, false, false, false, false]) (a2 := ⟨#[_, _, _, _, _, _, _, _, _, _, _, _, _, _, _, _, _, _, _, _, _], _⟩) (by kernel_rfl) (fun j hj => by simp at hj) (by kernel_rfl) (fun _ _ _ _ _ h => h) (Ys.cons rfl (Or.inl ⟨by rfl, fun W1 hW1 => exec_load (ty := 23) (x := .tmp 3) rfl rfl (run_loadAt_blk _ _ _ _ _ _ (D1.out.1.call hW1) Try.underlying23 rfl (by first | kernel_rfl | exact info_num _))⟩) (Ys.cons rfl (Or.inl ⟨by rfl, fun W1 hW1 => by first | rfl | (go_simp; done) | (go_simp; with_reducible rfl)⟩) (Ys.cons rfl (Or.inl ⟨by rfl, fun W1 hW1 => exec_load (ty := 26) (x := .tmp 5) rfl rfl (run_loadAt_blk _ _ _ _ _ _ (D1.out.2.1.call hW1) Try.underlying26 rfl (by first | kernel_rfl | exact info_num _))⟩) (Ys.cons rfl (Or.inl ⟨by rfl, fun W1 hW1 => exec_load (ty := 23) (x := .tmp 3) rfl rfl (run_loadAt_blk _ _ _ _ _ _ (D1.out.1.call hW1) Try.underlying23 rfl (by first | kernel_rfl | exact info_num _))⟩) (Ys.cons rfl (Or.inl ⟨by rfl, fun W1 hW1 => by first | rfl | (go_simp; done) | (go_simp; with_reducible rfl)⟩) (Ys.nil)))))) (S0) (by rfl) (by rfl) ?_
  refine anyG_takes (is := [6]) (vs := [_]) (m := 4) (listed2 := #[true, true, true, false, true, true, true, false, false, false]) (a2 := ⟨#[_, _, _, _, _, _, _, _, _, _, _, _, _, _, _, _, _, _, _, _, _], _⟩) (by kernel_rfl) (fun j hj => by simp at hj) (by kernel_rfl) (fun _ _ _ _ _ h => h) (Ys.cons rfl (Or.inl ⟨by rfl, fun W1 hW1 => exec_load (ty := 26) (x := .tmp 5) rfl rfl (run_loadAt_blk _ _ _ _ _ _ (D1.out.2.1.call hW1) Try.underlying26 rfl (by first | kernel_rfl | exact info_num _))⟩) (Ys.nil)) (S0) (by rfl) (by rfl) ?_
  refine anyG_one (k := 3) (by kernel_rfl) rfl (by rfl) (fun Q2 hQ2 => ?_); go_wp2_with (go_at_call 12; refine (HR1.out _ (slice_keep HS.out (D1.out.2.2.trans (S0.mono D1.out.2.2.size)))).mono ?_; rintro e v4 ⟨rfl, hb4⟩); refine hQ2 _ _ (fun _ => S0.trans (hb4.mono S0.size)) ?_; clear hQ2 Q2
  have S4 := S0.trans (hb4.mono S0.size)
  refine anyG_one (k := 7) (by kernel_rfl) rfl (by rfl) (fun Q2 hQ2 => ?_); go_wp2_with (go_at_call 13; refine (HR2.out _ (slice_keep HS.out (D1.out.2.2.trans (S4.mono D1.out.2.2.size)))).mono ?_; rintro e v5 ⟨rfl, hb5⟩); refine hQ2 _ _ (fun _ => S4.trans (hb5.mono S4.size)) ?_; clear hQ2 Q2
  have S5 := S4.trans (hb5.mono S4.size)
  refine anyG_one (k := 8) (by kernel_rfl) rfl (by rfl) (fun Q2 hQ2 => ?_); go_wp2_with fail; refine hQ2 _ _ (fun _ => S5) ?_; clear hQ2 Q2
  refine anyG_takes (is := [9]) (vs := [_]) (m := 0) (listed2 := #[true, true, true, true, true, true, true, true, true, true]) (a2 := ⟨#[_, _, _, _, _, _, _, _, _, _, _, _, _, _, _, _, _, _, _, _, _], _⟩) (by kernel_rfl) (fun j hj => by simp at hj) (by kernel_rfl) (fun _ _ _ _ _ h => h) (Ys.cons rfl (Or.inl ⟨by rfl, fun W1 hW1 => by first | rfl | (go_simp; done) | (go_simp; with_reducible rfl)⟩) (Ys.nil)) (S5) (by rfl) (by rfl) ?_
  refine anyG_done (by kernel_rfl) ?_ _
  have D5 := Lib.hid (D1.out.call S5)
  go_wp2
  go_ret
  exact ⟨rfl, D5.out.2.2⟩
end Go.Proofs.Ytjodpffdlggjgaa
