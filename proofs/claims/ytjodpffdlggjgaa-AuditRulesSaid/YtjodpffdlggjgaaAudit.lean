/- Package audit and its reference: which rule a decision breaks. (fast region) -/
import Derived.Test.YtjodpffdlggjgaaDec4
import Derived.Test.YtjodpffdlggjgaaRegT
import Derived.Test.YtjodpffdlggjgaaRegL
namespace Go.Proofs.Ytjodpffdlggjgaa
open Go.RowKit
set_option linter.unusedSimpArgs false
set_option linter.unusedVariables false
set_option maxHeartbeats 4000000
set_option maxRecDepth 100000
def whyOk (a : Adv) (now : Int) : Bool := if a.why = 2 then decide (now < a.repl) else if a.why = 3 then decide (a.repl < now) else if a.why = 1 then a.repl == now else true
def polHas (p : Pol) (n : Int) : Bool := decide (p.okP ∧ p.min ≤ n ∧ n ≤ p.max)
def ruleq (p : Pol) (past : List Adv) (a : Adv) : Int :=
  if a.why < 1 then 1 else if 6 < a.why then 1 else if polHas p a.repl = false then 2 else if a.want ≠ rawq p a.load (nowq p past) then 3
  else if a.repl ≠ boundq p (steadyq p a.tick a.want past).1 then 4 else if (steadyq p a.tick a.want past).2 ≠ decide (a.why = 4) then 4
  else if whyOk a (nowq p past) = false then 5 else 0
abbrev Adv.row (a : Adv) : Array Value := #[.int .i64 a.tick, .int .i64 a.load, .int .i64 a.want, .int .i64 a.repl, .int .i64 a.why]
def DA (w wr : World) (p : Pol) (a : Adv) : Prop := Blk wr w.heap.size 23 p.row ∧ Blk wr (w.heap.size + 1) 26 a.row ∧ Below w.heap.size w wr
theorem DA.call {w wr w' : World} {p : Pol} {a : Adv} (h : DA w wr p a) (hb : Below wr.heap.size wr w') : DA w w' p a := ⟨h.1.call hb, h.2.1.call hb, h.2.2.trans (hb.mono h.2.2.size)⟩
theorem DA.start (w : World) (p : Pol) (a : Adv) : DA w ((w.alloc (.cells p.row 23)).alloc (.cells a.row 26)) p a :=
  ⟨(Blk.new w _ _).alloc _, Blk.new2 w _ _ _, by go_grown⟩
theorem DA.cells {w wr : World} {p : Pol} {a : Adv} (h : DA w wr p a) : wr.cell? ⟨w.heap.size + 1, 0, none⟩ = some (.int .i64 a.tick) ∧ wr.cell? ⟨w.heap.size + 1, 1, none⟩ = some (.int .i64 a.load) ∧ wr.cell? ⟨w.heap.size + 1, 2, none⟩ = some (.int .i64 a.want) ∧ wr.cell? ⟨w.heap.size + 1, 3, none⟩ = some (.int .i64 a.repl) ∧ wr.cell? ⟨w.heap.size + 1, 4, none⟩ = some (.int .i64 a.why) ∧ wr.cell? ⟨w.heap.size, 0, none⟩ = some (.int .i64 p.min) ∧ wr.cell? ⟨w.heap.size, 1, none⟩ = some (.int .i64 p.max) :=
  ⟨h.2.1.cellv rfl, h.2.1.cellv rfl, h.2.1.cellv rfl, h.2.1.cellv rfl, h.2.1.cellv rfl, h.1.cellv rfl, h.1.cellv rfl⟩
theorem audit_why (p : Pol) (a : Adv) (now : Int) (w : World) :
    Calls Try.prog 48 #[(.agg #[.int .i64 p.min, .int .i64 p.max, .int .i64 p.target, .int .i64 p.tol, .int .i64 p.window, .int .i64 p.hold]), .agg a.row, .int .i64 now] w fun e w' => e = .returned (.bool (whyOk a now)) ∧ Below w.heap.size w w' := by
  have HQ := Lib.hid (show whyOk a now = if a.why = 2 then decide (now < a.repl) else if a.why = 3 then decide (a.repl < now) else if a.why = 1 then a.repl == now else true from rfl)
  by_cases k2 : a.why = 2
  · have HE := Lib.hid (show whyOk a now = decide (now < a.repl) by rw [HQ.out, if_pos k2])
    have d2 : (a.why == 2) = true := by simpa using k2
    clear k2 HQ
    go_enter Try.func48, Try.ntmps48
    go_wp2
    go_ret
    exact ⟨ret_bool HE.out.symm, by go_grown⟩
  have d2 : (a.why == 2) = false := by simpa using k2
  by_cases k3 : a.why = 3
  · have HE := Lib.hid (show whyOk a now = decide (a.repl < now) by rw [HQ.out, if_neg k2, if_pos k3])
    have d3 : (a.why == 3) = true := by simpa using k3
    clear k2 k3 HQ
    go_enter Try.func48, Try.ntmps48
    go_wp2
    go_ret
    exact ⟨ret_bool HE.out.symm, by go_grown⟩
  have d3 : (a.why == 3) = false := by simpa using k3
  by_cases k1 : a.why = 1
  · have HE := Lib.hid (show whyOk a now = (a.repl == now) by rw [HQ.out, if_neg k2, if_neg k3, if_pos k1])
    have d1 : (a.why == 1) = true := by simpa using k1
    clear k1 k2 k3 HQ
    go_enter Try.func48, Try.ntmps48
    go_wp2
    go_ret
    exact ⟨ret_bool HE.out.symm, by go_grown⟩
  · have HE := Lib.hid (show whyOk a now = true by rw [HQ.out, if_neg k2, if_neg k3, if_neg k1])
    have d1 : (a.why == 1) = false := by simpa using k1
    clear k1 k2 k3 HQ
    go_enter Try.func48, Try.ntmps48
    go_wp2
    go_ret
    exact ⟨ret_bool HE.out.symm, by go_grown⟩
theorem polHas_eq (p : Pol) (n : Int) (b : Bool) (h : b = decide p.okP) : (b && decide (p.min ≤ n) && decide (n ≤ p.max)) = polHas p n := by
  subst h; unfold polHas; rw [Bool.eq_iff_iff]; simp [and_assoc]
theorem policy_Has (p : Pol) (n : Int) (w : World) :
    Calls Try.prog 45 #[(.agg #[.int .i64 p.min, .int .i64 p.max, .int .i64 p.target, .int .i64 p.tol, .int .i64 p.window, .int .i64 p.hold]), .int .i64 n] w fun e w' => e = .returned (.bool (polHas p n)) ∧ Below w.heap.size w w' := by
  by_cases hk : p.okP
  · have HC := Lib.hid (fun W => policy_Check p W)
    rw [polErr_ok hk] at HC
    have HE := Lib.hid (polHas_eq p n true (by simp [hk]))
    clear hk
    by_cases h1 : p.min ≤ n
    · have d1 : decide (p.min ≤ n) = true := by simpa using h1
      rw [d1] at HE
      go_enter Try.func45, Try.ntmps45
      go_wp2_with fail
      refine (HC.out _).mono ?_
      rintro e v1 ⟨rfl, hb1⟩
      have B1 := (Blk.new w 23 p.row).call hb1
      have E1 := Lib.hid (Below.trans (show Below w.heap.size w (w.alloc (.cells p.row 23)) by go_grown) (hb1.mono (by simp)))
      have c0 := B1.cellv (i := 0) (v := .int .i64 p.min) rfl
      have c1 := B1.cellv (i := 1) (v := .int .i64 p.max) rfl
      clear hb1 B1
      go_wp2
      go_ret
      exact ⟨ret_bool (by rw [← HE.out]; simp), E1.out⟩
    · have d1 : decide (p.min ≤ n) = false := by simpa using h1
      rw [d1] at HE
      go_enter Try.func45, Try.ntmps45
      go_wp2_with fail
      refine (HC.out _).mono ?_
      rintro e v1 ⟨rfl, hb1⟩
      have B1 := (Blk.new w 23 p.row).call hb1
      have E1 := Lib.hid (Below.trans (show Below w.heap.size w (w.alloc (.cells p.row 23)) by go_grown) (hb1.mono (by simp)))
      have c0 := B1.cellv (i := 0) (v := .int .i64 p.min) rfl
      clear hb1 B1
      go_wp2
      go_ret
      exact ⟨ret_bool (by rw [← HE.out]; simp), E1.out⟩
  · have HC := Lib.hid (fun W => policy_Check p W)
    rw [polErr_no hk] at HC
    have HE := Lib.hid (show polHas p n = false by unfold polHas; simp [hk])
    clear hk
    go_enter Try.func45, Try.ntmps45
    go_wp2_with fail
    refine (HC.out _).mono ?_
    rintro e v1 ⟨rfl, hb1⟩
    have E1 := Lib.hid (Below.trans (show Below w.heap.size w (w.alloc (.cells p.row 23)) by go_grown) (hb1.mono (by simp)))
    clear hb1
    go_wp2
    go_ret
    exact ⟨ret_bool HE.out.symm, E1.out⟩
end Go.Proofs.Ytjodpffdlggjgaa
