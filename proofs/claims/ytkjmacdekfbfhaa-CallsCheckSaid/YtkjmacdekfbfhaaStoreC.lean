/- What is wrong with a call, and with a configuration: both texts. (fast region) -/
import Derived.Test.YtkjmacdekfbfhaaIdent
import Derived.Test.YtkjmacdekfbfhaaPolicy
import Derived.Test.YtkjmacdekfbfhaaRoute
import Derived.Test.YtkjmacdekfbfhaaRegT
import Derived.Test.YtkjmacdekfbfhaaRegL
namespace Go.Proofs.Ytkjmacdekfbfhaa
open Go.RowKit
set_option linter.unusedSimpArgs false
set_option linter.unusedVariables false
set_option maxHeartbeats 4000000
set_option maxRecDepth 100000
def sErr (tick value : Int) : Int := if tick < 0 then 3 else if value < 0 then 4 else 0
theorem sErr_tick {t v : Int} (h : t < 0) : sErr t v = 3 := if_pos h
theorem sErr_value {t v : Int} (h : ¬ t < 0) (h2 : v < 0) : sErr t v = 4 := by unfold sErr; rw [if_neg h, if_pos h2]
theorem sErr_ok {t v : Int} (h : ¬ t < 0) (h2 : ¬ v < 0) : sErr t v = 0 := by unfold sErr; rw [if_neg h, if_neg h2]
theorem ser_Right (tick value : Int) (w : World) :
    Calls Try.prog 99 #[.int .i64 tick, .int .i64 value] w fun e w' => e = .returned (.int .i64 (sErr tick value)) ∧ w = w' := by
  by_cases h1 : tick < 0
  · rw [sErr_tick h1]
    go_enter Try.func99, Try.ntmps99
    go_wp2
    go_ret
    exact ⟨rfl, rfl⟩
  · by_cases h2 : value < 0
    · rw [sErr_value (by omega) h2]
      go_enter Try.func99, Try.ntmps99
      go_wp2
      go_ret
      exact ⟨rfl, rfl⟩
    · rw [sErr_ok (by omega) (by omega)]
      go_enter Try.func99, Try.ntmps99
      go_wp2
      go_ret
      exact ⟨rfl, rfl⟩
theorem r08_Right (tick value : Int) (w : World) :
    Calls Try.prog 104 #[.int .i64 tick, .int .i64 value] w fun e w' => e = .returned (.int .i64 (sErr tick value)) ∧ w = w' := by
  by_cases h1 : tick < 0
  · rw [sErr_tick h1]
    go_enter Try.func104, Try.ntmps104
    go_wp2
    go_ret
    exact ⟨rfl, rfl⟩
  · by_cases h2 : value < 0
    · rw [sErr_value (by omega) h2]
      go_enter Try.func104, Try.ntmps104
      go_wp2
      go_ret
      exact ⟨rfl, rfl⟩
    · rw [sErr_ok (by omega) (by omega)]
      go_enter Try.func104, Try.ntmps104
      go_wp2
      go_ret
      exact ⟨rfl, rfl⟩
structure Cfg where
  str : Int
  smp : Int
  lod : Int
  his : Int
abbrev Cfg.row (c : Cfg) : Array Value := #[.int .i64 c.str, .int .i64 c.smp, .int .i64 c.lod, .int .i64 c.his]
def Cfg.fit (c : Cfg) : Prop := I64 c.str ∧ I64 c.smp ∧ I64 c.lod ∧ I64 c.his
def Cfg.okC (c : Cfg) : Prop := rightq c.str = true ∧ 1 ≤ c.smp ∧ c.smp ≤ 256 ∧ 1 ≤ c.lod ∧ c.lod ≤ 256 ∧ 1 ≤ c.his ∧ c.his ≤ 64
instance (c : Cfg) : Decidable c.okC := by unfold Cfg.okC; infer_instance
def cfgErr (c : Cfg) : Int := if c.okC then 0 else 1
theorem node_Right (c : Cfg) (w : World) (hc : c.fit) :
    Calls Try.prog 59 #[.agg c.row] w fun e w' => e = .returned (.int .i64 (cfgErr c)) ∧ Below w.heap.size w w' := by
  cases hr : rightq c.str
  · have HE := Lib.hid (show cfgErr c = 1 from if_neg (by unfold Cfg.okC; rw [hr]; simp))
    have HC := Lib.hid (fun W => route_Right c.str W hc.1)
    rw [hr] at HC
    clear hr
    go_enter Try.func59, Try.ntmps59
    go_wp2_with (go_at_call 97; refine (HC.out _).mono ?_; rintro e w1 ⟨rfl, rfl⟩)
    go_ret
    exact ⟨ret_int HE.out.symm, by go_grown⟩
  · have HC := Lib.hid (fun W => route_Right c.str W hc.1)
    rw [hr] at HC
    have HE1 := Lib.hid (fun (h : c.smp < 1 ∨ 256 < c.smp ∨ c.lod < 1 ∨ 256 < c.lod ∨ c.his < 1 ∨ 64 < c.his) => (show cfgErr c = 1 from if_neg (by unfold Cfg.okC; omega)))
    have HE0 := Lib.hid (fun (h : 1 ≤ c.smp ∧ c.smp ≤ 256 ∧ 1 ≤ c.lod ∧ c.lod ≤ 256 ∧ 1 ≤ c.his ∧ c.his ≤ 64) => (show cfgErr c = 0 from if_pos ⟨hr, h⟩))
    clear hr
    go_enter Try.func59, Try.ntmps59
    go_wp2_with (go_at_call 97; refine (HC.out _).mono ?_; rintro e w1 ⟨rfl, rfl⟩)
    all_goals
      go_ret
      refine ⟨ret_int ?_, by go_grown⟩
      first
        | exact (HE1.out (by omega)).symm
        | exact (HE0.out (by omega)).symm
theorem ref17_Right (c : Cfg) (w : World) (hc : c.fit) :
    Calls Try.prog 62 #[.agg c.row] w fun e w' => e = .returned (.bool (decide c.okC)) ∧ Below w.heap.size w w' := by
  cases hr : rightq c.str
  · have HE := Lib.hid (show decide c.okC = false from decide_eq_false (by unfold Cfg.okC; rw [hr]; simp))
    have HC := Lib.hid (fun W => ref_Bits c.str W hc.1)
    rw [show rbitsq c.str = -1 from if_neg (by rw [hr]; simp)] at HC
    clear hr
    go_enter Try.func62, Try.ntmps62
    go_wp2_with (go_at_call 103; refine (HC.out _).mono ?_; rintro e w1 ⟨rfl, rfl⟩)
    go_ret
    exact ⟨ret_bool HE.out.symm, by go_grown⟩
  · have HC := Lib.hid (fun W => ref_Bits c.str W hc.1)
    rw [show rbitsq c.str = bitsq c.str from if_pos hr] at HC
    have b0 := (bitsq_bd c.str).1
    have HE1 := Lib.hid (fun (h : c.smp < 1 ∨ 256 < c.smp ∨ c.lod < 1 ∨ 256 < c.lod ∨ c.his < 1 ∨ 64 < c.his) => (show decide c.okC = false from decide_eq_false (by unfold Cfg.okC; omega)))
    have HE0 := Lib.hid (fun (h : 1 ≤ c.smp ∧ c.smp ≤ 256 ∧ 1 ≤ c.lod ∧ c.lod ≤ 256 ∧ 1 ≤ c.his ∧ c.his ≤ 64) => (show decide c.okC = true from decide_eq_true ⟨hr, h⟩))
    have HE2 := Lib.hid (fun (h : 1 ≤ c.smp ∧ c.smp ≤ 256 ∧ 1 ≤ c.lod ∧ c.lod ≤ 256 ∧ 1 ≤ c.his) => (show decide (c.his ≤ 64) = decide c.okC from by
      by_cases h2 : c.his ≤ 64
      · rw [decide_eq_true h2]; exact (decide_eq_true ⟨hr, h.1, h.2.1, h.2.2.1, h.2.2.2.1, h.2.2.2.2, h2⟩).symm
      · rw [decide_eq_false h2]; exact (decide_eq_false (by unfold Cfg.okC; omega)).symm))
    generalize bitsq c.str = B at *
    clear hr
    go_enter Try.func62, Try.ntmps62
    go_wp2_with (go_at_call 103; refine (HC.out _).mono ?_; rintro e w1 ⟨rfl, rfl⟩)
    all_goals
      go_ret
      refine ⟨ret_bool ?_, by go_grown⟩
      first
        | exact (HE1.out (by omega)).symm
        | exact (HE0.out (by omega)).symm
        | exact HE2.out (by omega)
abbrev callRow (k : Int) (s : ByteArray) (t v h : Int) (p : Pol) : Array Value := #[.int .i64 k, .string s, .int .i64 t, .int .i64 v, .int .i64 h, .int .i64 p.min, .int .i64 p.max, .int .i64 p.target, .int .i64 p.tol, .int .i64 p.window, .int .i64 p.hold]
def callErr (k : Int) (s : ByteArray) (t v : Int) (p : Pol) : Int :=
  if k < 1 ∨ 8 < k then 14 else if (k = 1 ∨ k = 5 ∨ k = 6 ∨ k = 7) ∧ idOk s = false then 2 else if k = 1 then sErr t v else if k = 2 ∧ t < 0 then 3 else if k = 6 then polErr p else 0
theorem cell_pol {w : World} {g : Nat} {t : TypeId} {k : Int} {s : ByteArray} {t1 v h : Int} {p : Pol} (hb : Blk w g t (callRow k s t1 v h p)) :
    w.cell? ⟨g, 0, none⟩ = some (.int .i64 k) ∧ w.cell? ⟨g, 1, none⟩ = some (.string s) ∧ w.cell? ⟨g, 2, none⟩ = some (.int .i64 t1) ∧ w.cell? ⟨g, 3, none⟩ = some (.int .i64 v) ∧ w.cell? ⟨g, 5, none⟩ = some (.int .i64 p.min) ∧ w.cell? ⟨g, 6, none⟩ = some (.int .i64 p.max) ∧ w.cell? ⟨g, 7, none⟩ = some (.int .i64 p.target) ∧ w.cell? ⟨g, 8, none⟩ = some (.int .i64 p.tol) ∧ w.cell? ⟨g, 9, none⟩ = some (.int .i64 p.window) ∧ w.cell? ⟨g, 10, none⟩ = some (.int .i64 p.hold) :=
  ⟨hb.cellv rfl, hb.cellv rfl, hb.cellv rfl, hb.cellv rfl, hb.cellv rfl, hb.cellv rfl, hb.cellv rfl, hb.cellv rfl, hb.cellv rfl, hb.cellv rfl⟩
end Go.Proofs.Ytkjmacdekfbfhaa
