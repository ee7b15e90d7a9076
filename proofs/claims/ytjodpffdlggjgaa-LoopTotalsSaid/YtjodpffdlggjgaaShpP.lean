/- Shapes of load: plain. -/
import Derived.Test.YtjodpffdlggjgaaSat
import Derived.Test.YtjodpffdlggjgaaBlk
import Derived.Test.YtjodpffdlggjgaaKeep
import Derived.Test.YtjodpffdlggjgaaMean
import Derived.Test.YtjodpffdlggjgaaRegT
namespace Go.Proofs.Ytjodpffdlggjgaa
open Go.RowKit
set_option linter.unusedSimpArgs false
set_option linter.unusedVariables false
structure Shp where
  kind : Int
  low : Int
  high : Int
  period : Int
  phase : Int
def Shp.cells (x : Shp) : List Value := [.int .i64 x.kind, .int .i64 x.low, .int .i64 x.high, .int .i64 x.period, .int .i64 x.phase]
abbrev Shp.row (x : Shp) : Array Value := #[.int .i64 x.kind, .int .i64 x.low, .int .i64 x.high, .int .i64 x.period, .int .i64 x.phase]
def Shp.good (x : Shp) : Prop := I64 x.kind ∧ I64 x.low ∧ I64 x.high ∧ I64 x.period ∧ I64 x.phase
abbrev ShpsAre (w : World) (A : Option Addr) (len cap : Nat) (l : List Shp) : Prop := SliceIs w 5 Shp.cells A len cap l
def shpErr (s : Shp) : Int := if s.kind < 1 ∨ 5 < s.kind then 14 else if s.low < 0 ∨ s.high < s.low then 4 else if s.period < 1 ∨ 2147483648 < s.period then 1 else 0
def Shp.ok (s : Shp) : Prop := 1 ≤ s.kind ∧ s.kind ≤ 5 ∧ 0 ≤ s.low ∧ s.low ≤ s.high ∧ 1 ≤ s.period ∧ s.period ≤ 2147483648
theorem shpErr_ok {s : Shp} : shpErr s = 0 ↔ s.ok := by
  unfold shpErr Shp.ok
  (repeat' split) <;> simp <;> omega
def place54 (s : Shp) (tick : Int) : Int := (tick % s.period + s.phase % s.period) % s.period
def partq (s : Shp) (n : Int) : Int := s.low + (s.high - s.low) * n / s.period
def atq (s : Shp) (tick : Int) : Int :=
  if shpErr s ≠ 0 then 0 else
  if s.kind = 2 then partq s (place54 s tick) else
  if s.kind = 3 then (if s.period - place54 s tick ≤ place54 s tick then s.high else s.low) else
  if s.kind = 4 then (if place54 s tick = 0 then s.high else s.low) else
  if s.kind = 5 then partq s (2 * min (place54 s tick) (s.period - place54 s tick)) else s.low
def sumS (tick : Int) (l : List Shp) : Int := l.foldl (fun a s => satq (a + atq s tick)) 0
theorem place54_bd {s : Shp} (h : s.ok) (tick : Int) : 0 ≤ place54 s tick ∧ place54 s tick < s.period := by
  unfold place54
  have h1 : 0 < s.period := by have := h.2.2.2.2.1; omega
  exact ⟨Int.emod_nonneg _ (by omega), Int.emod_lt_of_pos _ h1⟩
theorem partq_bd {s : Shp} (h : s.ok) {n : Int} (h0 : 0 ≤ n) (h1 : n ≤ s.period) : s.low ≤ partq s n ∧ partq s n ≤ s.high := by
  unfold partq
  obtain ⟨-, -, k1, k2, k3, k4⟩ := h
  have hp : 0 < s.period := by omega
  have a1 : 0 ≤ (s.high - s.low) * n := Int.mul_nonneg (by omega) h0
  have a2 : (s.high - s.low) * n ≤ (s.high - s.low) * s.period := Int.mul_le_mul_of_nonneg_left h1 (by omega)
  have b1 : 0 ≤ (s.high - s.low) * n / s.period := Int.ediv_nonneg a1 (by omega)
  have b2 : (s.high - s.low) * n / s.period ≤ (s.high - s.low) * s.period / s.period := Int.ediv_le_ediv hp a2
  rw [Int.mul_ediv_cancel _ (by omega)] at b2
  omega
theorem atq_bd {s : Shp} (h : s.ok) (tick : Int) : s.low ≤ atq s tick ∧ atq s tick ≤ s.high := by
  have hp := place54_bd h tick
  have k2 := h.2.2.2.1
  unfold atq
  rw [if_neg (by have := shpErr_ok.2 h; omega)]
  split
  · exact partq_bd h hp.1 (by omega)
  · split
    · split <;> omega
    · split
      · split <;> omega
      · split
        · exact partq_bd h (by omega) (by omega)
        · omega
theorem atq_I64 {s : Shp} (hg : s.good) (tick : Int) : I64 (atq s tick) := by
  by_cases h : shpErr s = 0
  · have := atq_bd (shpErr_ok.1 h) tick
    have h1 := hg.2.1
    have h2 := hg.2.2.1
    unfold I64 at *
    omega
  · unfold atq; rw [if_pos h]; unfold I64; omega
theorem sumS_I64 (tick : Int) (l : List Shp) : I64 (sumS tick l) := by
  have key : ∀ (l : List Shp) (a : Int), I64 a → I64 (l.foldl (fun a s => satq (a + atq s tick)) a) := by
    intro l
    induction l with
    | nil => intro a h; exact h
    | cons s l ih => intro a _; exact ih _ (satq_I64 _)
  exact key l 0 (by unfold I64; omega)
theorem sumS_next {l : List Shp} {k : Nat} {s : Shp} (tick : Int) (h : l[k]? = some s) : sumS tick (l.take (k + 1)) = satq (sumS tick (l.take k) + atq s tick) := by
  unfold sumS; rw [List.take_add_one, h]; simp
theorem rest_emod {n b : Int} (hb : 0 < b) : n % b = if Int.tmod n b < 0 then Int.tmod n b + b else Int.tmod n b := by
  have h1 := Int.tmod_eq_emod (a := n) (b := b)
  have h2 := Int.emod_nonneg n (show b ≠ 0 by omega)
  have h3 := Int.emod_lt_of_pos n hb
  by_cases hn : 0 ≤ n
  · rw [Int.tmod_eq_emod_of_nonneg hn, if_neg (by omega)]
  · by_cases hd : b ∣ n
    · have h4 : n % b = 0 := Int.emod_eq_zero_of_dvd hd
      have h5 : Int.tmod n b = 0 := Int.tmod_eq_zero_of_dvd hd
      rw [h4, h5]; simp
    · have h6 : Int.tmod n b = n % b - b := by
        rw [h1, if_neg (by simp [hn, hd])]
        have : (b.natAbs : Int) = b := by omega
        omega
      rw [h6, if_pos (by omega)]; omega
end Go.Proofs.Ytjodpffdlggjgaa
