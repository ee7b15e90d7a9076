/- Package control, the rest: near or not, what is decided, the ends. -/
import Derived.Test.YtkjmacdekfbfhaaControl
namespace Go.Proofs.Ytkjmacdekfbfhaa
open Go.RowKit
set_option linter.unusedSimpArgs false
set_option linter.unusedVariables false
set_option maxHeartbeats 400000

def rawq (p : Pol) (load now : Int) : Int := if nearq p load now then boundq p now else boundq p (wantq p load)
theorem wantq_I64 (p : Pol) (n : Int) (hp : p.fit) (hn : I64 n) : I64 (wantq p n) := by
  unfold wantq
  split
  · have hl := loadq_bd hn
    unfold ceilq
    split
    · unfold I64; omega
    · rename_i h1 h2
      have := fl_neg (loadq n) p.target (by omega)
      have b := fl_bd (loadq n) p.target (by omega)
      have c := b.2.1 (by omega)
      rw [this]
      unfold I64
      by_cases h0 : p.target = 1
      · rw [h0, Int.emod_one, if_pos rfl, Int.ediv_one]; omega
      · have : loadq n / p.target ≤ 4611686018427387903 := by
          have e := (Int.ediv_lt_iff_lt_mul (a := loadq n) (b := 4611686018427387904) (c := p.target) (by omega)).2 (by omega)
          omega
        split <;> omega
  · unfold I64; omega
def lowq (p : Pol) (n : Int) : Int := if p.okP ∧ 1 ≤ n ∧ n ≤ 1073741824 then satq (satq ((n - 1) * p.target) + 1) else 0
def lowIs (p : Pol) (n : Int) : Bool := decide (p.okP ∧ 1 ≤ n ∧ n ≤ 1073741824)
def highq (p : Pol) (n : Int) : Int := if p.okP ∧ 0 ≤ n ∧ n ≤ 1073741824 then satq (n * p.target) else 0
def highIs (p : Pol) (n : Int) : Bool := decide (p.okP ∧ 0 ≤ n ∧ n ≤ 1073741824)
end Go.Proofs.Ytkjmacdekfbfhaa
