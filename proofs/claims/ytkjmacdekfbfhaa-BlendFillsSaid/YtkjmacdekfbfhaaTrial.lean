/- Lists of api.Advice: how often they change and turn. -/
import Derived.Test.YtkjmacdekfbfhaaSame
namespace Go.Proofs.Ytkjmacdekfbfhaa
open Go.RowKit
set_option linter.unusedSimpArgs false
set_option linter.unusedVariables false
set_option maxHeartbeats 1000000

structure Adv where
  tick : Int
  load : Int
  want : Int
  repl : Int
  why : Int
deriving DecidableEq
def Adv.cells (a : Adv) : List Value := [.int .i64 a.tick, .int .i64 a.load, .int .i64 a.want, .int .i64 a.repl, .int .i64 a.why]
def Adv.good (a : Adv) : Prop := I64 a.tick ∧ I64 a.load ∧ I64 a.want ∧ I64 a.repl ∧ I64 a.why
abbrev AdvsAre (w : World) (A : Option Addr) (len cap : Nat) (l : List Adv) : Prop := SliceIs w 5 Adv.cells A len cap l
theorem AdvsAre.at_ {w : World} {A : Option Addr} {len cap : Nat} {l : List Adv} (h : AdvsAre w A len cap l) {k : Nat} (hk : k < len) :
    ∃ (b off : Nat) (x : Adv), A = some ⟨b, off, none⟩ ∧ l[k]? = some x ∧ b < w.heap.size ∧ w.cell? ⟨b, off + k * 5, none⟩ = some (.int .i64 x.tick) ∧ w.cell? ⟨b, off + k * 5 + 1, none⟩ = some (.int .i64 x.load) ∧ w.cell? ⟨b, off + k * 5 + 2, none⟩ = some (.int .i64 x.want) ∧ w.cell? ⟨b, off + k * 5 + 3, none⟩ = some (.int .i64 x.repl) ∧ w.cell? ⟨b, off + k * 5 + 4, none⟩ = some (.int .i64 x.why) := by
  obtain ⟨b, off, x, h1, h2, h3, h4⟩ := SliceIs.at_ h hk
  exact ⟨b, off, x, h1, h2, h3, h4 0 _ rfl, by rw [Nat.add_assoc]; exact h4 1 _ rfl, by rw [Nat.add_assoc]; exact h4 2 _ rfl, by rw [Nat.add_assoc]; exact h4 3 _ rfl, by rw [Nat.add_assoc]; exact h4 4 _ rfl⟩

/-- Among the first k numbers of r: how often one differs from the one before. -/
def chq (r : Nat → Int) : Nat → Nat
  | 0 => 0
  | 1 => 0
  | k + 2 => chq r (k + 1) + if r (k + 1) = r k then 0 else 1
theorem chq_le (r : Nat → Int) (k : Nat) : chq r k ≤ k := by
  match k with
  | 0 => simp [chq]
  | 1 => simp [chq]
  | k + 2 => have := chq_le r (k + 1); unfold chq; split <;> omega
def replAt (l : List Adv) (i : Nat) : Int := (l[i]?.map Adv.repl).getD 0
theorem replAt_eq {l : List Adv} {i : Nat} {x : Adv} (h : l[i]? = some x) : replAt l i = x.repl := by unfold replAt; rw [h]; rfl
end Go.Proofs.Ytkjmacdekfbfhaa
