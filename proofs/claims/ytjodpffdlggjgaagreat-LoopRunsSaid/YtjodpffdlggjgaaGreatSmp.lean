/- Lists of api.Sample. -/
import Derived.Test.YtjodpffdlggjgaaGreatKeep
import Derived.Test.YtjodpffdlggjgaaGreatSame
import Derived.Test.YtjodpffdlggjgaaGreatEqs
import Derived.Test.YtjodpffdlggjgaaGreatSat
import Derived.Deep.QuietTactic
import Derived.BigQuiet
namespace Go.Proofs.YtjodpffdlggjgaaGreat
open Go.RowKit
set_option linter.unusedSimpArgs false
set_option linter.unusedVariables false
set_option maxHeartbeats 2000000
set_option maxRecDepth 100000

structure Smp where
  tick : Int
  value : Int
deriving DecidableEq
def Smp.cells (a : Smp) : List Value := [.int .i64 a.tick, .int .i64 a.value]
def Smp.good (a : Smp) : Prop := I64 a.tick ∧ I64 a.value
abbrev SmpsAre (w : World) (A : Option Addr) (len cap : Nat) (l : List Smp) : Prop := SliceIs w 2 Smp.cells A len cap l
theorem SmpsAre.at_ {w : World} {A : Option Addr} {len cap : Nat} {l : List Smp} (h : SmpsAre w A len cap l) {k : Nat} (hk : k < len) :
    ∃ (b off : Nat) (x : Smp), A = some ⟨b, off, none⟩ ∧ l[k]? = some x ∧ b < w.heap.size ∧ w.cell? ⟨b, off + k * 2, none⟩ = some (.int .i64 x.tick) ∧ w.cell? ⟨b, off + k * 2 + 1, none⟩ = some (.int .i64 x.value) := by
  obtain ⟨b, off, x, h1, h2, h3, h4⟩ := SliceIs.at_ h hk
  exact ⟨b, off, x, h1, h2, h3, h4 0 _ rfl, by rw [Nat.add_assoc]; exact h4 1 _ rfl⟩
theorem dec_smp : ∀ vs : List Value, AllOk [.int .i64, .int .i64] vs → ∃ x : Smp, x.cells = vs ∧ x.good := by
  rintro _ ⟨_, _, rfl, ⟨a, rfl, wa⟩, _, _, rfl, ⟨b, rfl, wb⟩, h⟩
  cases h
  exact ⟨⟨a, b⟩, rfl, I64_of_wf wa, I64_of_wf wb⟩
abbrev OwnS (w : World) (base : Nat) (v : Value) (l : List Smp) : Prop := Own w base 75 2 Smp.cells v l
theorem info_smp : (Tryz.prog.info? 75).map (fun i => (i.zero, i.size, i.bytes)) = some (some (.agg #[.int .i64 0, .int .i64 0]), 2, 16) := by kernel_rfl
theorem smp_one : ∀ x : Smp, ∀ u ∈ x.cells, u.oneCell' = true := by
  intro x u hu
  simp [Smp.cells] at hu
  rcases hu with rfl | rfl <;> rfl
theorem push_smp {ops : Array Oper} {rest : List Oper} {o : Oper} {a : Act} {Q : Exit → Act → World → Prop} (w : World) (hgd : o.guard = none) (s x : Operand)
    (ho : o.op = .call { callee := .builtin .append, args := #[s, x], argTypes := #[24, 24] }) (base : Nat) (v : Value) (l : List Smp) (hs : a.eval s = v) (hown : OwnS w base v l)
    (g : Nat) (t : TypeId) (c : Nat) (y : Smp) (hx : a.eval x = .slice (some ⟨g, 0, none⟩) 1 c) (hnews : Blk w g t #[.int .i64 y.tick, .int .i64 y.value]) (hlen : l.length < 1000000) (hbase : base ≤ w.heap.size)
    (h : ∀ v' w', OwnS w' base v' (l ++ [y]) → Below base w w' → w.grownBy w' v.ownBlock → wpList Tryz.prog ops Q rest (a.put o.dst v') w') : wpList Tryz.prog ops Q (o :: rest) a w :=
  wpList_push w hgd s x 24 ho base 75 _ 2 16 _ Tryz.underlying24 info_smp (by rfl) (by decide) (fun _ => rfl) smp_one v l hs hown ⟨g, 0, none⟩ c y hx (blk_news (α := Smp) hnews rfl) hlen (by decide) hbase h
theorem cat_smp {ops : Array Oper} {rest : List Oper} {o : Oper} {a : Act} {Q : Exit → Act → World → Prop} (w : World) (hgd : o.guard = none) (s x : Operand)
    (ho : o.op = .call { callee := .builtin .append, args := #[s, x], argTypes := #[24, 24] }) (base : Nat) (v : Value) (l : List Smp) (hs : a.eval s = v) (hown : OwnS w base v l)
    (A : Option Addr) (m c : Nat) (ys : List Smp) (hx : a.eval x = .slice A m c) (hys : SmpsAre w A m c ys) (hlen : l.length + m < 1000000) (hbase : base ≤ w.heap.size)
    (h : ∀ v' w', OwnS w' base v' (l ++ ys) → Below base w w' → w.grownBy w' v.ownBlock → wpList Tryz.prog ops Q rest (a.put o.dst v') w') : wpList Tryz.prog ops Q (o :: rest) a w :=
  wpList_cat w hgd s x _ ho base 75 _ 2 16 _ Tryz.underlying24 info_smp (by rfl) (by decide) (fun _ => rfl) smp_one v l hs hown A m c ys hx hys hlen (by decide) hbase h
def smpEq (x y : Smp) : Bool := decide (x = y)
theorem eq_smp (x y : Smp) :
    (∀ (W : World) (op : BinOp) (o1 o2 : Operand), (eqGuard op 75 o1 o2 (.agg #[.int .i64 x.tick, .int .i64 x.value]) (.agg #[.int .i64 y.tick, .int .i64 y.value])).run Tryz.prog W = .ok () W) ∧
    (∀ W : World, (binOp .eql 75 (.agg #[.int .i64 x.tick, .int .i64 x.value]) (.agg #[.int .i64 y.tick, .int .i64 y.value])).run Tryz.prog W = .ok (.bool (smpEq x y)) W) ∧
    (∀ W : World, (binOp .neq 75 (.agg #[.int .i64 x.tick, .int .i64 x.value]) (.agg #[.int .i64 y.tick, .int .i64 y.value])).run Tryz.prog W = .ok (.bool (!smpEq x y)) W) := by
  refine eq_ints (by kernel_rfl) (by kernel_rfl) (by kernel_rfl) (by kernel_rfl) [.i64, .i64] [x.tick, x.value] [y.tick, y.value] (by kernel_rfl) (by kernel_rfl) (by kernel_rfl) _ _ rfl rfl _ ?_
  obtain ⟨a, b⟩ := x
  obtain ⟨a', b'⟩ := y
  unfold smpEq
  rw [Bool.eq_iff_iff]
  simp
end Go.Proofs.YtjodpffdlggjgaaGreat
