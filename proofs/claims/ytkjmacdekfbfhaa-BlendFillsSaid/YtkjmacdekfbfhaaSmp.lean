/- Lists of api.Sample. -/
import Derived.Test.YtkjmacdekfbfhaaKeep
import Derived.Test.YtkjmacdekfbfhaaSame
import Derived.Test.YtkjmacdekfbfhaaEqs
import Derived.Test.YtkjmacdekfbfhaaSat
import Derived.Deep.QuietTactic
import Derived.BigQuiet
namespace Go.Proofs.Ytkjmacdekfbfhaa
open Go.RowKit
set_option linter.unusedSimpArgs false
set_option linter.unusedVariables false
set_option maxHeartbeats 2000000
set_option maxRecDepth 100000

structure Smp where
  tick : Int
  value : Int
deriving DecidableEq
def Smp.cells (a : Smp) : List Value := [.int .i64 a.tick, .int .i64 a.value]
def Smp.good (a : Smp) : Prop := I64 a.tick ∧ I64 a.value
abbrev SmpsAre (w : World) (A : Option Addr) (len cap : Nat) (l : List Smp) : Prop := SliceIs w 2 Smp.cells A len cap l
theorem SmpsAre.at_ {w : World} {A : Option Addr} {len cap : Nat} {l : List Smp} (h : SmpsAre w A len cap l) {k : Nat} (hk : k < len) :
    ∃ (b off : Nat) (x : Smp), A = some ⟨b, off, none⟩ ∧ l[k]? = some x ∧ b < w.heap.size ∧ w.cell? ⟨b, off + k * 2, none⟩ = some (.int .i64 x.tick) ∧ w.cell? ⟨b, off + k * 2 + 1, none⟩ = some (.int .i64 x.value) := by
  obtain ⟨b, off, x, h1, h2, h3, h4⟩ := SliceIs.at_ h hk
  exact ⟨b, off, x, h1, h2, h3, h4 0 _ rfl, by rw [Nat.add_assoc]; exact h4 1 _ rfl⟩
theorem dec_smp : ∀ vs : List Value, AllOk [.int .i64, .int .i64] vs → ∃ x : Smp, x.cells = vs ∧ x.good := by
  rintro _ ⟨_, _, rfl, ⟨a, rfl, wa⟩, _, _, rfl, ⟨b, rfl, wb⟩, h⟩
  cases h
  exact ⟨⟨a, b⟩, rfl, I64_of_wf wa, I64_of_wf wb⟩
abbrev OwnS (w : World) (base : Nat) (v : Value) (l : List Smp) : Prop := Own w base 65 2 Smp.cells v l
theorem info_smp : (Try.prog.info? 65).map (fun i => (i.zero, i.size, i.bytes)) = some (some (.agg #[.int .i64 0, .int .i64 0]), 2, 16) := by kernel_rfl
theorem smp_one : ∀ x : Smp, ∀ u ∈ x.cells, u.oneCell' = true := by
  intro x u hu
  simp [Smp.cells] at hu
  rcases hu with rfl | rfl <;> rfl
theorem push_smp {ops : Array Oper} {rest : List Oper} {o : Oper} {a : Act} {Q : Exit → Act → World → Prop} (w : World) (hgd : o.guard = none) (s x : Operand)
    (ho : o.op = .call { callee := .builtin .append, args := #[s, x], argTypes := #[48, 48] }) (base : Nat) (v : Value) (l : List Smp) (hs : a.eval s = v) (hown : OwnS w base v l)
    (g : Nat) (t : TypeId) (c : Nat) (y : Smp) (hx : a.eval x = .slice (some ⟨g, 0, none⟩) 1 c) (hnews : Blk w g t #[.int .i64 y.tick, .int .i64 y.value]) (hlen : l.length < 1000000) (hbase : base ≤ w.heap.size)
    (h : ∀ v' w', OwnS w' base v' (l ++ [y]) → Below base w w' → w.grownBy w' v.ownBlock → wpList Try.prog ops Q rest (a.put o.dst v') w') : wpList Try.prog ops Q (o :: rest) a w :=
  wpList_push w hgd s x 48 ho base 65 _ 2 16 _ Try.underlying48 info_smp (by rfl) (by decide) (fun _ => rfl) smp_one v l hs hown ⟨g, 0, none⟩ c y hx (blk_news (α := Smp) hnews rfl) hlen (by decide) hbase h
theorem cat_smp {ops : Array Oper} {rest : List Oper} {o : Oper} {a : Act} {Q : Exit → Act → World → Prop} (w : World) (hgd : o.guard = none) (s x : Operand)
    (ho : o.op = .call { callee := .builtin .append, args := #[s, x], argTypes := #[48, 48] }) (base : Nat) (v : Value) (l : List Smp) (hs : a.eval s = v) (hown : OwnS w base v l)
    (A : Option Addr) (m c : Nat) (ys : List Smp) (hx : a.eval x = .slice A m c) (hys : SmpsAre w A m c ys) (hlen : l.length + m < 1000000) (hbase : base ≤ w.heap.size)
    (h : ∀ v' w', OwnS w' base v' (l ++ ys) → Below base w w' → w.grownBy w' v.ownBlock → wpList Try.prog ops Q rest (a.put o.dst v') w') : wpList Try.prog ops Q (o :: rest) a w :=
  wpList_cat w hgd s x _ ho base 65 _ 2 16 _ Try.underlying48 info_smp (by rfl) (by decide) (fun _ => rfl) smp_one v l hs hown A m c ys hx hys hlen (by decide) hbase h
def smpEq (x y : Smp) : Bool := decide (x = y)
theorem eq_smp (x y : Smp) :
    (∀ (W : World) (op : BinOp) (o1 o2 : Operand), (eqGuard op 65 o1 o2 (.agg #[.int .i64 x.tick, .int .i64 x.value]) (.agg #[.int .i64 y.tick, .int .i64 y.value])).run Try.prog W = .ok () W) ∧
    (∀ W : World, (binOp .eql 65 (.agg #[.int .i64 x.tick, .int .i64 x.value]) (.agg #[.int .i64 y.tick, .int .i64 y.value])).run Try.prog W = .ok (.bool (smpEq x y)) W) ∧
    (∀ W : World, (binOp .neq 65 (.agg #[.int .i64 x.tick, .int .i64 x.value]) (.agg #[.int .i64 y.tick, .int .i64 y.value])).run Try.prog W = .ok (.bool (!smpEq x y)) W) := by
  refine eq_ints (by kernel_rfl) (by kernel_rfl) (by kernel_rfl) (by kernel_rfl) [.i64, .i64] [x.tick, x.value] [y.tick, y.value] (by kernel_rfl) (by kernel_rfl) (by kernel_rfl) _ _ rfl rfl _ ?_
  obtain ⟨a, b⟩ := x
  obtain ⟨a', b'⟩ := y
  unfold smpEq
  rw [Bool.eq_iff_iff]
  simp
theorem ref08_Same (A B : Option Addr) (la ca lb cb : Nat) (xs ys : List Smp) (w : World) (hx : SmpsAre w A la ca xs) (hy : SmpsAre w B lb cb ys) :
    Calls Try.prog 33 #[.slice A la ca, .slice B lb cb] w fun e w' => e = .returned (.bool (decide (xs = ys))) ∧ Below w.heap.size w w' := by
  have l1 := hx.1
  have l2 := hy.1
  have m1 : la < 9223372036854775807 ∨ la = 9223372036854775807 := by have := hx.2.1; have := hx.2.2.1; unfold maxLen at *; omega
  by_cases hl : la = lb
  · subst hl
    have HX := Lib.hid hx
    have HY := Lib.hid hy
    have H1 := Lib.hid l1
    have H2 := Lib.hid l2
    clear hx hy l1 l2
    go_enter Try.func33, Try.ntmps33
    go_wp2
    go_loopw [5] (fun i wr => ∃ k : Nat, k ≤ la ∧ i = .int .i64 k ∧ xs.take k = ys.take k ∧ Below w.heap.size w wr) (fun i _ => la - (intOf i).toNat)
    case atStart => exact ⟨0, Nat.zero_le _, rfl, rfl, Below.refl _ _⟩
    case round =>
      obtain ⟨k, hk, rfl, he, hbel⟩ := hrel
      have HE := Lib.hid he
      clear he
      by_cases hlt : k < la
      · obtain ⟨b, off, x, rfl, hx, hb, t0, t1⟩ := HX.out.at_ hlt
        obtain ⟨b2, off2, y, rfl, hy, hb2, s0, s1⟩ := HY.out.at_ hlt
        have HX2 := Lib.hid hx
        have HY2 := Lib.hid hy
        clear hx hy
        have kt0 := (hbel.cell (p := ⟨b, off + k * 2, none⟩) hb).trans t0
        have kt1 := (hbel.cell (p := ⟨b, off + k * 2 + 1, none⟩) hb).trans t1
        have ks0 := (hbel.cell (p := ⟨b2, off2 + k * 2, none⟩) hb2).trans s0
        have ks1 := (hbel.cell (p := ⟨b2, off2 + k * 2 + 1, none⟩) hb2).trans s1
        have hki : (k : Int) < (la : Int) := by omega
        clear hb hb2 t0 t1 s0 s1
        by_cases hxy : x = y
        · subst hxy
          obtain ⟨q1, q2, q3⟩ := eq_smp x x
          have d : smpEq x x = true := decide_eq_true rfl
          clear q2
          go_wp2
          go_quiet (fail)
          go_wp2
          go_roundw
          case rel => exact ⟨k + 1, by omega, by go_num, by rw [take_next HX2.out, take_next HY2.out, HE.out], below_drewN hbel nq⟩
          case measure => simp [intOf]; omega
        · have hq : decide (xs = ys) = false := by
            simp only [decide_eq_false_iff_not]
            intro h
            rw [h, HY2.out] at HX2
            exact hxy (Option.some.inj HX2.out).symm
          have d : smpEq x y = false := decide_eq_false hxy
          obtain ⟨q1, q2, q3⟩ := eq_smp x y
          have HQ := Lib.hid hq
          clear hq hxy q2
          go_wp2
          go_quiet (fail)
          go_wp2
          go_ret
          exact ⟨by rw [HQ.out]; rfl, below_drewN hbel nq⟩
      · go_wp2
        go_ret
        refine ⟨?_, hbel⟩
        have h1 := HE.out
        rw [List.take_of_length_le (by have := H1.out; omega), List.take_of_length_le (by have := H2.out; omega)] at h1
        rw [h1]; simp
  · have hq : decide (xs = ys) = false := by
      simp only [decide_eq_false_iff_not]
      intro h; subst h; omega
    rw [hq]
    have d : ((la : Int) == (lb : Int)) = false := by simp; omega
    clear hq hx hy l1 l2
    go_enter Try.func33, Try.ntmps33
    go_wp2
    go_ret
    exact ⟨rfl, Below.refl _ _⟩
end Go.Proofs.Ytkjmacdekfbfhaa
