/- Lists of api.Key. -/
import Derived.Test.YtfeccjjheiillaaKeep
import Derived.Test.YtfeccjjheiillaaEqs
import Derived.Test.YtfeccjjheiillaaSat
import Derived.Test.YtfeccjjheiillaaUpd
import Derived.Test.YtfeccjjheiillaaPush2
import Derived.Deep.QuietTactic
import Derived.BigQuiet
namespace Go.Proofs.Ytfeccjjheiillaa
open Go.RowKit
set_option linter.unusedSimpArgs false
set_option linter.unusedVariables false
set_option maxHeartbeats 2000000
set_option maxRecDepth 100000

structure Key where
  hi : Nat
  lo : Nat
deriving DecidableEq
abbrev Key.row (k : Key) : Array Value := #[.int .u64 k.hi, .int .u64 k.lo]
def Key.cells (k : Key) : List Value := [.int .u64 k.hi, .int .u64 k.lo]
def Key.good (k : Key) : Prop := k.hi < 18446744073709551616 ∧ k.lo < 18446744073709551616
abbrev KeysAre (w : World) (A : Option Addr) (len cap : Nat) (l : List Key) : Prop := SliceIs w 2 Key.cells A len cap l
theorem key_len : ∀ x : Key, x.cells.length = 2 := fun _ => rfl
theorem KeysAre.at_ {w : World} {A : Option Addr} {len cap : Nat} {l : List Key} (h : KeysAre w A len cap l) {k : Nat} (hk : k < len) :
    ∃ (b off : Nat) (x : Key), A = some ⟨b, off, none⟩ ∧ l[k]? = some x ∧ b < w.heap.size ∧ w.cell? ⟨b, off + k * 2, none⟩ = some (.int .u64 x.hi) ∧ w.cell? ⟨b, off + k * 2 + 1, none⟩ = some (.int .u64 x.lo) := by
  obtain ⟨b, off, x, h1, h2, h3, h4⟩ := SliceIs.at_ h hk
  exact ⟨b, off, x, h1, h2, h3, h4 0 _ rfl, by rw [Nat.add_assoc]; exact h4 1 _ rfl⟩
theorem dec_key : ∀ vs : List Value, AllOk [.int .u64, .int .u64] vs → ∃ x : Key, x.cells = vs ∧ x.good := by
  rintro _ ⟨_, _, rfl, ⟨a, rfl, wa⟩, _, _, rfl, ⟨b, rfl, wb⟩, h⟩
  cases h
  have ha := U64_of_wf wa
  have hb := U64_of_wf wb
  unfold U64 at ha hb
  refine ⟨⟨a.toNat, b.toNat⟩, ?_, ?_, ?_⟩
  · unfold Key.cells; rw [Int.toNat_of_nonneg ha.1, Int.toNat_of_nonneg hb.1]
  · show a.toNat < _; omega
  · show b.toNat < _; omega
abbrev OwnK (w : World) (base : Nat) (v : Value) (l : List Key) : Prop := Own w base 88 2 Key.cells v l
theorem info_key : (Try.prog.info? 88).map (fun i => (i.zero, i.size, i.bytes)) = some (some (.agg #[.int .u64 0, .int .u64 0]), 2, 16) := by kernel_rfl
theorem key_one : ∀ x : Key, ∀ u ∈ x.cells, u.oneCell' = true := by
  intro x u hu
  simp [Key.cells] at hu
  rcases hu with rfl | rfl <;> rfl
theorem push_key {ops : Array Oper} {rest : List Oper} {o : Oper} {a : Act} {Q : Exit → Act → World → Prop} (w : World) (hgd : o.guard = none) (s x : Operand)
    (ho : o.op = .call { callee := .builtin .append, args := #[s, x], argTypes := #[22, 22] }) (base : Nat) (v : Value) (l : List Key) (hs : a.eval s = v) (hown : OwnK w base v l)
    (g : Nat) (t : TypeId) (c : Nat) (y : Key) (hx : a.eval x = .slice (some ⟨g, 0, none⟩) 1 c) (hnews : Blk w g t y.row) (hlen : l.length < 1000000) (hbase : base ≤ w.heap.size)
    (h : ∀ v' w', OwnK w' base v' (l ++ [y]) → Upd (fun k => v.ownBlock = some k) w w' → (v'.ownBlock = v.ownBlock ∨ v'.ownBlock = some w.heap.size) → wpList Try.prog ops Q rest (a.put o.dst v') w') : wpList Try.prog ops Q (o :: rest) a w :=
  wpList_push2 w hgd s x 22 ho base 88 _ 2 16 _ Try.underlying22 info_key (by rfl) (by decide) (fun _ => rfl) key_one v l hs hown ⟨g, 0, none⟩ c y hx (blk_news (α := Key) hnews rfl) hlen (by decide) hbase h
def keyEq (x y : Key) : Bool := decide (x = y)
theorem eq_key (x y : Key) :
    (∀ (W : World) (op : BinOp) (o1 o2 : Operand), (eqGuard op 88 o1 o2 (.agg x.row) (.agg y.row)).run Try.prog W = .ok () W) ∧
    (∀ W : World, (binOp .eql 88 (.agg x.row) (.agg y.row)).run Try.prog W = .ok (.bool (keyEq x y)) W) ∧
    (∀ W : World, (binOp .neq 88 (.agg x.row) (.agg y.row)).run Try.prog W = .ok (.bool (!keyEq x y)) W) := by
  refine eq_ints (by kernel_rfl) (by kernel_rfl) (by kernel_rfl) (by kernel_rfl) [.u64, .u64] [(x.hi : Int), (x.lo : Int)] [(y.hi : Int), (y.lo : Int)] (by kernel_rfl) (by kernel_rfl) (by kernel_rfl) _ _ rfl rfl _ ?_
  obtain ⟨a, b⟩ := x
  obtain ⟨a', b'⟩ := y
  unfold keyEq
  rw [Bool.eq_iff_iff]
  simp
  omega
theorem ref03_Same (A B : Option Addr) (la ca lb cb : Nat) (xs ys : List Key) (w : World) (hx : KeysAre w A la ca xs) (hy : KeysAre w B lb cb ys) :
    Calls Try.prog 15 #[.slice A la ca, .slice B lb cb] w fun e w' => e = .returned (.bool (decide (xs = ys))) ∧ Below w.heap.size w w' := by
  have l1 := hx.1
  have l2 := hy.1
  have m1 : la < 9223372036854775807 ∨ la = 9223372036854775807 := by have := hx.2.1; have := hx.2.2.1; unfold maxLen at *; omega
  by_cases hl : la = lb
  · subst hl
    have HX := Lib.hid hx
    have HY := Lib.hid hy
    have H1 := Lib.hid l1
    have H2 := Lib.hid l2
    clear hx hy l1 l2
    go_enter Try.func15, Try.ntmps15
    go_wp2
    go_loopw [5] (fun i wr => ∃ k : Nat, k ≤ la ∧ i = .int .i64 k ∧ xs.take k = ys.take k ∧ Below w.heap.size w wr) (fun i _ => la - (intOf i).toNat)
    case atStart => exact ⟨0, Nat.zero_le _, rfl, rfl, Below.refl _ _⟩
    case round =>
      obtain ⟨k, hk, rfl, he, hbel⟩ := hrel
      have HE := Lib.hid he
      clear he
      by_cases hlt : k < la
      · obtain ⟨b, off, x, rfl, hx, hb, t0, t1⟩ := HX.out.at_ hlt
        obtain ⟨b2, off2, y, rfl, hy, hb2, s0, s1⟩ := HY.out.at_ hlt
        have HX2 := Lib.hid hx
        have HY2 := Lib.hid hy
        clear hx hy
        have kt0 := (hbel.cell (p := ⟨b, off + k * 2, none⟩) hb).trans t0
        have kt1 := (hbel.cell (p := ⟨b, off + k * 2 + 1, none⟩) hb).trans t1
        have ks0 := (hbel.cell (p := ⟨b2, off2 + k * 2, none⟩) hb2).trans s0
        have ks1 := (hbel.cell (p := ⟨b2, off2 + k * 2 + 1, none⟩) hb2).trans s1
        have hki : (k : Int) < (la : Int) := by omega
        clear hb hb2 t0 t1 s0 s1
        by_cases hxy : x = y
        · subst hxy
          obtain ⟨q1, q2, q3⟩ := eq_key x x
          have d : keyEq x x = true := decide_eq_true rfl
          clear q2
          go_wp2
          go_quiet (fail)
          go_wp2
          go_roundw
          case rel => exact ⟨k + 1, by omega, by go_num, by rw [take_next HX2.out, take_next HY2.out, HE.out], below_drewN hbel nq⟩
          case measure => simp [intOf]; omega
        · have hq : decide (xs = ys) = false := by
            simp only [decide_eq_false_iff_not]
            intro h
            rw [h, HY2.out] at HX2
            exact hxy (Option.some.inj HX2.out).symm
          have d : keyEq x y = false := decide_eq_false hxy
          obtain ⟨q1, q2, q3⟩ := eq_key x y
          have HQ := Lib.hid hq
          clear hq hxy q2
          go_wp2
          go_quiet (fail)
          go_wp2
          go_ret
          exact ⟨by rw [HQ.out]; rfl, below_drewN hbel nq⟩
      · go_wp2
        go_ret
        refine ⟨?_, hbel⟩
        have h1 := HE.out
        rw [List.take_of_length_le (by have := H1.out; omega), List.take_of_length_le (by have := H2.out; omega)] at h1
        rw [h1]; simp
  · have hq : decide (xs = ys) = false := by
      simp only [decide_eq_false_iff_not]
      intro h; subst h; omega
    rw [hq]
    have d : ((la : Int) == (lb : Int)) = false := by simp; omega
    clear hq hx hy l1 l2
    go_enter Try.func15, Try.ntmps15
    go_wp2
    go_ret
    exact ⟨rfl, Below.refl _ _⟩
end Go.Proofs.Ytfeccjjheiillaa
