/- Lists of steps of calls: both texts' types; calls.all, one, Cuts, Line. -/
import Derived.Test.YtkjmacdekfbfhaaCallsP
import Derived.Test.YtkjmacdekfbfhaaStoreC
import Derived.Test.YtkjmacdekfbfhaaCat
import Derived.Test.YtkjmacdekfbfhaaPush2
import Derived.Test.YtkjmacdekfbfhaaKeep
import Derived.Test.YtkjmacdekfbfhaaUpd
import Derived.Test.YtkjmacdekfbfhaaEqs
namespace Go.Proofs.Ytkjmacdekfbfhaa
open Go.RowKit
set_option linter.unusedSimpArgs false
set_option linter.unusedVariables false
set_option maxHeartbeats 4000000
set_option maxRecDepth 100000
def COp.cells (o : COp) : List Value := [.int .i64 o.kind, .int .i64 o.lock]
abbrev COp.row (o : COp) : Array Value := #[.int .i64 o.kind, .int .i64 o.lock]
def COp.good (o : COp) : Prop := I64 o.kind ∧ I64 o.lock
abbrev COpsAre (w : World) (A : Option Addr) (len cap : Nat) (l : List COp) : Prop := SliceIs w 2 COp.cells A len cap l
theorem cop_len : ∀ x : COp, x.cells.length = 2 := fun _ => rfl
theorem cop_one : ∀ x : COp, ∀ u ∈ x.cells, u.oneCell' = true := by
  intro x u hu
  simp [COp.cells] at hu
  rcases hu with rfl | rfl <;> rfl
theorem dec_cop : ∀ vs : List Value, AllOk [.int .i64, .int .i64] vs → ∃ x : COp, x.cells = vs ∧ x.good := by
  rintro _ ⟨_, _, rfl, ⟨a, rfl, wa⟩, _, _, rfl, ⟨b, rfl, wb⟩, h⟩
  cases h
  exact ⟨⟨a, b⟩, rfl, I64_of_wf wa, I64_of_wf wb⟩
theorem COpsAre.at_ {w : World} {A : Option Addr} {len cap : Nat} {l : List COp} (h : COpsAre w A len cap l) {k : Nat} (hk : k < len) :
    ∃ (b off : Nat) (x : COp), A = some ⟨b, off, none⟩ ∧ l[k]? = some x ∧ b < w.heap.size ∧ w.cell? ⟨b, off + k * 2, none⟩ = some (.int .i64 x.kind) ∧ w.cell? ⟨b, off + k * 2 + 1, none⟩ = some (.int .i64 x.lock) := by
  obtain ⟨b, off, x, h1, h2, h3, h4⟩ := SliceIs.at_ h hk
  exact ⟨b, off, x, h1, h2, h3, h4 0 _ rfl, by rw [Nat.add_assoc]; exact h4 1 _ rfl⟩
abbrev OwnC (w : World) (base : Nat) (v : Value) (l : List COp) : Prop := Own w base 35 2 COp.cells v l
abbrev OwnD (w : World) (base : Nat) (v : Value) (l : List COp) : Prop := Own w base 36 2 COp.cells v l
theorem info_cop : (Try.prog.info? 35).map (fun i => (i.zero, i.size, i.bytes)) = some (some (.agg #[.int .i64 0, .int .i64 0]), 2, 16) := by kernel_rfl
theorem info_dop : (Try.prog.info? 36).map (fun i => (i.zero, i.size, i.bytes)) = some (some (.agg #[.int .i64 0, .int .i64 0]), 2, 16) := by kernel_rfl
section
variable {ops : Array Oper} {rest : List Oper} {o : Oper} {a : Act} {Q : Exit → Act → World → Prop}
theorem push_c (w : World) (hgd : o.guard = none) (s x : Operand) (ho : o.op = .call { callee := .builtin .append, args := #[s, x], argTypes := #[29, 29] }) (base : Nat) (v : Value) (l : List COp) (hs : a.eval s = v) (hown : OwnC w base v l)
    (g : Nat) (t : TypeId) (c : Nat) (y : COp) (hx : a.eval x = .slice (some ⟨g, 0, none⟩) 1 c) (hnews : Blk w g t #[.int .i64 y.kind, .int .i64 y.lock]) (hlen : l.length < 1000000) (hbase : base ≤ w.heap.size)
    (h : ∀ v' w', OwnC w' base v' (l ++ [y]) → Below base w w' → w.grownBy w' v.ownBlock → wpList Try.prog ops Q rest (a.put o.dst v') w') : wpList Try.prog ops Q (o :: rest) a w :=
  wpList_push w hgd s x _ ho base 35 _ 2 16 _ Try.underlying29 info_cop (by rfl) (by decide) (fun _ => rfl) cop_one v l hs hown ⟨g, 0, none⟩ c y hx (blk_news (α := COp) hnews rfl) hlen (by decide) hbase h
theorem push_d (w : World) (hgd : o.guard = none) (s x : Operand) (ho : o.op = .call { callee := .builtin .append, args := #[s, x], argTypes := #[31, 31] }) (base : Nat) (v : Value) (l : List COp) (hs : a.eval s = v) (hown : OwnD w base v l)
    (g : Nat) (t : TypeId) (c : Nat) (y : COp) (hx : a.eval x = .slice (some ⟨g, 0, none⟩) 1 c) (hnews : Blk w g t #[.int .i64 y.kind, .int .i64 y.lock]) (hlen : l.length < 1000000) (hbase : base ≤ w.heap.size)
    (h : ∀ v' w', OwnD w' base v' (l ++ [y]) → Below base w w' → w.grownBy w' v.ownBlock → wpList Try.prog ops Q rest (a.put o.dst v') w') : wpList Try.prog ops Q (o :: rest) a w :=
  wpList_push w hgd s x _ ho base 36 _ 2 16 _ Try.underlying31 info_dop (by rfl) (by decide) (fun _ => rfl) cop_one v l hs hown ⟨g, 0, none⟩ c y hx (blk_news (α := COp) hnews rfl) hlen (by decide) hbase h
theorem cat_c (w : World) (hgd : o.guard = none) (s x : Operand) (ho : o.op = .call { callee := .builtin .append, args := #[s, x], argTypes := #[29, 29] }) (base : Nat) (v : Value) (l : List COp) (hs : a.eval s = v) (hown : OwnC w base v l)
    (A : Option Addr) (m c : Nat) (ys : List COp) (hx : a.eval x = .slice A m c) (hys : COpsAre w A m c ys) (hlen : l.length + m < 1000000) (hbase : base ≤ w.heap.size)
    (h : ∀ v' w', OwnC w' base v' (l ++ ys) → Below base w w' → w.grownBy w' v.ownBlock → wpList Try.prog ops Q rest (a.put o.dst v') w') : wpList Try.prog ops Q (o :: rest) a w :=
  wpList_cat w hgd s x _ ho base 35 _ 2 16 _ Try.underlying29 info_cop (by rfl) (by decide) (fun _ => rfl) cop_one v l hs hown A m c ys hx hys hlen (by decide) hbase h
theorem cat_d (w : World) (hgd : o.guard = none) (s x : Operand) (ho : o.op = .call { callee := .builtin .append, args := #[s, x], argTypes := #[31, 31] }) (base : Nat) (v : Value) (l : List COp) (hs : a.eval s = v) (hown : OwnD w base v l)
    (A : Option Addr) (m c : Nat) (ys : List COp) (hx : a.eval x = .slice A m c) (hys : COpsAre w A m c ys) (hlen : l.length + m < 1000000) (hbase : base ≤ w.heap.size)
    (h : ∀ v' w', OwnD w' base v' (l ++ ys) → Below base w w' → w.grownBy w' v.ownBlock → wpList Try.prog ops Q rest (a.put o.dst v') w') : wpList Try.prog ops Q (o :: rest) a w :=
  wpList_cat w hgd s x _ ho base 36 _ 2 16 _ Try.underlying31 info_dop (by rfl) (by decide) (fun _ => rfl) cop_one v l hs hown A m c ys hx hys hlen (by decide) hbase h
end
/-- A slice that was written out is the call's own. -/
theorem own_blk {α : Type} {w : World} {g base : Nat} {t : TypeId} {cs : Array Value} {size : Nat} {cells : α → List Value} {l : List α} (hsz : ∀ x, (cells x).length = size) (h : Blk w g t cs) (hc : cs = (l.flatMap cells).toArray) (hm : l.length ≤ maxLen) (hb : base ≤ g) :
    Own w base t size cells (.slice (some ⟨g, 0, none⟩) l.length l.length) l := by
  have hl := flatMap_len hsz l
  refine ⟨hl, .inr ⟨g, l.length, cs, rfl, hb, h, Nat.le_refl _, hm, by rw [hc]; simpa using hl, ?_⟩⟩
  rw [hc]
  simp [List.take_of_length_le, hl]
theorem Own.base_ {α : Type} {w : World} {base e size : Nat} {cells : α → List Value} {v : Value} {l : List α} (h : Own w base e size cells v l) : ∀ k, v.ownBlock = some k → base ≤ k ∧ k < w.heap.size := fun k hk => World.ownsRow.lt h k hk
theorem allq_take (n : Nat) (k : Int) (i : Nat) (hi : i ≤ n) : True := trivial
/-- What a call hands back: a list of its own. -/
def OwnedC (w : World) (l : List COp) (e : Ending) (w' : World) : Prop := ∃ v, e = .returned v ∧ OwnC w' w.heap.size v l ∧ Below w.heap.size w w'
def OwnedD (w : World) (l : List COp) (e : Ending) (w' : World) : Prop := ∃ v, e = .returned v ∧ OwnD w' w.heap.size v l ∧ Below w.heap.size w w'
theorem calls_one (k h : Int) (w : World) : Calls Try.prog 101 #[.int .i64 k, .int .i64 h] w (OwnedC w (oneq k h)) := by
  have HO := Lib.hid (own_blk (base := w.heap.size) (l := oneq k h) cop_len (Blk.new w 35 #[.int .i64 k, .int .i64 h, .int .i64 4, .int .i64 0, .int .i64 5, .int .i64 h]) rfl (by unfold oneq maxLen; simp) (Nat.le_refl _))
  go_enter Try.func101, Try.ntmps101
  go_wp2
  go_ret
  exact ⟨_, rfl, HO.out, by go_grown⟩
theorem calls_Cuts (c : Cfg) (w : World) : Calls Try.prog 58 #[.agg c.row] w fun e w' => e = .returned (.int .i64 c.str) ∧ Below w.heap.size w w' := by
  go_enter Try.func58, Try.ntmps58
  go_wp2
  go_ret
  exact ⟨rfl, by go_grown⟩
theorem calls_Line (c : Cfg) (w : World) (h : c.str ≤ 64) (h0 : -1 ≤ c.str) : Calls Try.prog 57 #[.agg c.row] w fun e w' => e = .returned (.int .i64 (c.str + 1)) ∧ Below w.heap.size w w' := by
  go_enter Try.func57, Try.ntmps57
  go_wp2
  go_ret
  exact ⟨rfl, by go_grown⟩
theorem calls_all (c : Cfg) (k : Int) (s : Nat) (w : World) (hs : c.str = s) (h64 : s ≤ 64) : Calls Try.prog 102 #[.agg c.row, .int .i64 k] w (OwnedC w (allq s k)) := by
  obtain ⟨str, smp, lod, his⟩ := c
  simp only at hs
  subst hs
  have X := Lib.hid (And.intro (Blk.new w 23 (Cfg.row ⟨s, smp, lod, his⟩)) (show Below w.heap.size w (w.alloc (.cells (Cfg.row ⟨s, smp, lod, his⟩) 23)) by go_grown))
  go_enter Try.func102, Try.ntmps102
  go_wp2
  go_loopw [5, 9] (fun v i wr => ∃ j : Nat, j ≤ s ∧ i = .int .i64 j ∧ (∃ A n c, v = .slice A n c) ∧ OwnC wr w.heap.size v (allq j k) ∧ Below w.heap.size w wr) (fun _ i _ => s - (intOf i).toNat)
  case atStart => exact ⟨0, Nat.zero_le _, rfl, ⟨_, _, _, rfl⟩, Own.nil _ _ _ _ _, X.out.2⟩
  case round =>
    obtain ⟨j, hj, rfl, ⟨A, n, c, rfl⟩, ho, hb⟩ := hrel
    have HO := Lib.hid ho
    have HB := Lib.hid hb
    have hbs := hb.size
    clear ho hb
    by_cases hlt : j < s
    · have hji : (j : Int) < (s : Int) := by omega
      have HLn := Lib.hid (show (allq j k).length < 1000000 by rw [allq_len]; omega)
      have HN := Lib.hid (allq_snoc j k)
      go_wp2_with (at_builtin; refine push_c _ rfl (.tmp 12) (.tmp 16) rfl w.heap.size (.slice A n c) _ rfl (HO.out.alloc _) wr.heap.size 35 1 ⟨k, (j : Int)⟩ rfl (Blk.new _ _ _) HLn.out (by simp; omega) ?_; intro v' w1 ho hb2 hg2; obtain ⟨A2, n2, c2, rfl, -, -⟩ := ho.shape cop_len; have O2 := Lib.hid ho; have B2 := Lib.hid ((HB.out.alloc HB.out.size _).trans hb2); clear ho hb2 hg2)
      go_roundw
      case rel => exact ⟨j + 1, by omega, by go_num, ⟨_, _, _, rfl⟩, by rw [HN.out]; exact O2.out, B2.out⟩
      case measure => simp [intOf]; omega
    · obtain rfl : j = s := by omega
      go_wp2
      go_ret
      exact ⟨_, rfl, HO.out, HB.out⟩
end Go.Proofs.Ytkjmacdekfbfhaa
