/- Maps with whole numbers as keys, their elements whatever values: one word for a block that is such a map, and the laws at the operations. -/
import Derived.Test.YtkjmacdekfbfhaaBlk
import Derived.Maps.RangeWalk
import Derived.Maps.Ext
namespace Go.Proofs.Ytkjmacdekfbfhaa
open Go.RowKit Go.Maps
set_option linter.unusedSimpArgs false
set_option linter.unusedVariables false
set_option maxHeartbeats 400000

/-- An element as it is, whatever it is. -/
def rawR (v : Value) : Option (DataW Value × List MemPlace) := some (.held v, [])
/-- What a map reads as: at x stands f x, where there is one; the keys are ks, each once. -/
def MapView (D : DataW Value) (f : Int → Option Value) (ks : List Int) : Prop :=
  Maps.size D = ks.length ∧ ks.Nodup ∧ (∀ x, x ∈ ks ↔ (f x).isSome = true) ∧ (∀ x, f x = none → Maps.has D (.int .i64 x) = false) ∧ ∀ x v, f x = some v → ∀ z, D.atKey (.int .i64 x) z = .held v
/-- Block b is a map with keys of type k: at x stands f x, where there is one; the keys are ks, each once. -/
def MapIs (P : Program) (w : World) (k : TypeId) (b : Nat) (f : Int → Option Value) (ks : List Int) : Prop :=
  ∃ D : DataW Value, w.ownsMap P k rawR b ks.length D ∧ MapView D f ks
theorem key_i64 {P : Program} {k : TypeId} (hk : P.underlying k = some (.int .i64)) {x : Int} (hx : I64 x) : keyOf P k (.int .i64 x) = some (.int .i64 x) := keyOf_int_mk hk (WalkArith.wf_i64 hx)
theorem ownsMap_tight {H : Type} {P : Program} {k : TypeId} {R : Value → Option (DataW H × List MemPlace)} {w : World} {b n : Nat} {D : DataW H} (h : w.ownsMap P k R b n D) : w.ownsMap P k R b (Maps.size D) D := by
  obtain ⟨es, clock, hb, F, hs, rfl⟩ := h
  exact ⟨es, clock, hb, F, by show es.size ≤ List.length _; rw [length_sorted]; simp, rfl⟩
section
variable {P : Program} {k : TypeId} {w w' : World} {b : Nat} {f : Int → Option Value} {ks : List Int}
theorem MapView.made : MapView (.map []) (fun _ => none) [] := ⟨rfl, List.nodup_nil, by simp, fun _ _ => rfl, fun x v h => by cases h⟩
theorem MapIs.made (P : Program) (w : World) (k : TypeId) : MapIs P (w.alloc (.map #[] 0)) k w.heap.size (fun _ => none) [] :=
  ⟨.map [], World.ownsMap_made w P k rawR, MapView.made⟩
theorem MapIs.lt (h : MapIs P w k b f ks) : b < w.heap.size := by obtain ⟨D, h, _⟩ := h; exact h.lt
theorem MapIs.grown {row : Option Nat} (h : MapIs P w k b f ks) (hg : w.grownBy w' row) (hne : some b ≠ row) : MapIs P w' k b f ks := by
  obtain ⟨D, h1, h2⟩ := h
  exact ⟨D, h1.kept hg hne, h2⟩
theorem MapIs.block (h : MapIs P w k b f ks) (hb : w'.heap[b]? = w.heap[b]?) : MapIs P w' k b f ks := by
  obtain ⟨D, ⟨es, clock, h1, h2⟩, h3⟩ := h
  exact ⟨D, ⟨es, clock, hb.trans h1, h2⟩, h3⟩
theorem MapIs.below {B : Nat} (h : MapIs P w k b f ks) (hb : Below B w w') (hB : b < B) : MapIs P w' k b f ks := h.block (hb.block b hB)
theorem MapIs.call (h : MapIs P w k b f ks) (hb : Below w.heap.size w w') : MapIs P w' k b f ks := h.below hb h.lt
theorem MapIs.alloc (h : MapIs P w k b f ks) (o : Obj) : MapIs P (w.alloc o) k b f ks := h.grown (World.grownBy_alloc w o none) (by simp)
theorem MapIs.far (h : MapIs P w k b f ks) {p : Addr} (hp : b ≠ p.block) (u : Value) : MapIs P (w.setCell p u) k b f ks := h.block (Below.heap_setCell w p u b hp)
theorem MapIs.len_ (h : MapIs P w k b f ks) {t e : TypeId} (ht : P.underlying t = some (.map k e)) (ty : TypeId) : (Builtin.len_ #[t] ty #[.map (some b)]).run P w = .ok (.int .i64 (ks.length : Int)) w := by
  obtain ⟨D, h1, h2, _⟩ := h
  rw [← h2]
  exact h1.len ht ty
theorem MapIs.look (h : MapIs P w k b f ks) (hk : P.underlying k = some (.int .i64)) {t e : TypeId} (ht : P.underlying t = some (.map k e)) {z : Value} (hz : (zeroValue e).run P w = .ok z w) {x : Int} (hx : I64 x) :
    (Instr.lookup t (.map (some b)) (.int .i64 x) false).run P w = .ok ((f x).getD z) w := by
  obtain ⟨D, h1, _, _, _, h3, h4⟩ := h
  obtain ⟨v, ps, hrun, hv⟩ := h1.lookup (int_keyed hk) ht hz (zd := .held z) (zp := []) rfl (key_i64 hk hx)
  rw [hrun]
  have e : DataW.held v = D.atKey (.int .i64 x) (.held z) := by
    unfold rawR at hv
    injection hv with hv
    exact congrArg Prod.fst hv
  cases hf : f x with
  | none => rw [atKey_of_not_has (h3 x hf)] at e; injection e with e; rw [e]; rfl
  | some u => rw [h4 x u hf] at e; injection e with e; rw [e]; rfl
theorem MapIs.look_ok (h : MapIs P w k b f ks) (hk : P.underlying k = some (.int .i64)) {t e : TypeId} (ht : P.underlying t = some (.map k e)) {z : Value} (hz : (zeroValue e).run P w = .ok z w) {x : Int} (hx : I64 x) :
    (Instr.lookup t (.map (some b)) (.int .i64 x) true).run P w = .ok (.tuple #[(f x).getD z, .bool (f x).isSome]) w := by
  obtain ⟨D, h1, _, _, _, h3, h4⟩ := h
  obtain ⟨v, ps, hrun, hv⟩ := h1.look_ok (int_keyed hk) ht hz (zd := .held z) (zp := []) rfl (key_i64 hk hx)
  rw [hrun]
  have e : DataW.held v = D.atKey (.int .i64 x) (.held z) := by
    unfold rawR at hv
    injection hv with hv
    exact congrArg Prod.fst hv
  cases hf : f x with
  | none => rw [atKey_of_not_has (h3 x hf)] at e; injection e with e; rw [e, h3 x hf]; rfl
  | some u => rw [h4 x u hf] at e; injection e with e; rw [e, has_true_of_atKey (h4 x u hf)]; rfl
/-- A key laid in. -/
def keyPut (ks : List Int) (x : Int) : List Int := if x ∈ ks then ks else ks ++ [x]
def fPut (f : Int → Option Value) (x : Int) (v : Value) : Int → Option Value := fun y => if y = x then some v else f y
def fDel (f : Int → Option Value) (x : Int) : Int → Option Value := fun y => if y = x then none else f y
theorem lit_ne {x y : Int} (h : y ≠ x) : (Lit.int .i64 y) ≠ .int .i64 x := fun e => h (by injection e)
theorem MapView.put {D : DataW Value} (hT : Maps.Tidy D) (h : MapView D f ks) (x : Int) (v : Value) : MapView (D.put (.int .i64 x) (.held v)) (fPut f x v) (keyPut ks x) := by
  obtain ⟨h1, h2, h3, h4, h5⟩ := h
  have hx : Maps.has D (.int .i64 x) = decide (x ∈ ks) := by
    cases hf : f x with
    | none => rw [h4 x hf]; have : x ∉ ks := fun hm => by have := (h3 x).1 hm; rw [hf] at this; cases this
              simp [this]
    | some u => rw [has_true_of_atKey (h5 x u hf)]; have : x ∈ ks := (h3 x).2 (by rw [hf]; rfl)
                simp [this]
  refine ⟨?_, ?_, fun y => ?_, fun y hy => ?_, fun y u hy z => ?_⟩
  · rw [size_put hT, hx, h1]
    unfold keyPut
    by_cases hm : x ∈ ks <;> simp [hm]
  · unfold keyPut
    split
    · exact h2
    · rename_i hm
      exact List.nodup_append.2 ⟨h2, by simp, by simp; exact fun a ha e => hm (e ▸ ha)⟩
  · unfold fPut keyPut
    by_cases e : y = x
    · subst e
      by_cases hm : y ∈ ks <;> simp [hm]
    · rw [if_neg e, ← h3 y]
      by_cases hm : x ∈ ks <;> simp [hm, e]
  · unfold fPut at hy
    by_cases e : y = x
    · rw [if_pos e] at hy; cases hy
    · rw [if_neg e] at hy
      rw [has_put_other (lit_ne e), h4 y hy]
  · unfold fPut at hy
    by_cases e : y = x
    · rw [if_pos e] at hy
      cases hy
      subst e
      exact atKey_put_same hT.isMap (show WideAt.IsKeyLit (Lit.int .i64 y) from trivial) _ _
    · rw [if_neg e] at hy
      rw [atKey_put_other (lit_ne e), h5 y u hy]
theorem MapView.del {D : DataW Value} (hT : Maps.Tidy D) (h : MapView D f ks) (x : Int) : MapView (D.del (.int .i64 x)) (fDel f x) (ks.filter fun y => decide (y ≠ x)) := by
  obtain ⟨h1, h2, h3, h4, h5⟩ := h
  refine ⟨?_, h2.filter _, fun y => ?_, fun y hy => ?_, fun y u hy z => ?_⟩
  · have e := size_del (k := .int .i64 x) hT
    rw [h1] at e
    cases hf : f x with
    | none =>
      have hm : x ∉ ks := fun hm => by have := (h3 x).1 hm; rw [hf] at this; cases this
      rw [h4 x hf] at e
      simp at e
      rw [e, List.filter_eq_self.2]
      intro a ha
      simp
      exact fun e => hm (e ▸ ha)
    | some u =>
      have hm : x ∈ ks := (h3 x).2 (by rw [hf]; rfl)
      rw [has_true_of_atKey (h5 x u hf)] at e
      simp at e
      have hl : (ks.filter fun y => decide (y ≠ x)).length + 1 = ks.length := by
        have := h2.erase_eq_filter x
        have e2 : (ks.filter fun y => decide (y ≠ x)) = ks.erase x := by rw [this]; congr 1; funext y; simp [bne, BEq.beq]
        rw [e2, List.length_erase_of_mem hm]
        have := List.length_pos_of_mem hm
        omega
      omega
  · unfold fDel
    by_cases e : y = x
    · subst e; simp
    · rw [if_neg e, ← h3 y]; simp [e]
  · unfold fDel at hy
    by_cases e : y = x
    · subst e; exact has_del_same
    · rw [if_neg e] at hy
      rw [has_del_other (lit_ne e), h4 y hy]
  · unfold fDel at hy
    by_cases e : y = x
    · rw [if_pos e] at hy; cases hy
    · rw [if_neg e] at hy
      rw [atKey_del_other (lit_ne e), h5 y u hy]
theorem MapIs.put (h : MapIs P w k b f ks) (hk : P.underlying k = some (.int .i64)) {t e : TypeId} (ht : P.underlying t = some (.map k e)) (hn : ks.length < maxLen) {x : Int} (hx : I64 x) (v : Value) :
    ∃ w', (Instr.mapUpdate t (.map (some b)) (.int .i64 x) v).run P w = .ok () w' ∧ MapIs P w' k b (fPut f x v) (keyPut ks x) ∧ w.grownBy w' (some b) := by
  obtain ⟨D, h1, h2⟩ := h
  have hT := h1.tidy (int_keyed hk)
  obtain ⟨w', r1, r2, r3⟩ := h1.update (int_keyed hk) ht hn (key_i64 hk hx) (d := .held v) (ps := []) (val := v) rfl
  have hv := h2.put hT x v
  exact ⟨w', r1, ⟨_, by have := ownsMap_tight r2; rw [hv.1] at this; exact this, hv⟩, r3⟩
theorem MapIs.del (h : MapIs P w k b f ks) (hk : P.underlying k = some (.int .i64)) {t e : TypeId} (ht : P.underlying t = some (.map k e)) {x : Int} (hx : I64 x) (ty : TypeId) :
    ∃ w', (Builtin.delete_ #[t, k] ty #[.map (some b), .int .i64 x]).run P w = .ok (.tuple #[]) w' ∧ MapIs P w' k b (fDel f x) (ks.filter fun y => decide (y ≠ x)) ∧ w.grownBy w' (some b) := by
  obtain ⟨D, h1, h2⟩ := h
  have hT := h1.tidy (int_keyed hk)
  obtain ⟨w', r1, r2, r3⟩ := h1.drop (int_keyed hk) ht (key_i64 hk hx) ty
  have hv := h2.del hT x
  exact ⟨w', r1, ⟨_, by have := ownsMap_tight r2; rw [hv.1] at this; exact this, hv⟩, r3.grown⟩
theorem MapIs.mono_f (h : MapIs P w k b f ks) {f' : Int → Option Value} {ks' : List Int} (hf : f = f') (hk : ks = ks') : MapIs P w k b f' ks' := by subst hf; subst hk; exact h
end
section
variable {P : Program} (w : World) {ops : Array Oper} {rest : List Oper} {o : Oper} {a : Act} {Q : Exit → Act → World → Prop}
theorem wpList_map_look (hg : o.guard = none) (m x : Operand) (t : TypeId) (hop : o.op = Op.lookup t m x false) (k e : TypeId) (hk : P.underlying k = some (.int .i64)) (ht : P.underlying t = some (.map k e)) (z : Value) (hz : (zeroValue e).run P w = .ok z w)
    (b : Nat) (f : Int → Option Value) (ks : List Int) (hm : a.eval m = .map (some b)) (h : MapIs P w k b f ks) (y : Int) (hx : a.eval x = .int .i64 y) (hy : I64 y)
    (hK : wpList P ops Q rest (a.put o.dst ((f y).getD z)) w) : wpList P ops Q (o :: rest) a w := by
  refine wpList_plain hg fun K' hK' => ?_
  have hrun := h.look hk ht hz hy
  unfold Oper.wp
  simp [execOp, hop, hm, hx, hrun, Result.andThen]
  exact hK' _ _ hK
theorem wpList_map_put (hg : o.guard = none) (m x v : Operand) (t : TypeId) (hop : o.op = Op.mapUpdate t m x v) (k e : TypeId) (hk : P.underlying k = some (.int .i64)) (ht : P.underlying t = some (.map k e))
    (b : Nat) (f : Int → Option Value) (ks : List Int) (hm : a.eval m = .map (some b)) (h : MapIs P w k b f ks) (hn : ks.length < maxLen) (y : Int) (hx : a.eval x = .int .i64 y) (hy : I64 y) (u : Value) (hv : a.eval v = u)
    (hK : ∀ w', MapIs P w' k b (fPut f y u) (keyPut ks y) → w.grownBy w' (some b) → wpList P ops Q rest (a.put o.dst undef) w') : wpList P ops Q (o :: rest) a w := by
  refine wpList_plain hg fun K' hK' => ?_
  obtain ⟨w', hrun, r1, r2⟩ := h.put hk ht hn hy u
  unfold Oper.wp
  simp [execOp, hop, hm, hx, hv, hrun, Result.andThen]
  exact hK' _ _ (hK w' r1 r2)
theorem wpList_map_del (hg : o.guard = none) (m x : Operand) (t k : TypeId) (hop : o.op = Op.call { callee := Callee.builtin Builtin.delete, args := #[m, x], argTypes := #[t, k] }) (e : TypeId) (hk : P.underlying k = some (.int .i64)) (ht : P.underlying t = some (.map k e))
    (b : Nat) (f : Int → Option Value) (ks : List Int) (hm : a.eval m = .map (some b)) (h : MapIs P w k b f ks) (y : Int) (hx : a.eval x = .int .i64 y) (hy : I64 y)
    (hK : ∀ w', MapIs P w' k b (fDel f y) (ks.filter fun z => decide (z ≠ y)) → w.grownBy w' (some b) → wpList P ops Q rest (a.put o.dst (.tuple #[])) w') : wpList P ops Q (o :: rest) a w := by
  refine wpList_plain hg fun K' hK' => ?_
  obtain ⟨w', hrun, r1, r2⟩ := h.del hk ht hy o.type
  unfold Oper.wp
  simp [execOp, hop, resolve, invoke, builtin, hm, hx, hrun, Result.andThen]
  exact hK' _ _ (hK w' r1 r2)
theorem wpList_map_len (hg : o.guard = none) (m : Operand) (t : TypeId) (hop : o.op = Op.call { callee := Callee.builtin Builtin.len, args := #[m], argTypes := #[t] }) (k e : TypeId) (ht : P.underlying t = some (.map k e))
    (b : Nat) (f : Int → Option Value) (ks : List Int) (hm : a.eval m = .map (some b)) (h : MapIs P w k b f ks)
    (hK : wpList P ops Q rest (a.put o.dst (.int .i64 (ks.length : Int))) w) : wpList P ops Q (o :: rest) a w := by
  refine wpList_plain hg fun K' hK' => ?_
  have hrun := h.len_ ht o.type
  unfold Oper.wp
  simp [execOp, hop, resolve, invoke, builtin, hm, hrun, Result.andThen]
  exact hK' _ _ hK
end
/-- A range over a map under way: block b is the map, block r the iterator; lf are the keys that are still to come. -/
def MapRng (P : Program) (w : World) (k : TypeId) (b r : Nat) (f : Int → Option Value) (ks : List Int) (lf : Int → Bool) (cnt : Nat) : Prop :=
  ∃ (D : DataW Value) (left : Lit → Bool), w.ranges P k rawR b r ks.length D left cnt ∧ MapView D f ks ∧ (∀ x, I64 x → lf x = left (.int .i64 x)) ∧ (∀ x, lf x = true → x ∈ ks) ∧ ∀ x ∈ ks, I64 x
section
variable {P : Program} {k : TypeId} {w w' : World} {b r : Nat} {f : Int → Option Value} {ks : List Int} {lf : Int → Bool} {cnt : Nat}
theorem MapRng.is_ (h : MapRng P w k b r f ks lf cnt) : MapIs P w k b f ks := by
  obtain ⟨D, left, h1, h2, _⟩ := h
  exact ⟨D, h1.owns, h2⟩
theorem MapRng.left_eq (h : MapRng P w k b r f ks lf cnt) : w.rangeLeft b r = cnt := by obtain ⟨D, left, h1, _⟩ := h; exact h1.left_eq
theorem MapRng.ne (h : MapRng P w k b r f ks lf cnt) : r ≠ b := by obtain ⟨D, left, h1, _⟩ := h; exact h1.ne
theorem MapRng.lt (h : MapRng P w k b r f ks lf cnt) : r < w.heap.size := by obtain ⟨D, left, h1, _⟩ := h; exact h1.lt
theorem MapRng.kept {row : Option Nat} (h : MapRng P w k b r f ks lf cnt) (hg : w.grownBy w' row) (hb : some b ≠ row) (hr : some r ≠ row) : MapRng P w' k b r f ks lf cnt := by
  obtain ⟨D, left, h1, h2⟩ := h
  exact ⟨D, left, h1.kept hg hb hr, h2⟩
end
section
variable {P : Program} (w : World) {ops : Array Oper} {rest : List Oper} {o : Oper} {a : Act} {Q : Exit → Act → World → Prop}
theorem wpList_map_range (hg : o.guard = none) (m : Operand) (t : TypeId) (hop : o.op = Op.range t m) (k e : TypeId) (hk : P.underlying k = some (.int .i64)) (ht : P.underlying t = some (.map k e))
    (b : Nat) (f : Int → Option Value) (ks : List Int) (hm : a.eval m = .map (some b)) (h : MapIs P w k b f ks) (h64 : ∀ x ∈ ks, I64 x)
    (hK : ∀ w', MapRng P w' k b w.heap.size f ks (fun x => decide (x ∈ ks)) ks.length → w.grownBy w' none → w'.heap.size = w.heap.size + 1 → wpList P ops Q rest (a.put o.dst (.pointer (some ⟨w.heap.size, 0, none⟩))) w') :
    wpList P ops Q (o :: rest) a w := by
  obtain ⟨D, h1, h2⟩ := h
  have h2' := h2
  obtain ⟨e1, e2, e3, e4, e5⟩ := h2'
  refine wpList_range_own w hg m t hop k e (int_keyed hk) ht rawR b _ D hm h1 ?_
  intro w' r1 r2 r3
  refine hK w' ⟨D, _, by rw [e1] at r1; exact r1, h2, fun x _ => ?_, fun x hx => by simpa using hx, h64⟩ r2 r3
  cases hf : f x with
  | none => rw [e4 x hf]; have : x ∉ ks := fun hm => by have := (e3 x).1 hm; rw [hf] at this; cases this
            simp [this]
  | some u => rw [has_true_of_atKey (e5 x u hf)]; have : x ∈ ks := (e3 x).2 (by rw [hf]; rfl)
              simp [this]
theorem wpList_map_next (hg : o.guard = none) (it : Operand) (hop : o.op = Op.next it false) (k : TypeId) (hk : P.underlying k = some (.int .i64)) (b r : Nat) (f : Int → Option Value) (ks : List Int) (lf : Int → Bool) (cnt : Nat)
    (hit : a.eval it = .pointer (some ⟨r, 0, none⟩)) (h : MapRng P w k b r f ks lf cnt)
    (hDone : (∀ x ∈ ks, lf x = false) → wpList P ops Q rest (a.put o.dst (.tuple #[.bool false])) w)
    (hMore : ∀ (x : Int) (v : Value) (w' : World) (cnt' : Nat), I64 x → x ∈ ks → lf x = true → f x = some v → MapRng P w' k b r f ks (fun y => lf y && decide (y ≠ x)) cnt' → cnt' < cnt → w.grownBy w' (some r) → w'.heap.size = w.heap.size →
      (Instr.entry (.pointer (some ⟨r, 0, none⟩))).run P w' = .ok (.tuple #[.int .i64 x, v]) w' → wpList P ops Q rest (a.put o.dst (.tuple #[.bool true, .int .i64 x, v])) w') :
    wpList P ops Q (o :: rest) a w := by
  obtain ⟨D, left, h1, h2, h3, h4, h5⟩ := h
  refine wpList_next_ranges w hg it hop k (int_keyed hk) rawR (Value.int .i64) (fun v : Value => v) (fun key kl hkey => by obtain ⟨x, rfl, _⟩ := Maps.keyOf_int_inv hk hkey; exact ⟨x, rfl⟩) (fun v y _ => ⟨v, rfl⟩) b r _ D left cnt hit h1 ?_ ?_
  · intro _ hl
    exact hDone fun x hx => by rw [h3 x (h5 x hx)]; exact hl _
  · intro x v kl y w' cnt' hkey hlk hv hat hrg hlt hgr hsz hen
    obtain ⟨x', ex, rfl, hwx⟩ := Maps.keyOf_int_inv hk hkey
    cases ex
    have h64 : I64 x := I64_of_wf hwx
    have hlx : lf x = true := by rw [h3 x h64]; exact hlk
    have hm := h4 x hlx
    have hfx : f x = some v := by
      obtain ⟨u, hu⟩ := Option.isSome_iff_exists.1 ((h2.2.2.1 x).1 hm)
      have := hat .nil
      rw [h2.2.2.2.2 x u hu] at this
      unfold rawR at hv
      injection hv with hv
      rw [← congrArg Prod.fst hv] at this
      injection this with this
      rw [hu, this]
    refine hMore x v w' cnt' h64 hm hlx hfx ⟨D, _, hrg, h2, fun y hy => ?_, fun y hy => ?_, h5⟩ hlt hgr hsz hen
    · simp only
      rw [h3 y hy]
      by_cases e : y = x
      · subst e; rw [WideAt.sameKey_self (show WideAt.IsKeyLit (.int .i64 y) from trivial)]; simp
      · rw [Maps.sameKey_ne (lit_ne e)]; simp [e]
    · simp at hy
      exact h4 y hy.1
end
end Go.Proofs.Ytkjmacdekfbfhaa
