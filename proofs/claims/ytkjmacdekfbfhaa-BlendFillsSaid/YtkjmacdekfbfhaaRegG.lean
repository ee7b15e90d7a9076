/- A region that draws its order: a read that others may come ahead of is taken first; what stands behind it is a chain. -/
import Derived.Test.YtkjmacdekfbfhaaBlk
import Derived.OrdersHeld
import Derived.RegionTactic
namespace Go.Proofs.Ytkjmacdekfbfhaa
open Go.RowKit
set_option linter.unusedSimpArgs false
set_option linter.unusedVariables false

section
variable {P : Program} {ops : Array Oper} {Q : Exit → Act → World → Prop} {md : Region.Mode}

/-- Whatever order is picked; behind each operation that is not among 'late' the world meets 'S'. -/
def anyG (P : Program) (md : Region.Mode) (ops : Array Oper) (Q : Exit → Act → World → Prop) (late : Nat → Bool) (S : World → Prop) : Nat → Array Bool → Act → World → Prop
  | 0, listed, a, w => Region.ready md ops listed = [] ∧ Q .normal a w
  | n + 1, listed, a, w => (Region.ready md ops listed = [] → Q .normal a w) ∧
      ∀ j ∈ Region.ready md ops listed, wpOp P ops Q j (fun a' w' => (late j = false → S w') ∧ anyG P md ops Q late S n (listed.setIfInBounds j true) a' w') a w

theorem any_of_anyG {late : Nat → Bool} {S : World → Prop} : ∀ (n : Nat) (listed : Array Bool) (a : Act) (w : World), anyG P md ops Q late S n listed a w → wpAny P md ops Q n listed a w
  | 0, _, _, _, h => h
  | n + 1, _, _, _, h => ⟨h.1, fun j hj => wpOp_mono (fun a' w' h' => any_of_anyG n _ a' w' h'.2) (h.2 j hj)⟩

/-- What stands among 'late' waits for 'i', or for another of them. -/
def lateOk (md : Region.Mode) (ops : Array Oper) (i : Nat) (late : Nat → Bool) : Bool :=
  (List.range ops.size).all fun j => !late j || match ops[j]? with
    | some o => o.after.any fun e => Region.binds md e && (e.on == i || late e.on)
    | none => true

theorem anyG_first {late : Nat → Bool} {S : World → Prop} {i : Nat} {oi : Oper} {v : Value} (hi : ops[i]? = some oi) (hsel : ∀ (j : Nat) (o : Oper) cs b, ops[j]? = some o → o.op ≠ .select cs b)
    (hl : lateOk md ops i late = true) (hli : late i = false) (hQ : ∀ c a w, Q (.panic c) (a.put oi.dst v) w → Q (.panic c) a w) :
    ∀ (n : Nat) (listed : Array Bool) (a : Act) (w : World),
      (∀ j oj, ops[j]? = some oj → j ≠ i → listed.getD j true = false → (∀ e ∈ oj.after, Region.binds md e = true → e.on ≠ i) → oi.apart ops oj = true) →
      (∀ j, late j = true → listed.getD j false = false) →
      i ∈ Region.ready md ops listed → YieldsIf P ops S oi v a → S w →
      anyG P md ops Q late S n (listed.setIfInBounds i true) (a.put oi.dst v) w → anyG P md ops Q late S (n + 1) listed a w := by
  intro n
  induction n with
  | zero =>
    intro listed a w _ _ hr hy hS H
    refine ⟨fun h => (by rw [h] at hr; cases hr), fun j hj => ?_⟩
    by_cases e : j = i
    · subst e; exact hy.wpOp hi hS ⟨fun _ => hS, H⟩
    · have h2 := ready_mono hj e
      rw [H.1] at h2; cases h2
  | succ n ih =>
    intro listed a w hfree hlate hr hy hS H
    refine ⟨fun h => (by rw [h] at hr; cases hr), fun j hj => ?_⟩
    by_cases e : j = i
    · subst e; exact hy.wpOp hi hS ⟨fun _ => hS, H⟩
    · have h1 := H.2 j (ready_mono hj e)
      obtain ⟨hju, oj, hoj, hall⟩ := mem_ready.1 hj
      have hiu := (mem_ready.1 hr).1
      have hiF : listed.getD i false = false := by
        rcases Nat.lt_or_ge i listed.size with h' | h'
        · simp [h'] at hiu ⊢; exact hiu
        · simp [Array.getElem?_eq_none h']
      have hne : ∀ x ∈ oj.after, Region.binds md x = true → x.on ≠ i := fun x hx hb heq => by
        have := hall x hx hb
        rw [heq, hiF] at this; cases this
      have hjl : late j = false := by
        cases hlj : late j with
        | false => rfl
        | true =>
          exfalso
          have h2 := List.all_eq_true.1 hl j (List.mem_range.2 (Array.getElem?_eq_some_iff.1 hoj).1)
          rw [hlj, hoj] at h2
          simp only [Bool.not_true, Bool.false_or] at h2
          obtain ⟨x, hx, hb⟩ := Array.any_eq_true'.1 h2
          simp only [Bool.and_eq_true, Bool.or_eq_true, beq_iff_eq] at hb
          rcases hb.2 with h3 | h3
          · exact hne x hx hb.1 h3
          · have h4 := hall x hx hb.1
            rw [hlate _ h3] at h4; cases h4
      have h2 := wpOp_putIf hoj (hfree j oj hoj e hju hne) (fun cs b => hsel i oi cs b hi) (fun cs b => hsel j oj cs b hoj) hQ hy h1
      refine wpOp_mono (fun a' w' h3 => ⟨fun _ => h3.2.1 hjl, ih (listed.setIfInBounds j true) a' w' ?_ ?_ (ready_mono hr (Ne.symm e)) h3.1 (h3.2.1 hjl) ?_⟩) h2
      · intro k ok hk hki hun hno
        refine hfree k ok hk hki ?_ hno
        by_cases hjk : j = k
        · subst hjk; exact hju
        · rw [getD_set_ne true hjk] at hun; exact hun
      · intro k hk
        by_cases hjk : j = k
        · subst hjk; rw [hk] at hjl; cases hjl
        · rw [getD_set_ne false hjk]; exact hlate k hk
      · rw [Array.setIfInBounds_comm _ _ e]; exact h3.2.2

theorem anyG_take {late : Nat → Bool} {S : World → Prop} {i : Nat} {oi : Oper} {v : Value} {n : Nat} {listed : Array Bool} {a : Act} {w : World} (hi : ops[i]? = some oi)
    (hs : Region.noSelect ops = true) (hf : Region.free md ops listed i = true) (hr : (Region.ready md ops listed).contains i = true) (hl : lateOk md ops i late = true) (hli : late i = false)
    (hll : (List.range ops.size).all (fun j => !late j || !listed.getD j false) = true) (hlt : ∀ j, late j = true → j < ops.size)
    (hQ : ∀ c a w, Q (.panic c) (a.put oi.dst v) w → Q (.panic c) a w) (hy : YieldsIf P ops S oi v a) (hS : S w)
    (h : anyG P md ops Q late S n (listed.setIfInBounds i true) (a.put oi.dst v) w) : anyG P md ops Q late S (n + 1) listed a w :=
  anyG_first hi (Region.noSelect_spec hs) hl hli hQ n listed a w (Region.free_spec hi hf) (fun j hj => by
    have := List.all_eq_true.1 hll j (List.mem_range.2 (hlt j hj))
    rw [hj] at this
    simpa using this) (by simpa using hr) hy hS h

/-- One that reads only comes up alone. -/
theorem anyG_same {late : Nat → Bool} {S : World → Prop} {k : Nat} {o : Oper} {v : Value} {n : Nat} {listed : Array Bool} {a : Act} {w : World} (hr : Region.ready md ops listed = [k]) (hi : ops[k]? = some o) (hw : Region.wanted o (yielded ops a.tmps) = true) (hS : S w)
    (hv : (execOp a.eval o).run P w = .ok (.value v) w) (h : anyG P md ops Q late S n (listed.setIfInBounds k true) (a.put o.dst v) w) : anyG P md ops Q late S (n + 1) listed a w := by
  refine ⟨fun h0 => (by rw [hr] at h0; cases h0), fun j hj => ?_⟩
  rw [hr, List.mem_singleton] at hj; subst hj
  unfold wpOp
  simp only [hi, hw, if_true]
  refine .inl ?_
  unfold Oper.wp
  rw [hv]
  exact ⟨fun _ => hS, h⟩
theorem wp_quietly {o : Oper} {a : Act} {w : World} {K : Act → World → Prop} {Q1 Q2 : Exit → Act → World → Prop} (hp : ∀ c a w, ¬ Q1 (.panic c) a w) (hl : ¬ LetsOut Q1) (h : o.wp P a w K Q1) : o.wp P a w K Q2 := by
  unfold Oper.wp at *
  generalize (execOp a.eval o).run P w = r at *
  cases r with
  | ok x w' =>
    cases x <;> simp only [Oper.upon] at h ⊢
    case value => exact h
    case skip => exact h
    case defer => exact h
    case enter => exact Calls.mono h fun e w'' he => (by cases e <;> first | exact he | exact absurd he (hp _ _ _) | exact absurd he hl)
    case row => exact h
  | halt x w' =>
    cases x <;> simp only [Oper.upon] at h ⊢
    case panic => exact absurd h (hp _ _ _)
/-- One comes up alone. -/
theorem anyG_one {late : Nat → Bool} {S : World → Prop} {k : Nat} {o : Oper} {n : Nat} {listed : Array Bool} {a : Act} {w : World} (hr : Region.ready md ops listed = [k]) (hi : ops[k]? = some o) (hw : Region.wanted o (yielded ops a.tmps) = true)
    (h : ∀ Q2 : Exit → Act → World → Prop, (∀ a' w', (late k = false → S w') → anyG P md ops Q late S n (listed.setIfInBounds k true) a' w' → Q2 .normal a' w') → wpList P ops Q2 [o] a w) : anyG P md ops Q late S (n + 1) listed a w := by
  refine ⟨fun h0 => (by rw [hr] at h0; cases h0), fun j hj => ?_⟩
  rw [hr, List.mem_singleton] at hj; subst hj
  have h1 := h (fun e a' w' => match e with | .normal => (late j = false → S w') ∧ anyG P md ops Q late S n (listed.setIfInBounds j true) a' w' | e => False) (fun a' w' h1 h2 => ⟨h1, h2⟩)
  unfold wpList at h1
  simp only [hw, if_true] at h1
  unfold wpOp
  simp only [hi, hw, if_true]
  rcases h1 with h1 | h1
  · exact .inl (wp_quietly (fun _ _ _ h => h) (fun ⟨_, _, h⟩ => h) h1)
  · exact absurd h1.2 (fun ⟨_, _, h⟩ => h)
/-- One of two comes up. -/
theorem anyG_two {late : Nat → Bool} {S : World → Prop} {i j : Nat} {oi oj : Oper} {n : Nat} {listed : Array Bool} {a : Act} {w : World} (hr : Region.ready md ops listed = [i, j]) (hi : ops[i]? = some oi) (hwi : Region.wanted oi (yielded ops a.tmps) = true) (hj : ops[j]? = some oj) (hwj : Region.wanted oj (yielded ops a.tmps) = true)
    (h1 : ∀ Q2 : Exit → Act → World → Prop, (∀ a' w', (late i = false → S w') → anyG P md ops Q late S n (listed.setIfInBounds i true) a' w' → Q2 .normal a' w') → wpList P ops Q2 [oi] a w)
    (h2 : ∀ Q2 : Exit → Act → World → Prop, (∀ a' w', (late j = false → S w') → anyG P md ops Q late S n (listed.setIfInBounds j true) a' w' → Q2 .normal a' w') → wpList P ops Q2 [oj] a w) : anyG P md ops Q late S (n + 1) listed a w := by
  have step : ∀ (k : Nat) (o : Oper), ops[k]? = some o → Region.wanted o (yielded ops a.tmps) = true →
      (∀ Q2 : Exit → Act → World → Prop, (∀ a' w', (late k = false → S w') → anyG P md ops Q late S n (listed.setIfInBounds k true) a' w' → Q2 .normal a' w') → wpList P ops Q2 [o] a w) →
      wpOp P ops Q k (fun a' w' => (late k = false → S w') ∧ anyG P md ops Q late S n (listed.setIfInBounds k true) a' w') a w := by
    intro k o hk hw h
    have h1 := h (fun e a' w' => match e with | .normal => (late k = false → S w') ∧ anyG P md ops Q late S n (listed.setIfInBounds k true) a' w' | e => False) (fun a' w' h1 h2 => ⟨h1, h2⟩)
    unfold wpList at h1
    simp only [hw, if_true] at h1
    unfold wpOp
    simp only [hk, hw, if_true]
    rcases h1 with h1 | h1
    · exact .inl (wp_quietly (fun _ _ _ h => h) (fun ⟨_, _, h⟩ => h) h1)
    · exact absurd h1.2 (fun ⟨_, _, h⟩ => h)
  refine ⟨fun h0 => (by rw [hr] at h0; cases h0), fun k hk => ?_⟩
  rw [hr] at hk
  simp only [List.mem_cons, List.not_mem_nil, or_false] at hk
  rcases hk with rfl | rfl
  · exact step _ _ hi hwi h1
  · exact step _ _ hj hwj h2
theorem new_at {W W1 : World} {B : Nat} (S : Below B W W1) (cs : Array Value) (t : TypeId) : ∃ g, W1.heap.size = g ∧ Blk (W1.alloc (.cells cs t)) g t cs ∧ W.heap.size ≤ g := ⟨_, rfl, Blk.new _ _ _, S.size⟩
theorem anyG_done {late : Nat → Bool} {S : World → Prop} {listed : Array Bool} {a : Act} {w : World} (hr : Region.ready md ops listed = []) (h : Q .normal a w) : ∀ n, anyG P md ops Q late S n listed a w
  | 0 => ⟨hr, h⟩
  | _ + 1 => ⟨fun _ => h, fun j hj => (by rw [hr] at hj; cases hj)⟩
theorem anyG_of_any {late : Nat → Bool} {S : World → Prop} : ∀ (n : Nat) (listed : Array Bool) (a : Act) (w : World), (List.range ops.size).all (fun j => listed.getD j true || late j) = true → wpAny P md ops Q n listed a w → anyG P md ops Q late S n listed a w
  | 0, _, _, _, _, h => h
  | n + 1, listed, a, w, hl, h => ⟨h.1, fun j hj => by
      have hju := (mem_ready.1 hj).1
      obtain ⟨o, ho, _⟩ := (mem_ready.1 hj).2
      have hjl := List.all_eq_true.1 hl j (List.mem_range.2 (Array.getElem?_eq_some_iff.1 ho).1)
      rw [hju, Bool.false_or] at hjl
      refine wpOp_mono (fun a' w' h' => ⟨fun hf => (by rw [hjl] at hf; cases hf), anyG_of_any n _ a' w' ?_ h'⟩) (h.2 j hj)
      refine List.all_eq_true.2 fun k hk => ?_
      by_cases hjk : j = k
      · subst hjk; rw [hjl, Bool.or_true]
      · rw [getD_set_ne true hjk]; exact List.all_eq_true.1 hl k hk⟩
/-- The same without a debt. -/
theorem any_one {k : Nat} {o : Oper} {n : Nat} {listed : Array Bool} {a : Act} {w : World} (hr : Region.ready md ops listed = [k]) (hi : ops[k]? = some o) (hw : Region.wanted o (yielded ops a.tmps) = true)
    (h : ∀ Q2 : Exit → Act → World → Prop, (∀ a' w', wpAny P md ops Q n (listed.setIfInBounds k true) a' w' → Q2 .normal a' w') → wpList P ops Q2 [o] a w) : wpAny P md ops Q (n + 1) listed a w := by
  refine wpAny_all hr (by simp) fun j hj => ?_
  rw [List.mem_singleton] at hj; subst hj
  have h1 := h (fun e a' w' => match e with | .normal => wpAny P md ops Q n (listed.setIfInBounds j true) a' w' | e => False) (fun a' w' h1 => h1)
  unfold wpList at h1
  simp only [hw, if_true] at h1
  unfold wpOp
  simp only [hi, hw, if_true]
  rcases h1 with h1 | h1
  · exact .inl (wp_quietly (fun _ _ _ h => h) (fun ⟨_, _, h⟩ => h) h1)
  · exact absurd h1.2 (fun ⟨_, _, h⟩ => h)
end
end Go.Proofs.Ytkjmacdekfbfhaa
