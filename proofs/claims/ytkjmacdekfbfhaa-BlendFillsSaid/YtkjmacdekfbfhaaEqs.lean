/- Equality of two structs of numbers. -/
import Derived.Test.YtkjmacdekfbfhaaBase
import Derived.Laws.StructEq
import Derived.ChangeKeysEq
namespace Go.Proofs.Ytkjmacdekfbfhaa
open Go.RowKit
set_option linter.unusedSimpArgs false
set_option linter.unusedVariables false

def flatInts (P : Program) : List Field → Nat → Bool
  | [], _ => true
  | f :: fs, o => (f.name != "_" && f.offset == o && (match P.underlying f.type with | some (.int _) => true | _ => false) && P.plainKey f.type) && flatInts P fs (o + 1)
theorem eqFields_ints {P : Program} (w : World) (d : Nat) (xs ys : Array Value) : ∀ (fs : List Field) (o : Nat) (ks : List IntKind) (us vs : List Int), flatInts P fs o = true → ks.length = fs.length → us.length = fs.length → vs.length = fs.length →
    (∀ i v, (List.zipWith Value.int ks us)[i]? = some v → xs[o + i]? = some v) → (∀ i v, (List.zipWith Value.int ks vs)[i]? = some v → ys[o + i]? = some v) → (Op.eqFields (d + 1) xs ys fs).run P w = .ok (us == vs) w := by
  intro fs
  induction fs with
  | nil =>
    intro o ks us vs _ _ ha hb _ _
    obtain rfl := List.length_eq_zero_iff.1 ha
    obtain rfl := List.length_eq_zero_iff.1 hb
    simp [Op.eqFields]
  | cons f fs ih =>
    intro o ks us vs hf hk ha hb hx hy
    match ks, us, vs, hk, ha, hb with
    | k :: ks, a :: us, b :: vs, hk, ha, hb =>
      unfold flatInts at hf
      simp only [Bool.and_eq_true, bne_iff_ne, beq_iff_eq] at hf
      obtain ⟨⟨⟨⟨h1, h2⟩, h3⟩, h4⟩, h5⟩ := hf
      have hx0 := hx 0 (.int k a) rfl
      have hy0 := hy 0 (.int k b) rfl
      rw [Nat.add_zero, ← h2] at hx0 hy0
      have hu : ∃ q, P.underlying f.type = some (.int q) := by
        split at h3
        · rename_i q hq; exact ⟨q, hq⟩
        · simp at h3
      obtain ⟨q, hq⟩ := hu
      have ih' := ih (o + 1) ks us vs h5 (by simpa using hk) (by simpa using ha) (by simpa using hb) (fun i v hv => by have := hx (i + 1) v hv; rwa [show o + (i + 1) = o + 1 + i by omega] at this) (fun i v hv => by have := hy (i + 1) v hv; rwa [show o + (i + 1) = o + 1 + i by omega] at this)
      simp only [Op.eqFields, h1, ne_eq, not_false_eq_true, if_true, Sem.run_bind, run_part_plain w h4 hx0, run_part_plain w h4 hy0, run_equalIn_int w d f.type k q a b hq, Result.andThen_ok]
      by_cases hab : a = b
      · subst hab
        simpa using ih'
      · have e : (a == b) = false := by simpa using hab
        simp [e]
theorem eq_ints {t : TypeId} (hs : Try.prog.underlying t = some (.struct (Try.prog.fieldsOf t))) (hp : Try.prog.stoodInHeld t = false) (hg : Try.prog.eqGuardType Try.prog.depth t = false) (hf : flatInts Try.prog (Try.prog.fieldsOf t).toList 0 = true) (ks : List IntKind) (us vs : List Int)
    (hk : ks.length = (Try.prog.fieldsOf t).toList.length) (ha : us.length = (Try.prog.fieldsOf t).toList.length) (hb : vs.length = (Try.prog.fieldsOf t).toList.length) (xs ys : Array Value) (hx : xs = (List.zipWith Value.int ks us).toArray) (hy : ys = (List.zipWith Value.int ks vs).toArray) (b : Bool) (he : (us == vs) = b) :
    (∀ (W : World) (op : BinOp) (o1 o2 : Operand), (eqGuard op t o1 o2 (.agg xs) (.agg ys)).run Try.prog W = .ok () W) ∧
    (∀ W : World, (binOp .eql t (.agg xs) (.agg ys)).run Try.prog W = .ok (.bool b) W) ∧
    (∀ W : World, (binOp .neq t (.agg xs) (.agg ys)).run Try.prog W = .ok (.bool (!b)) W) := by
  subst hx hy he
  have e : ∀ W : World, (Op.equalIn 10000 t (.agg (List.zipWith Value.int ks us).toArray) (.agg (List.zipWith Value.int ks vs).toArray)).run Try.prog W = .ok (us == vs) W := fun W => by
    rw [show (10000 : Nat) = 9998 + 1 + 1 from rfl, run_equalIn_agg W (9998 + 1) t _ _ hs hp, eqFields_ints W 9998 _ _ _ 0 ks us vs hf hk ha hb (fun i v hv => by simpa using hv) (fun i v hv => by simpa using hv)]
  refine ⟨fun W op o1 o2 => run_eqGuard_agg W op t o1 o2 _ _ hg, fun W => ?_, fun W => ?_⟩
  · rw [run_eql_struct, e]; rfl
  · rw [run_neq_struct, e]; rfl
theorem eqItems_ints {P : Program} (w : World) (d : Nat) {e : TypeId} {q k : IntKind} (he : P.plainKey e = true) (hq : P.underlying e = some (.int q)) (xs ys : Array Value) (us vs : List Int) (hl : us.length = vs.length)
    (hx : xs = (us.map (Value.int k)).toArray) (hy : ys = (vs.map (Value.int k)).toArray) : ∀ is : List Nat, (∀ i ∈ is, i < us.length) → (Op.eqItems (d + 1) e 1 xs ys is).run P w = .ok (is.all fun i => us.getD i 0 == vs.getD i 0) w := by
  subst hx hy
  intro is
  induction is with
  | nil => intro _; simp [Op.eqItems]
  | cons i is ih =>
    intro h
    have hi := h i (by simp)
    have hx0 : (us.map (Value.int k)).toArray[i * 1]? = some (.int k (us.getD i 0)) := by simp [Nat.mul_one, hi]
    have hy0 : (vs.map (Value.int k)).toArray[i * 1]? = some (.int k (vs.getD i 0)) := by simp [Nat.mul_one, ← hl, hi]
    simp only [Op.eqItems, Sem.run_bind, run_part_plain w he hx0, run_part_plain w he hy0, run_equalIn_int w d e k q _ _ hq, Result.andThen_ok, List.all_cons]
    cases hc : us.getD i 0 == vs.getD i 0
    · simp
    · simp only [Bool.not_true, Bool.false_eq_true, if_false, Bool.true_and]
      exact ih fun j hj => h j (by simp [hj])
theorem eq_arr_ints {t e : TypeId} {n : Nat} {q : IntKind} (k : IntKind) (hu : Try.prog.underlying t = some (.array n e)) (hi : (Try.prog.info? e).isSome = true) (he : Try.prog.plainKey e = true) (hq : Try.prog.underlying e = some (.int q)) (hc : Try.prog.cellsOf e = 1) (hg : Try.prog.eqGuardType Try.prog.depth t = false)
    (us vs : List Int) (ha : us.length = n) (hb : vs.length = n) (xs ys : Array Value) (hx : xs = (us.map (Value.int k)).toArray) (hy : ys = (vs.map (Value.int k)).toArray) (b : Bool) (hh : ((List.range n).all fun i => us.getD i 0 == vs.getD i 0) = b) :
    (∀ (W : World) (op : BinOp) (o1 o2 : Operand), (eqGuard op t o1 o2 (.agg xs) (.agg ys)).run Try.prog W = .ok () W) ∧
    (∀ W : World, (binOp .eql t (.agg xs) (.agg ys)).run Try.prog W = .ok (.bool b) W) ∧
    (∀ W : World, (binOp .neq t (.agg xs) (.agg ys)).run Try.prog W = .ok (.bool (!b)) W) := by
  obtain ⟨i, hi⟩ := Option.isSome_iff_exists.1 hi
  have e : ∀ W : World, (Op.equalIn 10000 t (.agg xs) (.agg ys)).run Try.prog W = .ok b W := fun W => by
    rw [show (10000 : Nat) = 9998 + 1 + 1 from rfl, run_equalIn_array W (9998 + 1) xs ys hu hi, hc, eqItems_ints W 9998 he hq xs ys us vs (by omega) hx hy _ (fun i h => by simpa [ha] using h), hh]
  refine ⟨fun W op o1 o2 => run_eqGuard_agg W op t o1 o2 _ _ hg, fun W => ?_, fun W => ?_⟩
  · rw [run_eql_struct, e]; rfl
  · rw [run_neq_struct, e]; rfl
end Go.Proofs.Ytkjmacdekfbfhaa
