/- A struct that comes in by value, some of its fields slices. -/
import Derived.Test.YtlodmnohmlkjmaaOpen
namespace Go.Proofs.Ytlodmnohmlkjmaa
open Go.ChangeShapes Go.WideShapes Go.ChangeAt Go.RowKit
set_option linter.unusedSimpArgs false
set_option linter.unusedVariables false

/-- The kinds of a struct's cells, none for a slice. -/
def mixFields (P : Program) (n : Nat) : List Field → Nat → Option (List (Option Kd))
  | [], _ => some []
  | f :: r, o => if f.offset = o then
      match P.underlying f.type with
      | some (.slice _) => if P.cellsOf f.type = 1 then (mixFields P n r (o + 1)).map (none :: ·) else none
      | _ => match flatKinds P n f.type with
        | some ks => (mixFields P n r (o + ks.length)).map (ks.map some ++ ·)
        | none => none
    else none
def OkMix : Option Kd → Value → Prop
  | none, v => ∃ A len cap, v = .slice A len cap
  | some k, v => OkCell k v
def AllMix : List (Option Kd) → List Value → Prop
  | [], vs => vs = []
  | k :: ks, vs => ∃ v r, vs = v :: r ∧ OkMix k v ∧ AllMix ks r
theorem AllMix.some_ {ks : List Kd} {ls : List (Option Kd)} {vs : List Value} (h : AllOk ks (vs.take ks.length)) (h2 : AllMix ls (vs.drop ks.length)) : AllMix (ks.map some ++ ls) vs := by
  induction ks generalizing vs with
  | nil => simpa using h2
  | cons k ks ih =>
    obtain ⟨v, r, e, hk, hr⟩ := h
    cases vs with
    | nil => simp at e
    | cons u us =>
      simp only [List.length_cons, List.take_succ_cons, List.cons.injEq] at e
      obtain ⟨rfl, rfl⟩ := e
      exact ⟨u, us, rfl, hk, ih hr (by simpa using h2)⟩
section
variable {H : Type} {enc : TypeId × Value → H} {P : Program} {w : World} {base : Nat} {spare : Nat → Bool} {held : Bool}
theorem mixFields_ok {n fuel : Nat} {cs : List Value} : ∀ (fs : List Field) (o : Nat) (ks : List (Option Kd)), mixFields P n fs o = some ks → cs.length = o + ks.length →
    (∀ f ∈ fs, ∃ x, DataW.trod enc P w base spare held fuel f.type ((cs.drop f.offset).take (P.cellsOf f.type)) = some x) → AllMix ks (cs.drop o) := by
  intro fs
  induction fs with
  | nil =>
    intro o ks h hl _
    simp only [mixFields, Option.some.injEq] at h
    subst h
    show cs.drop o = []
    exact List.drop_eq_nil_of_le (by simp at hl; omega)
  | cons f r ih =>
    intro o ks h hl hf
    simp only [mixFields] at h
    split at h
    · rename_i ho
      obtain ⟨x, hx⟩ := hf f (by simp)
      split at h
      · rename_i e he
        split at h
        · rename_i hc
          obtain ⟨ks2, h2, rfl⟩ := Option.map_eq_some_iff.1 h
          rw [ho, hc] at hx
          simp only [List.length_cons] at hl
          have hrest := ih (o + 1) ks2 h2 (by omega) (fun f' hf' => hf f' (by simp [hf']))
          have hcons : cs.drop o = cs[o]'(by omega) :: cs.drop (o + 1) := List.drop_eq_getElem_cons (by omega)
          have htake : (cs.drop o).take 1 = [cs[o]'(by omega)] := by rw [hcons]; rfl
          rw [htake] at hx
          refine ⟨_, _, hcons, ?_, hrest⟩
          rcases Deep.open_slice he hx with ⟨hcs, _⟩ | ⟨a, len', cap', m, n', D, Pl, hcs, _⟩
          · simp at hcs
            exact ⟨none, 0, 0, hcs⟩
          · simp at hcs
            exact ⟨_, _, _, hcs⟩
        · simp at h
      · split at h
        · rename_i ks1 h1
          obtain ⟨ks2, h2, rfl⟩ := Option.map_eq_some_iff.1 h
          obtain ⟨a1, c1⟩ := flat_trod n f.type ks1 _ fuel x h1 hx
          rw [c1, ho] at a1
          refine AllMix.some_ a1 ?_
          rw [List.drop_drop]
          simp only [List.length_append, List.length_map] at hl
          exact ih _ _ h2 (by omega) (fun f' hf' => hf f' (by simp [hf']))
        · simp at h
    · simp at h
theorem open_mix {r : Reach} {b0 : Nat} {t : TypeId} {fs : Array Field} {n : Nat} {ks : List (Option Kd)} {v : Value} {d : DataW H} {p : List MemPlace} (ht : P.underlying t = some (.struct fs)) (hk : mixFields P n fs.toList 0 = some ks) (hc : P.cellsOf t = ks.length)
    (hv : Value.okWide P w r b0 t v) (h : DataW.Trod enc P w base spare held t v d p) : ∃ vs : List Value, v = .agg ⟨vs⟩ ∧ AllMix ks vs := by
  obtain ⟨cs, rfl, hsz⟩ := okWide_struct ht hv
  obtain ⟨fuel, hf⟩ := h
  obtain ⟨l⟩ := cs
  refine ⟨l, rfl, ?_⟩
  obtain ⟨xs, n', rfl, _, hlen, hxl, hff⟩ := DataW.trod_struct ht hf
  have := mixFields_ok (P := P) (n := n) (fuel := n') (cs := l) fs.toList 0 ks hk (by rw [show l.length = P.cellsOf t from hlen, hc]; omega) (fun f hfm => by
    obtain ⟨i, hi, rfl⟩ := List.getElem_of_mem hfm
    have hi' : i < fs.size := by simpa using hi
    refine ⟨xs[i]'(by omega), ?_⟩
    have := hff i (fs.toList[i]) (by simp [hi'])
    exact this.trans (List.getElem?_eq_getElem _))
  simpa using this
end
end Go.Proofs.Ytlodmnohmlkjmaa
