/- Arguments of plain data opened: a struct of numbers, bools and strings (structs within it too) as its cells, one after the other; a slice of such structs as a list. -/
import Derived.Test.YtkjmacdekfbfhaaBase
import Derived.ProofKit
import Derived.ShutString
import Derived.ChangeOld
import Derived.Below
import Derived.Deep.Slices
namespace Go.Proofs.Ytkjmacdekfbfhaa
open Go.ChangeShapes Go.WideShapes Go.ChangeAt Go.RowKit
set_option linter.unusedSimpArgs false
set_option linter.unusedVariables false

inductive Kd where
  | int (k : IntKind)
  | bool
  | str

def flatFields (g : TypeId → Option (List Kd)) : List Field → Nat → Option (List Kd)
  | [], _ => some []
  | f :: r, o => match g f.type with
    | some ks => if f.offset = o then (flatFields g r (o + ks.length)).map (ks ++ ·) else none
    | none => none

def flatKinds (P : Program) : Nat → TypeId → Option (List Kd)
  | 0, _ => none
  | n + 1, t => match P.underlying t with
    | some (.int k) => if P.cellsOf t = 1 then some [.int k] else none
    | some .bool => if P.cellsOf t = 1 then some [.bool] else none
    | some .string => if P.cellsOf t = 1 then some [.str] else none
    | some (.struct fs) => match flatFields (flatKinds P n) fs.toList 0 with
      | some ks => if P.cellsOf t = ks.length then some ks else none
      | none => none
    | _ => none

def OkCell : Kd → Value → Prop
  | .int k, v => ∃ n, v = .int k n ∧ (Lit.int k n).wf = true
  | .bool, v => ∃ b, v = .bool b
  | .str, v => ∃ s, v = .string s ∧ s.size ≤ maxLen

def AllOk : List Kd → List Value → Prop
  | [], vs => vs = []
  | k :: ks, vs => ∃ v r, vs = v :: r ∧ OkCell k v ∧ AllOk ks r

theorem AllOk.append {ks ls : List Kd} {vs : List Value} (h : AllOk ks (vs.take ks.length)) (h2 : AllOk ls (vs.drop ks.length)) : AllOk (ks ++ ls) vs := by
  induction ks generalizing vs with
  | nil => simpa using h2
  | cons k ks ih =>
    obtain ⟨v, r, e, hk, hr⟩ := h
    cases vs with
    | nil => simp at e
    | cons u us =>
      simp only [List.length_cons, List.take_succ_cons, List.cons.injEq] at e
      obtain ⟨rfl, rfl⟩ := e
      exact ⟨u, us, rfl, hk, ih hr (by simpa using h2)⟩

theorem AllOk.length {ks : List Kd} {vs : List Value} (h : AllOk ks vs) : vs.length = ks.length := by
  induction ks generalizing vs with
  | nil => rw [show vs = [] from h]; rfl
  | cons k ks ih =>
    obtain ⟨v, r, rfl, _, hr⟩ := h
    simp [ih hr]

section
variable {H : Type} {enc : TypeId × Value → H} {P : Program} {w : World} {base : Nat} {spare : Nat → Bool} {held : Bool}

theorem flatFields_ok {g : TypeId → Option (List Kd)} {cs : List Value} {T : TypeId → List Value → Prop} (hg : ∀ t ks vs, g t = some ks → T t vs → AllOk ks vs ∧ P.cellsOf t = ks.length) :
    ∀ (fs : List Field) (o : Nat) (ks : List Kd), flatFields g fs o = some ks → cs.length = o + ks.length → (∀ f ∈ fs, T f.type ((cs.drop f.offset).take (P.cellsOf f.type))) → AllOk ks (cs.drop o) := by
  intro fs
  induction fs with
  | nil =>
    intro o ks h hl _
    simp only [flatFields, Option.some.injEq] at h
    subst h
    show cs.drop o = []
    exact List.drop_eq_nil_of_le (by simp at hl; omega)
  | cons f r ih =>
    intro o ks h hl hf
    simp only [flatFields] at h
    split at h
    · rename_i ks1 h1
      split at h
      · rename_i ho
        obtain ⟨ks2, h2, rfl⟩ := Option.map_eq_some_iff.1 h
        have t1 := hf f (by simp)
        obtain ⟨a1, c1⟩ := hg _ _ _ h1 t1
        rw [c1, ho] at a1
        refine AllOk.append a1 ?_
        rw [List.drop_drop]
        exact ih _ _ h2 (by rw [hl, List.length_append]; omega) (fun f' hf' => hf f' (by simp [hf']))
      · simp at h
    · simp at h

theorem flat_trod : ∀ (n : Nat) (t : TypeId) (ks : List Kd) (cs : List Value) (fuel : Nat) (x : DataW H × List MemPlace), flatKinds P n t = some ks → DataW.trod enc P w base spare held fuel t cs = some x → AllOk ks cs ∧ P.cellsOf t = ks.length := by
  intro n
  induction n with
  | zero => intro t ks cs fuel x h; simp [flatKinds] at h
  | succ n ih =>
    intro t ks cs fuel x h hx
    unfold flatKinds at h
    split at h
    · rename_i k hk
      split at h
      · rename_i hc
        simp only [Option.some.injEq] at h; subst h
        obtain ⟨m, rfl, _, wf⟩ := DataW.trod_int hk hx
        exact ⟨⟨_, _, rfl, ⟨m, rfl, wf⟩, rfl⟩, hc⟩
      · simp at h
    · rename_i hk
      split at h
      · rename_i hc
        simp only [Option.some.injEq] at h; subst h
        obtain ⟨m, rfl, _⟩ := DataW.trod_bool hk hx
        exact ⟨⟨_, _, rfl, ⟨m, rfl⟩, rfl⟩, hc⟩
      · simp at h
    · rename_i hk
      split at h
      · rename_i hc
        simp only [Option.some.injEq] at h; subst h
        obtain ⟨m, rfl, _, hs⟩ := DataW.trod_string hk hx
        exact ⟨⟨_, _, rfl, ⟨m, rfl, hs⟩, rfl⟩, hc⟩
      · simp at h
    · rename_i fs hk
      split at h
      · rename_i ks' hks
        split at h
        · rename_i hc
          simp only [Option.some.injEq] at h; subst h
          obtain ⟨xs, n', rfl, _, hlen, hxl, hf⟩ := DataW.trod_struct hk hx
          refine ⟨?_, hc⟩
          have := flatFields_ok (P := P) (g := flatKinds P n) (cs := cs) (T := fun t vs => ∃ y, DataW.trod enc P w base spare held n' t vs = some y) (fun t ks vs h1 ⟨y, h2⟩ => ih t ks vs n' y h1 h2) fs.toList 0 ks' hks (by rw [hlen, hc]; omega) ?_
          · simpa using this
          · intro f hfm
            obtain ⟨i, hi, rfl⟩ := List.getElem_of_mem hfm
            have hi' : i < fs.size := by simpa using hi
            refine ⟨xs[i]'(by omega), ?_⟩
            have := hf i (fs.toList[i]) (by simp [hi'])
            rw [this]
            exact List.getElem?_eq_getElem _
        · simp at h
      · simp at h
    · simp at h

/-- A struct of plain data that comes in by value. -/
theorem open_flat {r : Reach} {b0 : Nat} {t : TypeId} {fs : Array Field} {n : Nat} {ks : List Kd} {v : Value} {d : DataW H} {p : List MemPlace} (ht : P.underlying t = some (.struct fs)) (hk : flatKinds P n t = some ks)
    (hv : Value.okWide P w r b0 t v) (h : DataW.Trod enc P w base spare held t v d p) : ∃ vs : List Value, v = .agg ⟨vs⟩ ∧ AllOk ks vs := by
  obtain ⟨cs, rfl, hsz⟩ := okWide_struct ht hv
  obtain ⟨fuel, hf⟩ := h
  obtain ⟨l⟩ := cs
  exact ⟨l, rfl, (flat_trod n t ks l fuel _ hk hf).1⟩

/-- What the cells from address 'a' on hold: the list 'l', each of its elements written as 'size' cells. -/
def RowAt {α : Type} (w : World) (a : Addr) (size : Nat) (cells : α → List Value) (l : List α) : Prop :=
  ∀ (i : Nat) (x : α), l[i]? = some x → ∀ (j : Nat) (v : Value), (cells x)[j]? = some v → w.cell? (a.add (i * size + j)) = some v

/-- A slice that came in, read as a list; nil let in. -/
def SliceIs {α : Type} (w : World) (size : Nat) (cells : α → List Value) (A : Option Addr) (len cap : Nat) (l : List α) : Prop :=
  l.length = len ∧ len ≤ cap ∧ cap ≤ maxLen ∧ (A = none → len = 0 ∧ cap = 0) ∧ ∀ a, A = some a → RowAt w a size cells l ∧ (0 < len → a.block < w.heap.size ∧ a.spot = none)

theorem cell_lt {w : World} {a : Addr} {v : Value} (h : w.cell? a = some v) : a.block < w.heap.size := by
  rcases Nat.lt_or_ge a.block w.heap.size with h1 | h1
  · exact h1
  · have : w.heap[a.block]? = none := by simp; omega
    simp [World.cell?, this] at h

theorem map_choose {α : Type} {n : Nat} {p : Nat → α → Prop} (h : ∀ i, i < n → ∃ x, p i x) : ∃ l : List α, l.length = n ∧ ∀ i x, l[i]? = some x → p i x := by
  induction n with
  | zero => exact ⟨[], rfl, fun i x h => by simp at h⟩
  | succ n ih =>
    obtain ⟨l, hl, hp⟩ := ih (fun i hi => h i (by omega))
    obtain ⟨x, hx⟩ := h n (by omega)
    refine ⟨l ++ [x], by simp [hl], fun i y hy => ?_⟩
    rcases Nat.lt_or_ge i l.length with hi | hi
    · rw [List.getElem?_append_left hi] at hy
      exact hp i y hy
    · rw [List.getElem?_append_right hi] at hy
      have : i - l.length = 0 := by
        rcases Nat.eq_zero_or_pos (i - l.length) with e | e
        · exact e
        · rw [List.getElem?_eq_none (by simp; omega)] at hy; simp at hy
      rw [this] at hy
      simp at hy
      subst hy
      rw [show i = n by omega]
      exact hx

theorem SliceIs.at_ {α : Type} {size : Nat} {cells : α → List Value} {A : Option Addr} {len cap : Nat} {l : List α} (h : SliceIs w size cells A len cap l) {k : Nat} (hk : k < len) :
    ∃ (b off : Nat) (x : α), A = some ⟨b, off, none⟩ ∧ l[k]? = some x ∧ b < w.heap.size ∧ ∀ (j : Nat) (v : Value), (cells x)[j]? = some v → w.cell? ⟨b, off + (k * size + j), none⟩ = some v := by
  obtain ⟨hl, hlc, hm, hn, ha⟩ := h
  cases A with
  | none => have := hn rfl; omega
  | some a =>
    obtain ⟨hr, hb⟩ := ha a rfl
    obtain ⟨h1, h2⟩ := hb (by omega)
    obtain ⟨b, off, spot⟩ := a
    simp only at h2
    subst h2
    have hx : l[k]? = some (l[k]'(by omega)) := List.getElem?_eq_getElem _
    refine ⟨b, off, _, rfl, hx, h1, fun j v hv => ?_⟩
    have := hr k _ hx j v hv
    have e : (⟨b, off, none⟩ : Addr).add (k * size + j) = ⟨b, off + (k * size + j), none⟩ := by
      unfold Addr.add; split <;> simp_all
    rw [e] at this
    exact this

theorem open_flat_slice {α : Type} {t e : TypeId} {n : Nat} {ks : List Kd} {A : Option Addr} {len cap : Nat} {d : DataW H} {p : List MemPlace} (cells : α → List Value) (good : α → Prop)
    (hpos : 0 < ks.length) (hdec : ∀ vs, AllOk ks vs → ∃ x : α, cells x = vs ∧ good x) (ht : P.underlying t = some (.slice e)) (hk : flatKinds P n e = some ks)
    (h : DataW.Trod enc P w base spare held t (.slice A len cap) d p) : ∃ l : List α, SliceIs w ks.length cells A len cap l ∧ ∀ x ∈ l, good x := by
  obtain ⟨fuel, hf⟩ := h
  rcases Deep.open_slice ht hf with ⟨hcs, _⟩ | ⟨a, len', cap', m, n', D, Pl, hcs, _, hl, hm, hmm, _, hi⟩
  · simp [Value.cells] at hcs
    obtain ⟨rfl, rfl, rfl⟩ := hcs
    exact ⟨[], ⟨rfl, Nat.le_refl _, Nat.zero_le _, fun _ => ⟨rfl, rfl⟩, fun a ha => by cases ha⟩, fun x hx => by simp at hx⟩
  · simp [Value.cells] at hcs
    obtain ⟨rfl, rfl, rfl⟩ := hcs
    have hlm : len ≤ m := by rw [hmm]; split <;> omega
    obtain ⟨l, hll, hp⟩ := map_choose (n := len) (p := fun i x => good x ∧ ∃ vs, cells x = vs ∧ vs.length = ks.length ∧ ∀ j v, vs[j]? = some v → w.cell? (a.add (i * ks.length + j)) = some v) (fun i hin => by
      obtain ⟨cs', hc, ht'⟩ := hi i (by omega)
      obtain ⟨ho, hC⟩ := flat_trod n e ks cs' n' _ hk ht'
      obtain ⟨x, hx, hgx⟩ := hdec _ ho
      rw [hC] at hc
      obtain ⟨_, hcl, hat⟩ := World.cells?_some hc
      refine ⟨x, hgx, cs', hx, hcl, fun j v hv => ?_⟩
      have hj : j < ks.length := by
        rcases Nat.lt_or_ge j cs'.length with h | h
        · omega
        · rw [List.getElem?_eq_none h] at hv; simp at hv
      rw [← Deep.add_add, hat j hj, hv])
    refine ⟨l, ⟨hll, hl, hm, fun h => by simp at h, fun a' ha' => ?_⟩, fun x hx => ?_⟩
    · simp only [Option.some.injEq] at ha'
      subst ha'
      refine ⟨fun i x hx j v hv => ?_, fun h0 => ?_⟩
      · obtain ⟨_, vs, e1, _, hc⟩ := hp i x hx
        exact hc j v (by rw [← e1]; exact hv)
      · obtain ⟨cs', hc, ht'⟩ := hi 0 (by omega)
        obtain ⟨ho, hC⟩ := flat_trod n e ks cs' n' _ hk ht'
        obtain ⟨_, hcl, hat⟩ := World.cells?_some hc
        have h1 := hat 0 (by omega)
        rw [List.getElem?_eq_getElem (by omega)] at h1
        have e0 : (a.add (0 * ks.length)).add 0 = a := by simp [Addr.add]
        rw [hC, e0] at h1
        exact ⟨cell_lt h1, World.cell?_spot h1⟩
    · obtain ⟨i, hi', rfl⟩ := List.getElem_of_mem hx
      exact (hp i _ (List.getElem?_eq_getElem hi')).1
end

theorem dec_i64 : ∀ vs : List Value, AllOk [.int .i64] vs → ∃ x : Int, [Value.int .i64 x] = vs ∧ I64 x := by
  rintro _ ⟨_, _, rfl, ⟨n, rfl, wf⟩, h⟩
  cases h
  exact ⟨n, rfl, I64_of_wf wf⟩
/-- A slice of int64 that came in. -/
abbrev IntsAre (w : World) (A : Option Addr) (len cap : Nat) (l : List Int) : Prop := SliceIs w 1 (fun n : Int => [Value.int .i64 n]) A len cap l
theorem IntsAre.at_ {w : World} {A : Option Addr} {len cap : Nat} {l : List Int} (h : IntsAre w A len cap l) {k : Nat} (hk : k < len) :
    ∃ (b off : Nat) (x : Int), A = some ⟨b, off, none⟩ ∧ l[k]? = some x ∧ b < w.heap.size ∧ w.cell? ⟨b, off + k, none⟩ = some (.int .i64 x) := by
  obtain ⟨b, off, x, h1, h2, h3, h4⟩ := SliceIs.at_ h hk
  have := h4 0 _ rfl
  rw [show k * 1 + 0 = k by omega] at this
  exact ⟨b, off, x, h1, h2, h3, this⟩
end Go.Proofs.Ytkjmacdekfbfhaa
