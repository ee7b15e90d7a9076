/- Steps of calls: plain facts, no program in sight. -/
import Derived.Test.YtkjmacdekfbfhaaBase
namespace Go.Proofs.Ytkjmacdekfbfhaa
set_option linter.unusedSimpArgs false
set_option linter.unusedVariables false

structure COp where
  kind : Int
  lock : Int
deriving DecidableEq
def allq (n : Nat) (k : Int) : List COp := (List.range n).map fun (i : Nat) => ⟨k, (i : Int)⟩
theorem allq_len (n : Nat) (k : Int) : (allq n k).length = n := by simp [allq]
theorem allq_snoc (n : Nat) (k : Int) : allq (n + 1) k = allq n k ++ [⟨k, (n : Int)⟩] := by simp [allq, List.range_succ]
def oneq (k h : Int) : List COp := [⟨k, h⟩, ⟨4, 0⟩, ⟨5, h⟩]
def inq (home : Int) (s : Nat) (kind : Int) : List COp :=
  if kind = 1 ∨ kind = 6 then oneq 3 home ++ [⟨3, (s : Int) + 1⟩, ⟨6, 0⟩, ⟨5, (s : Int) + 1⟩]
  else if kind = 2 then allq s 3 ++ [⟨4, 0⟩] ++ allq s 5
  else if kind = 3 then allq s 2 ++ oneq 3 s ++ allq s 5
  else if kind = 4 then oneq 3 s
  else if kind = 5 then oneq 2 s
  else if kind = 7 then oneq 2 home
  else oneq 3 ((s : Int) + 1)
theorem inq_len (home : Int) (s : Nat) (kind : Int) : (inq home s kind).length ≤ 2 * s + 6 := by
  unfold inq oneq
  split
  · simp
  split
  · simp [allq_len]; omega
  split
  · simp [allq_len]; omega
  split
  · simp
  split
  · simp
  split <;> simp
/-- What of a list of steps is told: asked for in order, and dropped. -/
def ris : List COp → List Int → Bool
  | [], held => held.isEmpty
  | o :: l, held =>
    if o.kind = 2 ∨ o.kind = 3 then (if held.any (fun h => decide (o.lock ≤ h)) then false else ris l (held ++ [o.lock]))
    else if o.kind = 5 then (if (held.filter (fun h => decide (h ≠ o.lock))).length = held.length then false else ris l (held.filter (fun h => decide (h ≠ o.lock))))
    else ris l held
theorem ris_ask {o : COp} {l : List COp} {held : List Int} (hk : o.kind = 2 ∨ o.kind = 3) (h : ∀ x ∈ held, x < o.lock) : ris (o :: l) held = ris l (held ++ [o.lock]) := by
  show (if o.kind = 2 ∨ o.kind = 3 then _ else _) = _
  rw [if_pos hk, if_neg]
  simp
  intro x hx
  exact h x hx
theorem ris_ask_no {o : COp} {l : List COp} {held : List Int} {x : Int} (hk : o.kind = 2 ∨ o.kind = 3) (hx : x ∈ held) (h : o.lock ≤ x) : ris (o :: l) held = false := by
  show (if o.kind = 2 ∨ o.kind = 3 then _ else _) = _
  rw [if_pos hk, if_pos]
  simp
  exact ⟨x, hx, h⟩
theorem filter_same {held : List Int} {x : Int} : ((held.filter (fun h => decide (h ≠ x))).length = held.length) ↔ x ∉ held := by
  rw [List.length_filter_eq_length_iff]
  constructor
  · intro h hx
    have := h x hx
    simp at this
  · intro h y hy
    simp
    rintro rfl
    exact h hy
theorem ris_drop {o : COp} {l : List COp} {held : List Int} (hk : o.kind = 5) (h : o.lock ∈ held) : ris (o :: l) held = ris l (held.filter (fun h => decide (h ≠ o.lock))) := by
  show (if o.kind = 2 ∨ o.kind = 3 then _ else _) = _
  rw [if_neg (by omega), if_pos hk, if_neg]
  rw [filter_same]
  exact fun h2 => h2 h
theorem ris_drop_no {o : COp} {l : List COp} {held : List Int} (hk : o.kind = 5) (h : o.lock ∉ held) : ris (o :: l) held = false := by
  show (if o.kind = 2 ∨ o.kind = 3 then _ else _) = _
  rw [if_neg (by omega), if_pos hk, if_pos]
  rw [filter_same]
  exact h
theorem ris_skip {o : COp} {l : List COp} {held : List Int} (h2 : o.kind ≠ 2) (h3 : o.kind ≠ 3) (h5 : o.kind ≠ 5) : ris (o :: l) held = ris l held := by
  show (if o.kind = 2 ∨ o.kind = 3 then _ else _) = _
  rw [if_neg (by omega), if_neg h5]
/-- Locks from a on, n of them. -/
def locks (a n : Nat) : List Int := (List.range' a n).map fun (i : Nat) => (i : Int)
theorem locks_cons (a n : Nat) : locks a (n + 1) = (a : Int) :: locks (a + 1) n := by simp [locks, List.range'_succ]
theorem locks_mem {a n : Nat} {x : Int} : x ∈ locks a n ↔ (a : Int) ≤ x ∧ x < a + n := by
  unfold locks
  rw [List.mem_map]
  constructor
  · rintro ⟨i, hi, rfl⟩
    rw [List.mem_range'_1] at hi
    omega
  · intro h
    refine ⟨x.toNat, ?_, by omega⟩
    rw [List.mem_range'_1]
    omega
theorem allq_locks (n : Nat) (k : Int) : allq n k = (List.range' 0 n).map fun (i : Nat) => ⟨k, (i : Int)⟩ := by
  unfold allq; rw [List.range_eq_range']
theorem ris_asks {k : Int} (hk : k = 2 ∨ k = 3) (rest : List COp) : ∀ (n a : Nat) (held : List Int), (∀ x ∈ held, x < a) →
    ris (((List.range' a n).map fun (i : Nat) => (⟨k, (i : Int)⟩ : COp)) ++ rest) held = ris rest (held ++ locks a n)
  | 0, a, held, h => by simp [locks]
  | n + 1, a, held, h => by
    rw [List.range'_succ, List.map_cons, List.cons_append, ris_ask hk h, ris_asks hk rest n (a + 1) _ (by
      intro x hx
      rcases List.mem_append.1 hx with hx | hx
      · have := h x hx; omega
      · simp at hx; omega), locks_cons, List.append_assoc]
    rfl
theorem filter_locks (a n : Nat) : (locks a (n + 1)).filter (fun h => decide (h ≠ (a : Int))) = locks (a + 1) n := by
  rw [locks_cons, List.filter_cons, if_neg (by simp), List.filter_eq_self]
  intro x hx
  have := locks_mem.1 hx
  simp; omega
theorem ris_drops (rest : List COp) : ∀ (n a : Nat), ris (((List.range' a n).map fun (i : Nat) => (⟨5, (i : Int)⟩ : COp)) ++ rest) (locks a n) = ris rest []
  | 0, a => by simp [locks]
  | n + 1, a => by
    rw [List.range'_succ, List.map_cons, List.cons_append, ris_drop rfl (by rw [locks_cons]; simp), filter_locks, ris_drops rest n (a + 1)]
theorem ris_one {k : Int} (hk : k = 2 ∨ k = 3) (h : Int) (rest : List COp) (held : List Int) (hh : ∀ x ∈ held, x < h) : ris (oneq k h ++ rest) held = ris rest held := by
  unfold oneq
  rw [List.cons_append, ris_ask hk hh, List.cons_append, ris_skip (by decide) (by decide) (by decide), List.cons_append, ris_drop rfl (by simp), List.nil_append]
  congr 1
  rw [List.filter_append]
  simp
  intro x hx
  have := hh x hx
  omega
theorem ris_in (home : Int) (s : Nat) (kind : Int) (rest : List COp) : ris (inq home s kind ++ rest) [] = ris rest [] := by
  unfold inq
  split
  · rw [List.append_assoc, ris_one (.inr rfl) _ _ _ (by simp)]
    rw [List.cons_append, ris_ask (.inr rfl) (by simp), List.cons_append, ris_skip (by decide) (by decide) (by decide), List.cons_append, ris_drop rfl (by simp)]
    simp
  split
  · rw [List.append_assoc, List.append_assoc, allq_locks, ris_asks (.inr rfl) _ _ _ _ (by simp), List.cons_append, ris_skip (by decide) (by decide) (by decide), List.nil_append, List.nil_append, allq_locks, ris_drops]
  split
  · rw [List.append_assoc, List.append_assoc, allq_locks, ris_asks (.inl rfl) _ _ _ _ (by simp), List.nil_append, ris_one (.inr rfl) _ _ _ (by intro x hx; have := locks_mem.1 hx; omega), allq_locks, ris_drops]
  split
  · exact ris_one (.inr rfl) _ _ _ (by simp)
  split
  · exact ris_one (.inl rfl) _ _ _ (by simp)
  split
  · exact ris_one (.inl rfl) _ _ _ (by simp)
  · exact ris_one (.inr rfl) _ _ _ (by simp)
def opsq (ok : Bool) (err home : Int) (s : Nat) (kind : Int) : List COp :=
  if ok then [⟨1, 0⟩] ++ (if err = 0 then inq home s kind else []) ++ [⟨7, 0⟩] else []
theorem opsq_ris (ok : Bool) (err home : Int) (s : Nat) (kind : Int) : ris (opsq ok err home s kind) [] = true := by
  unfold opsq
  split
  · rw [List.append_assoc, List.cons_append, ris_skip (by decide) (by decide) (by decide), List.nil_append]
    split
    · rw [ris_in, ris_skip (by decide) (by decide) (by decide)]; rfl
    · rw [List.nil_append, ris_skip (by decide) (by decide) (by decide)]; rfl
  · rfl
theorem opsq_len (ok : Bool) (err home : Int) (s : Nat) (kind : Int) : (opsq ok err home s kind).length ≤ 2 * s + 8 := by
  unfold opsq
  have := inq_len home s kind
  split
  · split <;> simp <;> omega
  · simp
end Go.Proofs.Ytkjmacdekfbfhaa
