/- Samples put together by their ticks: plain facts, no program in sight. -/
import Derived.Test.YtkjmacdekfbfhaaSmp
namespace Go.Proofs.Ytkjmacdekfbfhaa
set_option linter.unusedSimpArgs false
set_option linter.unusedVariables false

def mxI : Int := 9223372036854775807
/-- What comes together at a tick. -/
def sumT : List Smp → Int → Int
  | [], _ => 0
  | x :: l, t => (if x.tick = t then max x.value 0 else 0) + sumT l t
def hasT (l : List Smp) (t : Int) : Bool := l.any fun x => decide (x.tick = t)
theorem sumT_append (a b : List Smp) (t : Int) : sumT (a ++ b) t = sumT a t + sumT b t := by
  induction a with
  | nil => simp [sumT]
  | cons x a ih => rw [List.cons_append, sumT, sumT, ih, Int.add_assoc]
theorem sumT_nonneg (a : List Smp) (t : Int) : 0 ≤ sumT a t := by
  induction a with
  | nil => exact Int.le_refl _
  | cons x a ih => rw [sumT]; split <;> omega
theorem sumT_none {a : List Smp} {t : Int} (h : hasT a t = false) : sumT a t = 0 := by
  induction a with
  | nil => rfl
  | cons x a ih =>
    rw [hasT, List.any_cons, Bool.or_eq_false_iff] at h
    rw [sumT, if_neg (by simpa using h.1), ih h.2]; rfl
theorem hasT_append (a b : List Smp) (t : Int) : hasT (a ++ b) t = (hasT a t || hasT b t) := by simp [hasT]
/-- Rising ticks, each once. -/
def Asc (l : List Smp) : Prop := l.Pairwise fun x y => x.tick < y.tick
/-- r is what l comes to, put together. -/
def IsM (r l : List Smp) : Prop := Asc r ∧ (∀ t, hasT r t = hasT l t) ∧ ∀ x ∈ r, x.value = min mxI (sumT l x.tick)
theorem asc_ext : ∀ {a b : List Smp}, Asc a → Asc b → (∀ x, x ∈ a ↔ x ∈ b) → a = b
  | [], [], _, _, _ => rfl
  | [], y :: b, _, _, h => by have := (h y).2 (by simp); simp at this
  | x :: a, [], _, _, h => by have := (h x).1 (by simp); simp at this
  | x :: a, y :: b, h1, h2, h => by
    obtain ⟨p1, p2⟩ := List.pairwise_cons.1 h1
    obtain ⟨q1, q2⟩ := List.pairwise_cons.1 h2
    have e : x = y := by
      rcases List.mem_cons.1 ((h x).1 (by simp)) with e | hx
      · exact e
      · rcases List.mem_cons.1 ((h y).2 (by simp)) with e | hy
        · exact e.symm
        · have := p1 y hy; have := q1 x hx; omega
    subst e
    rw [asc_ext p2 q2 fun z => ⟨fun hz => by
      rcases List.mem_cons.1 ((h z).1 (by simp [hz])) with e | hm
      · subst e; have := p1 z hz; omega
      · exact hm, fun hz => by
      rcases List.mem_cons.1 ((h z).2 (by simp [hz])) with e | hm
      · subst e; have := q1 z hz; omega
      · exact hm⟩]
theorem IsM.mem {r l : List Smp} (h : IsM r l) (x : Smp) : x ∈ r ↔ hasT l x.tick = true ∧ x.value = min mxI (sumT l x.tick) := by
  obtain ⟨h1, h2, h3⟩ := h
  constructor
  · intro hx
    exact ⟨by rw [← h2]; exact List.any_eq_true.2 ⟨x, hx, by simp⟩, h3 x hx⟩
  · rintro ⟨e1, e2⟩
    rw [← h2] at e1
    obtain ⟨y, hy, hyt⟩ := List.any_eq_true.1 e1
    have hyt : y.tick = x.tick := by simpa using hyt
    have hv := h3 y hy
    rw [hyt, ← e2] at hv
    have : y = x := by obtain ⟨a, b⟩ := y; obtain ⟨c, d⟩ := x; simp at hyt hv; rw [hyt, hv]
    exact this ▸ hy
theorem IsM.uniq {r r' l : List Smp} (h : IsM r l) (h' : IsM r' l) : r = r' := asc_ext h.1 h'.1 fun x => by rw [h.mem, h'.mem]
theorem IsM.of {r l l' : List Smp} (h : IsM r l) (ht : ∀ t, hasT l t = hasT l' t) (hs : ∀ t, min mxI (sumT l t) = min mxI (sumT l' t)) : IsM r l' :=
  ⟨h.1, fun t => by rw [h.2.1, ht], fun x hx => by rw [h.2.2 x hx, hs]⟩
theorem IsM.rot {r a b c : List Smp} (h : IsM r (c ++ a ++ b)) : IsM r (a ++ b ++ c) :=
  h.of (fun t => by simp only [hasT_append]; cases hasT a t <;> cases hasT b t <;> cases hasT c t <;> rfl) (fun t => by simp only [sumT_append]; congr 1; omega)
theorem sumT_asc : ∀ {r : List Smp}, Asc r → ∀ x ∈ r, 0 ≤ x.value → sumT r x.tick = x.value
  | [], _, x, hx, _ => by simp at hx
  | y :: r, h, x, hx, h0 => by
    obtain ⟨p1, p2⟩ := List.pairwise_cons.1 h
    rw [sumT]
    rcases List.mem_cons.1 hx with rfl | hx
    · rw [if_pos rfl, sumT_none (by
        cases hh : hasT r x.tick
        · rfl
        · obtain ⟨z, hz, hzt⟩ := List.any_eq_true.1 hh
          have := p1 z hz
          simp at hzt; omega)]
      omega
    · rw [if_neg (by have := p1 x hx; omega), sumT_asc p2 x hx h0]; omega
theorem IsM.pos {r l : List Smp} (h : IsM r l) : ∀ x ∈ r, 0 ≤ x.value ∧ x.value ≤ mxI := by
  intro x hx
  rw [h.2.2 x hx]
  have := sumT_nonneg l x.tick
  unfold mxI
  omega
/-- What was put together, and the rest. -/
theorem IsM.nest {r m a c : List Smp} (hm : IsM m a) (h : IsM r (m ++ c)) : IsM r (a ++ c) := by
  refine h.of (fun t => by rw [hasT_append, hasT_append, hm.2.1]) (fun t => ?_)
  rw [sumT_append, sumT_append]
  have c0 := sumT_nonneg c t
  have a0 := sumT_nonneg a t
  have e : sumT m t = min mxI (sumT a t) := by
    cases hh : hasT a t
    · rw [sumT_none hh, sumT_none (by rw [hm.2.1]; exact hh)]; rfl
    · rw [← hm.2.1] at hh
      obtain ⟨z, hz, hzt⟩ := List.any_eq_true.1 hh
      have hzt : z.tick = t := by simpa using hzt
      subst hzt
      rw [sumT_asc hm.1 z hz (hm.pos z hz).1, hm.2.2 z hz]
  rw [e]
  unfold mxI
  omega
/-- The reference's way: one more value at a tick. -/
def putM (t v : Int) : List Smp → List Smp
  | [] => [⟨t, v⟩]
  | x :: l => if x.tick < t then x :: putM t v l else if x.tick = t then ⟨t, min mxI (x.value + v)⟩ :: l else ⟨t, v⟩ :: x :: l
theorem putM_has (t v : Int) : ∀ (l : List Smp) (u : Int), hasT (putM t v l) u = (hasT l u || decide (t = u))
  | [], u => by simp [putM, hasT]
  | x :: l, u => by
    rw [putM]
    split
    · show (decide (x.tick = u) || hasT (putM t v l) u) = ((decide (x.tick = u) || hasT l u) || _)
      rw [putM_has t v l u, Bool.or_assoc]
    · split
      · rename_i e
        show (decide (t = u) || hasT l u) = ((decide (x.tick = u) || hasT l u) || _)
        rw [e]; cases decide (t = u) <;> cases hasT l u <;> rfl
      · show (decide (t = u) || (decide (x.tick = u) || hasT l u)) = ((decide (x.tick = u) || hasT l u) || _)
        rw [Bool.or_comm]
theorem putM_asc (t v : Int) : ∀ {l : List Smp}, Asc l → Asc (putM t v l)
  | [], _ => by simp [putM, Asc]
  | x :: l, h => by
    obtain ⟨p1, p2⟩ := List.pairwise_cons.1 h
    rw [putM]
    split
    · rename_i hlt
      refine List.pairwise_cons.2 ⟨fun y hy => ?_, putM_asc t v p2⟩
      have hh : hasT (putM t v l) y.tick = true := List.any_eq_true.2 ⟨y, hy, by simp⟩
      rw [putM_has, Bool.or_eq_true] at hh
      rcases hh with hh | hh
      · obtain ⟨z, hz, hzt⟩ := List.any_eq_true.1 hh
        have := p1 z hz
        simp at hzt; omega
      · simp at hh; omega
    · split
      · rename_i e
        exact List.pairwise_cons.2 ⟨fun y hy => by have := p1 y hy; simp only; omega, p2⟩
      · rename_i h1 h2
        refine List.pairwise_cons.2 ⟨fun y hy => ?_, h⟩
        rcases List.mem_cons.1 hy with rfl | hy
        · simp only; omega
        · have := p1 y hy; simp only; omega
theorem putM_val (t v : Int) : ∀ {l : List Smp}, Asc l → ∀ x ∈ putM t v l, (x.tick ≠ t ∧ x ∈ l) ∨ (x.tick = t ∧ ((∃ y ∈ l, y.tick = t ∧ x.value = min mxI (y.value + v)) ∨ (hasT l t = false ∧ x.value = v)))
  | [], _, x, hx => by
    simp [putM] at hx
    subst hx
    exact .inr ⟨rfl, .inr ⟨rfl, rfl⟩⟩
  | y :: l, h, x, hx => by
    obtain ⟨p1, p2⟩ := List.pairwise_cons.1 h
    rw [putM] at hx
    split at hx
    · rename_i hlt
      rcases List.mem_cons.1 hx with rfl | hx
      · exact .inl ⟨by omega, by simp⟩
      · rcases putM_val t v p2 x hx with ⟨h1, h2⟩ | ⟨h1, ⟨z, h2, h3⟩ | ⟨h2, h3⟩⟩
        · exact .inl ⟨h1, by simp [h2]⟩
        · exact .inr ⟨h1, .inl ⟨z, by simp [h2], h3⟩⟩
        · refine .inr ⟨h1, .inr ⟨?_, h3⟩⟩
          rw [hasT, List.any_cons, Bool.or_eq_false_iff]
          exact ⟨by simp; omega, h2⟩
    · split at hx
      · rename_i e
        rcases List.mem_cons.1 hx with rfl | hx
        · exact .inr ⟨rfl, .inl ⟨y, by simp, e, rfl⟩⟩
        · exact .inl ⟨by have := p1 x hx; omega, by simp [hx]⟩
      · rename_i h1 h2
        rcases List.mem_cons.1 hx with rfl | hx
        · refine .inr ⟨rfl, .inr ⟨?_, rfl⟩⟩
          cases hh : hasT (y :: l) t
          · rfl
          · obtain ⟨z, hz, hzt⟩ := List.any_eq_true.1 hh
            simp at hzt
            rcases List.mem_cons.1 hz with rfl | hz
            · omega
            · have := p1 z hz; omega
        · refine .inl ⟨?_, hx⟩
          rcases List.mem_cons.1 hx with rfl | hx
          · exact h2
          · have := p1 x hx; omega
def mrgq (l : List Smp) : List Smp := l.foldl (fun out x => putM x.tick (max x.value 0) out) []
theorem mrgq_snoc (l : List Smp) (x : Smp) : mrgq (l ++ [x]) = putM x.tick (max x.value 0) (mrgq l) := by simp [mrgq]
theorem IsM.put {r l : List Smp} (h : IsM r l) {x : Smp} (hx : x.value ≤ mxI) : IsM (putM x.tick (max x.value 0) r) (l ++ [x]) := by
  refine ⟨putM_asc _ _ h.1, fun t => ?_, fun y hy => ?_⟩
  · rw [putM_has, hasT_append, h.2.1]; simp [hasT]
  · rw [sumT_append]
    have s0 := sumT_nonneg l y.tick
    rcases putM_val _ _ h.1 y hy with ⟨h1, h2⟩ | ⟨h1, ⟨z, h2, h3, h4⟩ | ⟨h2, h3⟩⟩
    · rw [h.2.2 y h2]
      have : sumT [x] y.tick = 0 := by simp [sumT]; intro e; exact absurd e.symm h1
      rw [this, Int.add_zero]
    · have : sumT [x] y.tick = max x.value 0 := by simp [sumT, h1]
      rw [this, h4, h.2.2 z h2, h3, ← h1]
      unfold mxI at *
      omega
    · have : sumT [x] y.tick = max x.value 0 := by simp [sumT, h1]
      rw [this, h3, h1, sumT_none (by rw [← h.2.1]; exact h2)]
      unfold mxI at *
      omega
theorem mrgq_is : ∀ (l : List Smp), (∀ x ∈ l, x.value ≤ mxI) → IsM (mrgq l) l := by
  have h : ∀ (n : Nat) (l : List Smp), l.length = n → (∀ x ∈ l, x.value ≤ mxI) → IsM (mrgq l) l := by
    intro n
    induction n with
    | zero => intro l hl _; rw [List.eq_nil_of_length_eq_zero hl]; exact ⟨List.Pairwise.nil, fun _ => rfl, fun x hx => by simp [mrgq] at hx⟩
    | succ n ih =>
      intro l hl hg
      rcases List.eq_nil_or_concat l with rfl | ⟨m, x, rfl⟩
      · simp at hl
      · rw [List.concat_eq_append] at *
        rw [mrgq_snoc]
        exact (ih m (by simpa using hl) (fun y hy => hg y (by simp [hy]))).put (hg x (by simp))
  exact fun l => h l.length l rfl
theorem mrgq_len (l : List Smp) : (mrgq l).length ≤ l.length := by
  have hp : ∀ (t v : Int) (r : List Smp), (putM t v r).length ≤ r.length + 1 := by
    intro t v r
    induction r with
    | nil => simp [putM]
    | cons x r ih =>
      rw [putM]
      split
      · simp; exact ih
      · split <;> simp
  have : ∀ (n : Nat) (l : List Smp), l.length = n → (mrgq l).length ≤ n := by
    intro n
    induction n with
    | zero => intro l hl; rw [List.eq_nil_of_length_eq_zero hl]; exact Nat.le_refl _
    | succ n ih =>
      intro l hl
      rcases List.eq_nil_or_concat l with rfl | ⟨m, x, rfl⟩
      · simp at hl
      · rw [List.concat_eq_append] at *
        rw [mrgq_snoc]
        have := ih m (by simpa using hl)
        have := hp x.tick (max x.value 0) (mrgq m)
        omega
  exact this l.length l rfl
/-- A map's keys in order, each with what stands there. -/
theorem IsM.ofMap {l : List Smp} {ss ks : List Int} {f : Int → Int} (hp : ss.Perm ks) (hn : ks.Nodup) (hs : ss.Pairwise (· ≤ ·)) (hk : ∀ t, t ∈ ks ↔ hasT l t = true) (hf : ∀ t ∈ ks, f t = min mxI (sumT l t)) :
    IsM (ss.map fun t => ⟨t, f t⟩) l := by
  have hn' : ss.Nodup := hp.symm.nodup hn
  refine ⟨?_, fun t => ?_, fun x hx => ?_⟩
  · unfold Asc
    rw [List.pairwise_map]
    exact (hs.and hn').imp fun {a b} h => by have := h.1; have := h.2; simp only; omega
  · rw [Bool.eq_iff_iff, ← hk t, ← hp.mem_iff]
    simp [hasT]
  · obtain ⟨t, ht, rfl⟩ := List.mem_map.1 hx
    exact hf t (hp.mem_iff.1 ht)
end Go.Proofs.Ytkjmacdekfbfhaa
