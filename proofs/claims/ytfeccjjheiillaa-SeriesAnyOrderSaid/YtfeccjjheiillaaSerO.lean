/- A series does not hang on the order of unlike ticks: plain. -/
import Derived.Test.YtfeccjjheiillaaSer6
namespace Go.Proofs.Ytfeccjjheiillaa
set_option linter.unusedVariables false
set_option linter.unusedSimpArgs false
def lastN (n : Nat) (l : List Smp) : List Smp := l.drop (l.length - n)
def fullv (a : List Smp) (x : Smp) : List Smp := if serErr x.tick x.value = 0 then putL a x else a
def fullq (l : List Smp) : List Smp := l.foldl fullv []
theorem mem_putL {l : List Smp} {x y : Smp} : y ∈ putL l x ↔ y = x ∨ (y ∈ l ∧ y.tick ≠ x.tick) := by
  unfold putL lows highs
  rw [List.mem_append, List.mem_cons, List.mem_filter, List.mem_filter]
  simp only [decide_eq_true_eq]
  constructor
  · rintro (⟨h1, h2⟩ | h | ⟨h1, h2⟩)
    · exact .inr ⟨h1, by omega⟩
    · exact .inl h
    · exact .inr ⟨h1, by omega⟩
  · rintro (h | ⟨h1, h2⟩)
    · exact .inr (.inl h)
    · rcases Int.lt_or_gt_of_ne h2 with h | h
      · exact .inl ⟨h1, h⟩
      · exact .inr (.inr ⟨h1, h⟩)
theorem putL_app_low {a b : List Smp} {x : Smp} (h : ∀ y ∈ b, x.tick < y.tick) : putL (a ++ b) x = putL a x ++ b := by
  unfold putL lows highs
  rw [List.filter_append, List.filter_append, filter_none (l := b) (fun y hy => by have := h y hy; simp; omega), filter_all (l := b) (fun y hy => by have := h y hy; simp; omega)]
  simp
theorem putL_app_high {a b : List Smp} {x : Smp} (h : ∀ y ∈ a, y.tick < x.tick) : putL (a ++ b) x = a ++ putL b x := by
  unfold putL lows highs
  rw [List.filter_append, List.filter_append, filter_all (l := a) (fun y hy => by have := h y hy; simp; omega), filter_none (l := a) (fun y hy => by have := h y hy; simp; omega)]
  simp
theorem putL_pos (l : List Smp) (x : Smp) : l.length ≤ (putL l x).length ∨ ∃ y ∈ l, y.tick = x.tick := by
  by_cases h : ∃ y ∈ l, y.tick = x.tick
  · exact .inr h
  · left
    unfold putL lows highs
    rw [List.length_append, List.length_cons]
    have key : ∀ l : List Smp, (¬ ∃ y ∈ l, y.tick = x.tick) → l.length ≤ (l.filter (fun y => decide (y.tick < x.tick))).length + (l.filter (fun y => decide (x.tick < y.tick))).length := by
      intro l
      induction l with
      | nil => simp
      | cons y l ih =>
        intro h
        have h1 : y.tick ≠ x.tick := fun e => h ⟨y, by simp, e⟩
        have h2 := ih (fun ⟨z, hz, e⟩ => h ⟨z, by simp [hz], e⟩)
        simp only [List.filter_cons, List.length_cons]
        by_cases h3 : y.tick < x.tick
        · have h4 : ¬ x.tick < y.tick := by omega
          simp [h3, h4]; omega
        · have h4 : x.tick < y.tick := by omega
          simp [h3, h4]; omega
    have := key l h
    omega
theorem lastN_full {L : List Smp} (hs : Srt L) {room : Nat} (h1 : 1 ≤ room) (x : Smp) : lastN room (putL L x) = putq (lastN room L) room x := by
  by_cases hl : L.length ≤ room
  · have e : lastN room L = L := by unfold lastN; rw [Nat.sub_eq_zero_of_le hl]; rfl
    rw [e]
    unfold lastN putq
    have := len_putL L x
    split
    · rw [show (putL L x).length - room = 1 by omega]
    · rw [show (putL L x).length - room = 0 by omega]; rfl
  · obtain ⟨a, b, e, hb⟩ : ∃ a b, L = a ++ b ∧ b.length = room := ⟨L.take (L.length - room), L.drop (L.length - room), (List.take_append_drop _ _).symm, by rw [List.length_drop]; omega⟩
    have hlast : lastN room L = b := by
      unfold lastN; rw [e, List.length_append, hb, Nat.add_sub_cancel, List.drop_left]
    rw [hlast]
    have hsab : Srt (a ++ b) := e ▸ hs
    obtain ⟨sa, sb, sab⟩ := List.pairwise_append.1 hsab
    rw [e]
    by_cases hlow : ∀ y ∈ b, x.tick < y.tick
    · rw [putL_app_low hlow]
      have e1 : lastN room (putL a x ++ b) = b := by
        unfold lastN; rw [List.length_append, hb, Nat.add_sub_cancel, List.drop_left]
      have e2 : putL b x = x :: b := by have := putL_app_low (a := []) hlow; simpa [putL, lows, highs] using this
      rw [e1]
      unfold putq
      rw [e2, if_pos (by rw [List.length_cons, hb]; omega)]
      rfl
    · have hhigh : ∀ y ∈ a, y.tick < x.tick := by
        intro y hy
        by_cases hn : y.tick < x.tick
        · exact hn
        · exact absurd (fun z hz => by have := sab y hy z hz; omega) hlow
      rw [putL_app_high hhigh]
      have hl1 := len_putL b x
      have hl2 : b.length ≤ (putL b x).length := by
        rcases putL_len_of sb x with ⟨_, h⟩ | ⟨_, h⟩ <;> omega
      unfold lastN putq
      rw [List.length_append]
      split
      · rw [show a.length + (putL b x).length - room = a.length + 1 by omega, ← List.drop_drop, List.drop_left]
      · rw [show a.length + (putL b x).length - room = a.length by omega, List.drop_left]
theorem srt_fullv {a : List Smp} (h : Srt a) (x : Smp) : Srt (fullv a x) := by
  unfold fullv; split
  · exact srt_putL h x
  · exact h
theorem serq_full {room : Nat} (h1 : 1 ≤ room) (l : List Smp) : serq room l = lastN room (fullq l) := by
  have key : ∀ (l a b : List Smp), Srt a → b = lastN room a → l.foldl (fun a x => putv a room x) b = lastN room (l.foldl fullv a) := by
    intro l
    induction l with
    | nil => intro a b _ h; exact h
    | cons x l ih =>
      intro a b hs h
      refine ih (fullv a x) (putv b room x) (srt_fullv hs x) ?_
      unfold putv fullv
      split
      · rw [h, lastN_full hs h1]
      · exact h
  exact key l [] [] List.Pairwise.nil (by simp [lastN])
theorem srt_fullq (l : List Smp) : Srt (fullq l) := by
  have key : ∀ (l a : List Smp), Srt a → Srt (l.foldl fullv a) := by
    intro l
    induction l with
    | nil => intro a h; exact h
    | cons x l ih => intro a h; exact ih _ (srt_fullv h x)
  exact key l [] List.Pairwise.nil
def Dst (l : List Smp) : Prop := l.Pairwise (fun a b => a.tick ≠ b.tick)
theorem mem_fullq {l : List Smp} (hd : Dst l) (y : Smp) : y ∈ fullq l ↔ y ∈ l ∧ serErr y.tick y.value = 0 := by
  have key : ∀ (l a : List Smp), Dst l → (∀ z ∈ a, ∀ x ∈ l, z.tick ≠ x.tick) → (y ∈ l.foldl fullv a ↔ y ∈ a ∨ (y ∈ l ∧ serErr y.tick y.value = 0)) := by
    intro l
    induction l with
    | nil => intro a _ _; simp
    | cons x l ih =>
      intro a hd hc
      obtain ⟨d1, d2⟩ := List.pairwise_cons.1 hd
      have hc2 : ∀ z ∈ fullv a x, ∀ u ∈ l, z.tick ≠ u.tick := by
        intro z hz u hu
        unfold fullv at hz
        split at hz
        · rcases mem_putL.1 hz with rfl | ⟨hz, _⟩
          · exact d1 u hu
          · exact hc z hz u (by simp [hu])
        · exact hc z hz u (by simp [hu])
      rw [List.foldl_cons, ih _ d2 hc2]
      unfold fullv
      by_cases he : serErr x.tick x.value = 0
      · rw [if_pos he, mem_putL]
        constructor
        · rintro ((rfl | ⟨h, _⟩) | ⟨h, h2⟩)
          · exact .inr ⟨by simp, he⟩
          · exact .inl h
          · exact .inr ⟨by simp [h], h2⟩
        · rintro (h | ⟨h, h2⟩)
          · exact .inl (.inr ⟨h, hc y h x (by simp)⟩)
          · rcases List.mem_cons.1 h with rfl | h
            · exact .inl (.inl rfl)
            · exact .inr ⟨h, h2⟩
      · rw [if_neg he]
        constructor
        · rintro (h | ⟨h, h2⟩)
          · exact .inl h
          · exact .inr ⟨by simp [h], h2⟩
        · rintro (h | ⟨h, h2⟩)
          · exact .inl h
          · rcases List.mem_cons.1 h with rfl | h
            · exact absurd h2 he
            · exact .inr ⟨h, h2⟩
  have := key l [] hd (fun z hz => by cases hz)
  rw [show fullq l = l.foldl fullv [] from rfl, this]
  simp
theorem srt_ext : ∀ {l m : List Smp}, Srt l → Srt m → (∀ y, y ∈ l ↔ y ∈ m) → l = m
  | [], [], _, _, _ => rfl
  | [], y :: m, _, _, h => by have := (h y).2 (by simp); cases this
  | x :: l, [], _, _, h => by have := (h x).1 (by simp); cases this
  | x :: l, y :: m, hl, hm, h => by
    obtain ⟨l1, l2⟩ := srt_cons hl
    obtain ⟨m1, m2⟩ := srt_cons hm
    have e : x = y := by
      rcases List.mem_cons.1 ((h x).1 (by simp)) with e | hx
      · exact e
      · rcases List.mem_cons.1 ((h y).2 (by simp)) with e | hy
        · exact e.symm
        · have := l1 y hy; have := m1 x hx; omega
    subst e
    congr 1
    refine srt_ext l2 m2 (fun z => ?_)
    constructor
    · intro hz
      rcases List.mem_cons.1 ((h z).1 (by simp [hz])) with rfl | hz2
      · have := l1 z hz; omega
      · exact hz2
    · intro hz
      rcases List.mem_cons.1 ((h z).2 (by simp [hz])) with rfl | hz2
      · have := m1 z hz; omega
      · exact hz2
theorem dst_perm {l m : List Smp} (h : l.Perm m) (hd : Dst l) : Dst m := (h.pairwise_iff (fun hab => Ne.symm hab)).1 hd
theorem serq_perm {room : Nat} (h1 : 1 ≤ room) {l m : List Smp} (hp : l.Perm m) (hd : Dst l) : serq room m = serq room l := by
  rw [serq_full h1, serq_full h1]
  congr 1
  refine srt_ext (srt_fullq _) (srt_fullq _) (fun y => ?_)
  rw [mem_fullq hd, mem_fullq (dst_perm hp hd), hp.mem_iff]
theorem turn_perm (l : List Smp) (k : Nat) : l.Perm ((l.drop k).reverse ++ l.take k) := by
  have h1 : (l.take k ++ l.drop k).Perm (l.drop k ++ l.take k) := List.perm_append_comm
  rw [List.take_append_drop] at h1
  exact h1.trans (List.Perm.append_right _ (List.reverse_perm _).symm)
/-- Rounds of the test for like ticks. -/
def Unl (l : List Smp) (i : Nat) : Prop := ∀ a b x y, a < b → b < i → l[a]? = some x → l[b]? = some y → x.tick ≠ y.tick
theorem unl_zero (l : List Smp) : Unl l 0 := fun a b x y _ h => by omega
theorem unl_next {l : List Smp} {i : Nat} {y : Smp} (hy : l[i]? = some y) (h : Unl l i) (h2 : ∀ a x, a < i → l[a]? = some x → x.tick ≠ y.tick) : Unl l (i + 1) := by
  intro a b x z hab hb hx hz
  by_cases hbi : b = i
  · subst hbi
    rw [hy] at hz; cases hz
    exact h2 a x hab hx
  · exact h a b x z hab (by omega) hx hz
theorem unl_dst {l : List Smp} (h : Unl l l.length) : Dst l := by
  unfold Dst
  rw [List.pairwise_iff_getElem]
  intro i j hi hj hij
  exact h i j _ _ hij hj (List.getElem?_eq_getElem hi) (List.getElem?_eq_getElem hj)
end Go.Proofs.Ytfeccjjheiillaa
