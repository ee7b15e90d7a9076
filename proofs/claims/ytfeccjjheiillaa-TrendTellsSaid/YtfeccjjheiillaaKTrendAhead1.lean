/- Several texts in one. -/
import Derived.Test.YtfeccjjheiillaaSer6
import Derived.Test.YtfeccjjheiillaaMean
import Derived.Test.YtfeccjjheiillaaWin2
import Derived.Test.YtfeccjjheiillaaKeep
import Derived.Test.YtfeccjjheiillaaTotal
import Derived.Test.YtfeccjjheiillaaControl2
import Derived.Test.YtfeccjjheiillaaTrial
import Derived.Test.YtfeccjjheiillaaRegT
/- A series does not hang on the order of unlike ticks: plain. -/
namespace Go.Proofs.Ytfeccjjheiillaa
set_option linter.unusedVariables false
set_option linter.unusedSimpArgs false
def lastN (n : Nat) (l : List Smp) : List Smp := l.drop (l.length - n)
def fullv (a : List Smp) (x : Smp) : List Smp := if serErr x.tick x.value = 0 then putL a x else a
def fullq (l : List Smp) : List Smp := l.foldl fullv []
theorem mem_putL {l : List Smp} {x y : Smp} : y ∈ putL l x ↔ y = x ∨ (y ∈ l ∧ y.tick ≠ x.tick) := by
  unfold putL lows highs
  rw [List.mem_append, List.mem_cons, List.mem_filter, List.mem_filter]
  simp only [decide_eq_true_eq]
  constructor
  · rintro (⟨h1, h2⟩ | h | ⟨h1, h2⟩)
    · exact .inr ⟨h1, by omega⟩
    · exact .inl h
    · exact .inr ⟨h1, by omega⟩
  · rintro (h | ⟨h1, h2⟩)
    · exact .inr (.inl h)
    · rcases Int.lt_or_gt_of_ne h2 with h | h
      · exact .inl ⟨h1, h⟩
      · exact .inr (.inr ⟨h1, h⟩)
theorem putL_app_low {a b : List Smp} {x : Smp} (h : ∀ y ∈ b, x.tick < y.tick) : putL (a ++ b) x = putL a x ++ b := by
  unfold putL lows highs
  rw [List.filter_append, List.filter_append, filter_none (l := b) (fun y hy => by have := h y hy; simp; omega), filter_all (l := b) (fun y hy => by have := h y hy; simp; omega)]
  simp
theorem putL_app_high {a b : List Smp} {x : Smp} (h : ∀ y ∈ a, y.tick < x.tick) : putL (a ++ b) x = a ++ putL b x := by
  unfold putL lows highs
  rw [List.filter_append, List.filter_append, filter_all (l := a) (fun y hy => by have := h y hy; simp; omega), filter_none (l := a) (fun y hy => by have := h y hy; simp; omega)]
  simp
theorem putL_pos (l : List Smp) (x : Smp) : l.length ≤ (putL l x).length ∨ ∃ y ∈ l, y.tick = x.tick := by
  by_cases h : ∃ y ∈ l, y.tick = x.tick
  · exact .inr h
  · left
    unfold putL lows highs
    rw [List.length_append, List.length_cons]
    have key : ∀ l : List Smp, (¬ ∃ y ∈ l, y.tick = x.tick) → l.length ≤ (l.filter (fun y => decide (y.tick < x.tick))).length + (l.filter (fun y => decide (x.tick < y.tick))).length := by
      intro l
      induction l with
      | nil => simp
      | cons y l ih =>
        intro h
        have h1 : y.tick ≠ x.tick := fun e => h ⟨y, by simp, e⟩
        have h2 := ih (fun ⟨z, hz, e⟩ => h ⟨z, by simp [hz], e⟩)
        simp only [List.filter_cons, List.length_cons]
        by_cases h3 : y.tick < x.tick
        · have h4 : ¬ x.tick < y.tick := by omega
          simp [h3, h4]; omega
        · have h4 : x.tick < y.tick := by omega
          simp [h3, h4]; omega
    have := key l h
    omega
theorem lastN_full {L : List Smp} (hs : Srt L) {room : Nat} (h1 : 1 ≤ room) (x : Smp) : lastN room (putL L x) = putq (lastN room L) room x := by
  by_cases hl : L.length ≤ room
  · have e : lastN room L = L := by unfold lastN; rw [Nat.sub_eq_zero_of_le hl]; rfl
    rw [e]
    unfold lastN putq
    have := len_putL L x
    split
    · rw [show (putL L x).length - room = 1 by omega]
    · rw [show (putL L x).length - room = 0 by omega]; rfl
  · obtain ⟨a, b, e, hb⟩ : ∃ a b, L = a ++ b ∧ b.length = room := ⟨L.take (L.length - room), L.drop (L.length - room), (List.take_append_drop _ _).symm, by rw [List.length_drop]; omega⟩
    have hlast : lastN room L = b := by
      unfold lastN; rw [e, List.length_append, hb, Nat.add_sub_cancel, List.drop_left]
    rw [hlast]
    have hsab : Srt (a ++ b) := e ▸ hs
    obtain ⟨sa, sb, sab⟩ := List.pairwise_append.1 hsab
    rw [e]
    by_cases hlow : ∀ y ∈ b, x.tick < y.tick
    · rw [putL_app_low hlow]
      have e1 : lastN room (putL a x ++ b) = b := by
        unfold lastN; rw [List.length_append, hb, Nat.add_sub_cancel, List.drop_left]
      have e2 : putL b x = x :: b := by have := putL_app_low (a := []) hlow; simpa [putL, lows, highs] using this
      rw [e1]
      unfold putq
      rw [e2, if_pos (by rw [List.length_cons, hb]; omega)]
      rfl
    · have hhigh : ∀ y ∈ a, y.tick < x.tick := by
        intro y hy
        by_cases hn : y.tick < x.tick
        · exact hn
        · exact absurd (fun z hz => by have := sab y hy z hz; omega) hlow
      rw [putL_app_high hhigh]
      have hl1 := len_putL b x
      have hl2 : b.length ≤ (putL b x).length := by
        rcases putL_len_of sb x with ⟨_, h⟩ | ⟨_, h⟩ <;> omega
      unfold lastN putq
      rw [List.length_append]
      split
      · rw [show a.length + (putL b x).length - room = a.length + 1 by omega, ← List.drop_drop, List.drop_left]
      · rw [show a.length + (putL b x).length - room = a.length by omega, List.drop_left]
theorem srt_fullv {a : List Smp} (h : Srt a) (x : Smp) : Srt (fullv a x) := by
  unfold fullv; split
  · exact srt_putL h x
  · exact h
theorem serq_full {room : Nat} (h1 : 1 ≤ room) (l : List Smp) : serq room l = lastN room (fullq l) := by
  have key : ∀ (l a b : List Smp), Srt a → b = lastN room a → l.foldl (fun a x => putv a room x) b = lastN room (l.foldl fullv a) := by
    intro l
    induction l with
    | nil => intro a b _ h; exact h
    | cons x l ih =>
      intro a b hs h
      refine ih (fullv a x) (putv b room x) (srt_fullv hs x) ?_
      unfold putv fullv
      split
      · rw [h, lastN_full hs h1]
      · exact h
  exact key l [] [] List.Pairwise.nil (by simp [lastN])
theorem srt_fullq (l : List Smp) : Srt (fullq l) := by
  have key : ∀ (l a : List Smp), Srt a → Srt (l.foldl fullv a) := by
    intro l
    induction l with
    | nil => intro a h; exact h
    | cons x l ih => intro a h; exact ih _ (srt_fullv h x)
  exact key l [] List.Pairwise.nil
def Dst (l : List Smp) : Prop := l.Pairwise (fun a b => a.tick ≠ b.tick)
theorem mem_fullq {l : List Smp} (hd : Dst l) (y : Smp) : y ∈ fullq l ↔ y ∈ l ∧ serErr y.tick y.value = 0 := by
  have key : ∀ (l a : List Smp), Dst l → (∀ z ∈ a, ∀ x ∈ l, z.tick ≠ x.tick) → (y ∈ l.foldl fullv a ↔ y ∈ a ∨ (y ∈ l ∧ serErr y.tick y.value = 0)) := by
    intro l
    induction l with
    | nil => intro a _ _; simp
    | cons x l ih =>
      intro a hd hc
      obtain ⟨d1, d2⟩ := List.pairwise_cons.1 hd
      have hc2 : ∀ z ∈ fullv a x, ∀ u ∈ l, z.tick ≠ u.tick := by
        intro z hz u hu
        unfold fullv at hz
        split at hz
        · rcases mem_putL.1 hz with rfl | ⟨hz, _⟩
          · exact d1 u hu
          · exact hc z hz u (by simp [hu])
        · exact hc z hz u (by simp [hu])
      rw [List.foldl_cons, ih _ d2 hc2]
      unfold fullv
      by_cases he : serErr x.tick x.value = 0
      · rw [if_pos he, mem_putL]
        constructor
        · rintro ((rfl | ⟨h, _⟩) | ⟨h, h2⟩)
          · exact .inr ⟨by simp, he⟩
          · exact .inl h
          · exact .inr ⟨by simp [h], h2⟩
        · rintro (h | ⟨h, h2⟩)
          · exact .inl (.inr ⟨h, hc y h x (by simp)⟩)
          · rcases List.mem_cons.1 h with rfl | h
            · exact .inl (.inl rfl)
            · exact .inr ⟨h, h2⟩
      · rw [if_neg he]
        constructor
        · rintro (h | ⟨h, h2⟩)
          · exact .inl h
          · exact .inr ⟨by simp [h], h2⟩
        · rintro (h | ⟨h, h2⟩)
          · exact .inl h
          · rcases List.mem_cons.1 h with rfl | h
            · exact absurd h2 he
            · exact .inr ⟨h, h2⟩
  have := key l [] hd (fun z hz => by cases hz)
  rw [show fullq l = l.foldl fullv [] from rfl, this]
  simp
theorem srt_ext : ∀ {l m : List Smp}, Srt l → Srt m → (∀ y, y ∈ l ↔ y ∈ m) → l = m
  | [], [], _, _, _ => rfl
  | [], y :: m, _, _, h => by have := (h y).2 (by simp); cases this
  | x :: l, [], _, _, h => by have := (h x).1 (by simp); cases this
  | x :: l, y :: m, hl, hm, h => by
    obtain ⟨l1, l2⟩ := srt_cons hl
    obtain ⟨m1, m2⟩ := srt_cons hm
    have e : x = y := by
      rcases List.mem_cons.1 ((h x).1 (by simp)) with e | hx
      · exact e
      · rcases List.mem_cons.1 ((h y).2 (by simp)) with e | hy
        · exact e.symm
        · have := l1 y hy; have := m1 x hx; omega
    subst e
    congr 1
    refine srt_ext l2 m2 (fun z => ?_)
    constructor
    · intro hz
      rcases List.mem_cons.1 ((h z).1 (by simp [hz])) with rfl | hz2
      · have := l1 z hz; omega
      · exact hz2
    · intro hz
      rcases List.mem_cons.1 ((h z).2 (by simp [hz])) with rfl | hz2
      · have := m1 z hz; omega
      · exact hz2
theorem dst_perm {l m : List Smp} (h : l.Perm m) (hd : Dst l) : Dst m := (h.pairwise_iff (fun hab => Ne.symm hab)).1 hd
theorem serq_perm {room : Nat} (h1 : 1 ≤ room) {l m : List Smp} (hp : l.Perm m) (hd : Dst l) : serq room m = serq room l := by
  rw [serq_full h1, serq_full h1]
  congr 1
  refine srt_ext (srt_fullq _) (srt_fullq _) (fun y => ?_)
  rw [mem_fullq hd, mem_fullq (dst_perm hp hd), hp.mem_iff]
theorem turn_perm (l : List Smp) (k : Nat) : l.Perm ((l.drop k).reverse ++ l.take k) := by
  have h1 : (l.take k ++ l.drop k).Perm (l.drop k ++ l.take k) := List.perm_append_comm
  rw [List.take_append_drop] at h1
  exact h1.trans (List.Perm.append_right _ (List.reverse_perm _).symm)
/-- Rounds of the test for like ticks. -/
def Unl (l : List Smp) (i : Nat) : Prop := ∀ a b x y, a < b → b < i → l[a]? = some x → l[b]? = some y → x.tick ≠ y.tick
theorem unl_zero (l : List Smp) : Unl l 0 := fun a b x y _ h => by omega
theorem unl_next {l : List Smp} {i : Nat} {y : Smp} (hy : l[i]? = some y) (h : Unl l i) (h2 : ∀ a x, a < i → l[a]? = some x → x.tick ≠ y.tick) : Unl l (i + 1) := by
  intro a b x z hab hb hx hz
  by_cases hbi : b = i
  · subst hbi
    rw [hy] at hz; cases hz
    exact h2 a x hab hx
  · exact h a b x z hab (by omega) hx hz
theorem unl_dst {l : List Smp} (h : Unl l l.length) : Dst l := by
  unfold Dst
  rw [List.pairwise_iff_getElem]
  intro i j hi hj hij
  exact h i j _ _ hij hj (List.getElem?_eq_getElem hi) (List.getElem?_eq_getElem hj)
end Go.Proofs.Ytfeccjjheiillaa
/- Plain facts on the mean that is rounded up. -/
namespace Go.Proofs.Ytfeccjjheiillaa
set_option linter.unusedVariables false
theorem tot_low (l : List Int) (a : Int) (h0 : 0 ≤ a) (h : ∀ x ∈ l, a ≤ x) : a.toNat * l.length ≤ totq l := by
  induction l with
  | nil => simp [totq]
  | cons x l ih =>
    have h1 := ih (fun y hy => h y (by simp [hy]))
    have h2 := h x (by simp)
    simp only [totq, List.map_cons, List.sum_cons, List.length_cons, Nat.mul_add, Nat.mul_one] at *
    omega
theorem tot_high (l : List Int) (b : Int) (h : ∀ x ∈ l, x ≤ b) : totq l ≤ b.toNat * l.length := by
  induction l with
  | nil => simp [totq]
  | cons x l ih =>
    have h1 := ih (fun y hy => h y (by simp [hy]))
    have h2 := h x (by simp)
    simp only [totq, List.map_cons, List.sum_cons, List.length_cons, Nat.mul_add, Nat.mul_one] at *
    omega
theorem upq_le {n d q : Nat} (hd : 0 < d) (h : n ≤ q * d) : upq n d ≤ q := by
  have h2 := (upq_spec (n := n) (d := d) (q := upq n d) hd).2 rfl
  rcases Nat.lt_or_ge q (upq n d) with hlt | hge
  · rcases h2.2 with h3 | h3
    · omega
    · have := Nat.mul_le_mul_right d (show q ≤ upq n d - 1 by omega)
      omega
  · exact hge
theorem le_upq {n d q : Nat} (hd : 0 < d) (h : q * d ≤ n) : q ≤ upq n d := by
  have h2 := ((upq_spec (n := n) (d := d) (q := upq n d) hd).2 rfl).1
  exact Nat.le_of_mul_le_mul_right (Nat.le_trans h h2) hd
theorem mean_plain {l : List Int} (hg : ∀ x ∈ l, I64 x) (hl : 0 < l.length) : meanq l = (upq (totq l) l.length : Nat) ∧ upq (totq l) l.length ≤ 9223372036854775807 := by
  have h1 := upq_le (q := 9223372036854775807) (d := l.length) hl (by have := totq_lt l hg; rw [Nat.mul_comm]; exact this)
  refine ⟨?_, h1⟩
  unfold meanq smallQ
  rw [if_neg (by omega), if_pos (by omega)]
end Go.Proofs.Ytfeccjjheiillaa
/- Lines through samples: plain. -/
namespace Go.Proofs.Ytfeccjjheiillaa
open Go.RowKit
set_option linter.unusedVariables false
set_option linter.unusedSimpArgs false
def tkq (l : List Smp) (i : Nat) : Int := (l.getD i ⟨0, 0⟩).tick
def vlq (l : List Smp) (i : Nat) : Int := (l.getD i ⟨0, 0⟩).value
def midq (l : List Smp) : Int := tkq l 0 + (tkq l (l.length - 1) - tkq l 0) / 2
structure Ln where
  tick : Int
  value : Int
  rise : Int
  run : Int
abbrev Ln.row (x : Ln) : Array Value := #[.int .i64 x.tick, .int .i64 x.value, .int .i64 x.rise, .int .i64 x.run]
def Ln.good (x : Ln) : Prop := I64 x.tick ∧ I64 x.value ∧ I64 x.rise ∧ I64 x.run
def ln0 : Ln := ⟨0, 0, 0, 0⟩
def earlyq (S : List Smp) : List Smp := S.take (S.length / 2)
def lateq (S : List Smp) : List Smp := S.drop (S.length - S.length / 2)
def lineS (S : List Smp) : Ln := if S.length = 0 then ln0 else if S.length = 1 then ⟨tkq S 0, vlq S 0, 0, 1⟩ else ⟨midq (lateq S), meanq (valq (lateq S)), meanq (valq (lateq S)) - meanq (valq (earlyq S)), midq (lateq S) - midq (earlyq S)⟩
def hasS (S : List Smp) : Bool := decide (S.length ≠ 0)
def lnat (x : Ln) (tick : Int) : Int := if x.run < 1 then 0 else max (satq (x.value + floorq (satq (satq (tick - x.tick) * x.rise)) x.run)) 0
theorem tkq_eq {l : List Smp} {i : Nat} {x : Smp} (h : l[i]? = some x) : tkq l i = x.tick := by
  unfold tkq; rw [List.getD_eq_getElem?_getD, h]; rfl
theorem vlq_eq {l : List Smp} {i : Nat} {x : Smp} (h : l[i]? = some x) : vlq l i = x.value := by
  unfold vlq; rw [List.getD_eq_getElem?_getD, h]; rfl
/-- Samples as a series has them. -/
def Fin (S : List Smp) : Prop := Srt S ∧ ∀ x ∈ S, x.good ∧ 0 ≤ x.tick ∧ 0 ≤ x.value
theorem serq_fin (room : Nat) {l : List Smp} (hg : ∀ x ∈ l, x.good) : Fin (serq room l) := by
  refine ⟨srt_serq _ _, fun x hx => ⟨good_serq room hg x hx, ?_⟩⟩
  have key : ∀ (l a : List Smp), (∀ y ∈ a, 0 ≤ y.tick ∧ 0 ≤ y.value) → ∀ y ∈ l.foldl (fun a x => putv a room x) a, 0 ≤ y.tick ∧ 0 ≤ y.value := by
    intro l
    induction l with
    | nil => intro a h; exact h
    | cons x l ih =>
      intro a ha
      refine ih _ (fun y hy => ?_)
      change y ∈ putv a room x at hy
      unfold putv at hy
      split at hy
      · rename_i he
        have h0 := serErr_zero.1 he
        have h1 : y ∈ putL a x := by
          unfold putq at hy
          split at hy
          · exact List.mem_of_mem_drop hy
          · exact hy
        rcases mem_putL.1 h1 with rfl | ⟨h2, _⟩
        · exact h0
        · exact ha y h2
      · exact ha y hy
  exact key l [] (fun y hy => by cases hy) x hx
theorem serq_len (room : Nat) (l : List Smp) : (serq room l).length ≤ l.length := by
  have key : ∀ (l a : List Smp), (l.foldl (fun a x => putv a room x) a).length ≤ a.length + l.length := by
    intro l
    induction l with
    | nil => intro a; exact Nat.le_refl _
    | cons x l ih =>
      intro a
      have h1 := ih (putv a room x)
      have h2 : (putv a room x).length ≤ a.length + 1 := by
        have := len_putL a x
        unfold putv; split
        · unfold putq; split
          · rw [List.length_drop]; omega
          · exact this
        · omega
      simp only [List.foldl_cons, List.length_cons]
      omega
  have := key l []
  rw [List.length_nil, Nat.zero_add] at this
  exact this
theorem Fin.take {S : List Smp} (h : Fin S) (k : Nat) : Fin (S.take k) := ⟨List.Pairwise.take h.1, fun x hx => h.2 x (List.mem_of_mem_take hx)⟩
theorem Fin.drop {S : List Smp} (h : Fin S) (k : Nat) : Fin (S.drop k) := ⟨List.Pairwise.drop h.1, fun x hx => h.2 x (List.mem_of_mem_drop hx)⟩
theorem Fin.ticks {S : List Smp} (h : Fin S) {i j : Nat} (hi : i ≤ j) (hj : j < S.length) : 0 ≤ tkq S i ∧ tkq S i ≤ tkq S j ∧ tkq S j ≤ 9223372036854775807 ∧ (i < j → tkq S i < tkq S j) := by
  have e1 : S[i]? = some S[i] := List.getElem?_eq_getElem (by omega)
  have e2 : S[j]? = some S[j] := List.getElem?_eq_getElem hj
  rw [tkq_eq e1, tkq_eq e2]
  have g1 := h.2 S[i] (List.getElem_mem _)
  have g2 := h.2 S[j] (List.getElem_mem _)
  have hlt : i < j → S[i].tick < S[j].tick := fun hij => List.pairwise_iff_getElem.1 h.1 i j (by omega) hj hij
  have hb := g2.1
  unfold Smp.good I64 at hb
  refine ⟨g1.2.1, ?_, hb.1.2, hlt⟩
  rcases Nat.lt_or_ge i j with hij | hij
  · exact Int.le_of_lt (hlt hij)
  · have : i = j := by omega
    subst this; exact Int.le_refl _
theorem mid_bd {S : List Smp} (h : Fin S) (hl : 0 < S.length) : tkq S 0 ≤ midq S ∧ midq S ≤ tkq S (S.length - 1) ∧ 0 ≤ tkq S 0 ∧ tkq S (S.length - 1) ≤ 9223372036854775807 := by
  obtain ⟨h1, h2, h3, -⟩ := h.ticks (Nat.zero_le (S.length - 1)) (by omega)
  unfold midq
  omega
theorem mean_bd {S : List Smp} (h : Fin S) (hl : 0 < S.length) : 0 ≤ meanq (valq S) ∧ meanq (valq S) ≤ 9223372036854775807 := by
  have hl2 : 0 < (valq S).length := by unfold valq; rw [List.length_map]; exact hl
  have hg : ∀ x ∈ valq S, I64 x := fun x hx => by
    unfold valq at hx
    obtain ⟨y, hy, rfl⟩ := List.mem_map.1 hx
    have h1 := (h.2 y hy).1
    have h2 := (h.2 y hy).2.2
    unfold Smp.good I64 at h1
    unfold I64
    omega
  have := mean_plain hg hl2
  omega
theorem tkq_take {S : List Smp} {k i : Nat} (h : i < k) : tkq (S.take k) i = tkq S i := by
  unfold tkq; rw [List.getD_eq_getElem?_getD, List.getD_eq_getElem?_getD, List.getElem?_take, if_pos h]
theorem tkq_drop (S : List Smp) (k i : Nat) : tkq (S.drop k) i = tkq S (k + i) := by
  unfold tkq; rw [List.getD_eq_getElem?_getD, List.getD_eq_getElem?_getD, List.getElem?_drop]
/-- The run of a line through two samples at least. -/
theorem run_pos {S : List Smp} (h : Fin S) (hl : 2 ≤ S.length) : 1 ≤ midq (lateq S) - midq (earlyq S) := by
  have hle : (earlyq S).length = S.length / 2 := by unfold earlyq; rw [List.length_take]; omega
  have hll : (lateq S).length = S.length / 2 := by unfold lateq; rw [List.length_drop]; omega
  have b1 := mid_bd (h.take (S.length / 2)) (show 0 < (earlyq S).length by omega)
  have b2 := mid_bd (h.drop (S.length - S.length / 2)) (show 0 < (lateq S).length by omega)
  have e1 : tkq (earlyq S) ((earlyq S).length - 1) = tkq S (S.length / 2 - 1) := by
    rw [hle]; exact tkq_take (by omega)
  have e2 : tkq (lateq S) 0 = tkq S (S.length - S.length / 2) := tkq_drop S _ 0
  have e3 := (h.ticks (show S.length / 2 - 1 ≤ S.length - S.length / 2 by omega) (by omega)).2.2.2 (by omega)
  change _ ≤ midq (earlyq S) ∧ midq (earlyq S) ≤ tkq (earlyq S) ((earlyq S).length - 1) ∧ _ at b1
  change tkq (lateq S) 0 ≤ midq (lateq S) ∧ _ at b2
  omega
theorem line_good {S : List Smp} (h : Fin S) : (lineS S).good ∧ (S.length ≠ 0 → 1 ≤ (lineS S).run) := by
  unfold lineS
  by_cases h0 : S.length = 0
  · rw [if_pos h0]; exact ⟨by unfold Ln.good ln0 I64; simp, fun h => absurd h0 h⟩
  · rw [if_neg h0]
    by_cases h1 : S.length = 1
    · rw [if_pos h1]
      have e1 : S[0]? = some S[0] := List.getElem?_eq_getElem (by omega)
      have g := (h.2 S[0] (List.getElem_mem _)).1
      refine ⟨?_, fun _ => Int.le_refl _⟩
      unfold Ln.good
      simp only
      rw [tkq_eq e1, vlq_eq e1]
      unfold Smp.good at g
      exact ⟨g.1, g.2, by unfold I64; omega, by unfold I64; omega⟩
    · rw [if_neg h1]
      have hle : (earlyq S).length = S.length / 2 := by unfold earlyq; rw [List.length_take]; omega
      have hll : (lateq S).length = S.length / 2 := by unfold lateq; rw [List.length_drop]; omega
      have b1 := mid_bd (h.take (S.length / 2)) (show 0 < (earlyq S).length by omega)
      have b2 := mid_bd (h.drop (S.length - S.length / 2)) (show 0 < (lateq S).length by omega)
      have m1 := mean_bd (h.take (S.length / 2)) (show 0 < (earlyq S).length by omega)
      have m2 := mean_bd (h.drop (S.length - S.length / 2)) (show 0 < (lateq S).length by omega)
      have r := run_pos h (by omega)
      change _ ≤ midq (earlyq S) ∧ midq (earlyq S) ≤ _ ∧ _ at b1
      change _ ≤ midq (lateq S) ∧ midq (lateq S) ≤ _ ∧ _ at b2
      change 0 ≤ meanq (valq (earlyq S)) ∧ _ at m1
      change 0 ≤ meanq (valq (lateq S)) ∧ _ at m2
      refine ⟨?_, fun _ => r⟩
      unfold Ln.good I64
      simp only
      have b3 : 0 ≤ tkq (S.take (S.length / 2)) 0 := b1.2.2.1
      have b4 : 0 ≤ tkq (S.drop (S.length - S.length / 2)) 0 := b2.2.2.1
      have b5 := b1.1
      have b6 := b2.1
      have b7 := b1.2.1
      have b8 := b2.2.1
      have b9 := b1.2.2.2
      have b10 := b2.2.2.2
      unfold earlyq lateq at *
      omega
theorem statq_meanT (l : List Smp) : (statq l).mean = meanq (valq l) := by
  unfold statq
  split
  · rename_i h
    rw [List.eq_nil_of_length_eq_zero h]; rfl
  · rfl
end Go.Proofs.Ytfeccjjheiillaa
/- Slices of slices. -/
namespace Go.Proofs.Ytfeccjjheiillaa
open Go.RowKit
set_option linter.unusedSimpArgs false
set_option linter.unusedVariables false
theorem slice_take {α : Type} {w : World} {size : Nat} {cells : α → List Value} {A : Option Addr} {len cap : Nat} {l : List α} (h : SliceIs w size cells A len cap l) {k : Nat} (hk : k ≤ len) : SliceIs w size cells A k cap (l.take k) := by
  obtain ⟨h1, h2, h3, h4, h5⟩ := h
  refine ⟨by rw [List.length_take]; omega, by omega, h3, (fun ha => by have := h4 ha; omega), fun a ha => ?_⟩
  obtain ⟨k1, k2⟩ := h5 a ha
  refine ⟨fun i x hi j v hj => ?_, fun hl => k2 (by omega)⟩
  rw [List.getElem?_take] at hi
  split at hi
  · exact k1 i x hi j v hj
  · cases hi
theorem slice_drop {α : Type} {w : World} {size : Nat} {cells : α → List Value} {b off len cap : Nat} {l : List α} (h : SliceIs w size cells (some ⟨b, off, none⟩) len cap l) {k : Nat} (hk : k ≤ len) : SliceIs w size cells (some ⟨b, off + k * size, none⟩) (len - k) (cap - k) (l.drop k) := by
  obtain ⟨h1, h2, h3, h4, h5⟩ := h
  refine ⟨by rw [List.length_drop]; omega, by omega, by unfold maxLen at *; omega, (fun h => by cases h), fun a ha => ?_⟩
  obtain ⟨k1, k2⟩ := h5 _ rfl
  cases ha
  refine ⟨fun i x hi j v hj => ?_, fun hl => ⟨(k2 (by omega)).1, rfl⟩⟩
  rw [List.getElem?_drop] at hi
  have := k1 (k + i) x hi j v hj
  rw [Addr.add_lit] at this ⊢
  rw [show off + k * size + (i * size + j) = off + ((k + i) * size + j) by rw [Nat.add_mul]; omega]
  exact this
end Go.Proofs.Ytfeccjjheiillaa
/- The reference's rounded quotients of 128 bits. -/
namespace Go.Proofs.Ytfeccjjheiillaa
open Go.RowKit
set_option linter.unusedSimpArgs false
set_option linter.unusedVariables false
set_option maxHeartbeats 400000
theorem cmpN_lt (X Y : Nat) : decide (cmpN X Y < 0) = decide (X < Y) := by
  unfold cmpN
  rw [Bool.eq_iff_iff]
  simp only [decide_eq_true_eq]
  split <;> (try split) <;> omega
theorem mul_lt128q {a b : Nat} (ha : a < 2 ^ 64) (hb : b < 2 ^ 64) : a * b < 2 ^ 128 := by
  have := Nat.mul_le_mul (show a ≤ 2 ^ 64 - 1 by omega) (show b ≤ 2 ^ 64 - 1 by omega)
  omega
theorem rangeAt_blk {w : World} {g : Nat} {t : TypeId} {cs : Array Value} (h : Blk w g t cs) : w.rangeAt g 0 cs.toList := fun j v hv => by
  rw [Nat.zero_add]; exact h.cellv (by simpa using hv)
theorem heldR {w0 W w1 : World} {g : Nat} {cs : List Value} (hb : Below W.heap.size W w1) (hr : W.rangeAt g 0 cs) (hs : g < W.heap.size) (hB : Below g w0 W) : w1.rangeAt g 0 cs ∧ g < w1.heap.size ∧ Below g w0 w1 :=
  ⟨fun j v hv => (hb.cell (p := ⟨g, 0 + j, none⟩) hs).trans (hr j v hv), Nat.lt_of_lt_of_le hs hb.size, hB.trans (hb.mono (Nat.le_of_lt hs))⟩
theorem info_list (N : Nat) : (Try.prog.info? 156).map (·.size) = some (bitsA N).toList.length := by rw [info_num N]; simp
theorem num_MulM (a b M : Nat) (w : World) (hM : M = a * b) (ha : a < 2 ^ 64) (hb : b < 2 ^ 64) :
    Calls Try.prog 114 #[.int .u64 a, .int .u64 b] w fun e w' => e = .returned (.agg (bitsA M)) ∧ Below w.heap.size w w' := by
  subst hM; exact num_Mul a b w ha hb
def upIs (n d q : Nat) : Bool := decide (n ≤ q * d ∧ (q = 0 ∨ (q - 1) * d < n))
end Go.Proofs.Ytfeccjjheiillaa
/- The reference of package control: Load, Want, Bound, Near, Open. -/
namespace Go.Proofs.Ytfeccjjheiillaa
open Go.RowKit
set_option linter.unusedSimpArgs false
set_option linter.unusedVariables false
set_option maxHeartbeats 4000000
set_option maxRecDepth 100000
abbrev Pol.row (p : Pol) : Array Value := #[.int .i64 p.min, .int .i64 p.max, .int .i64 p.target, .int .i64 p.tol, .int .i64 p.window, .int .i64 p.hold]
end Go.Proofs.Ytfeccjjheiillaa
/- decide.latest, Now, why; history.Highest; steady.Of; and the reference's. -/
namespace Go.Proofs.Ytfeccjjheiillaa
open Go.RowKit
set_option linter.unusedSimpArgs false
set_option linter.unusedVariables false
set_option maxHeartbeats 4000000
set_option maxRecDepth 100000
def latestq (l : List Smp) : Int := maxq (l.map Smp.tick)
theorem latest_next {l : List Smp} {k : Nat} {x : Smp} (h : l[k]? = some x) (hk : 1 ≤ k) : latestq (l.take (k + 1)) = max (latestq (l.take k)) x.tick := by
  unfold latestq
  rw [List.map_take, List.map_take]
  exact maxq_next (by rw [List.getElem?_map, h]; rfl) hk
theorem latest_one {l : List Smp} {x : Smp} (h : l[0]? = some x) : latestq (l.take 1) = x.tick := by
  unfold latestq
  rw [List.map_take]
  exact maxq_one (by rw [List.getElem?_map, h]; rfl)
theorem fold_tick {l : List Smp} {k : Nat} {x : Smp} {a : Int} (h : l[k]? = some x) : ((l.take (k + 1)).map Smp.tick).foldl max a = max (((l.take k).map Smp.tick).foldl max a) x.tick := by
  rw [take_next h, List.map_append, List.foldl_append]; rfl
theorem latest_all {l : List Smp} {x : Smp} (h : l[0]? = some x) : (l.map Smp.tick).foldl max x.tick = latestq l := by
  cases l with
  | nil => simp at h
  | cons a l => simp at h; subst h; simp [latestq, maxq]
def nowq (p : Pol) (past : List Adv) : Int := if past.length = 0 then p.min else replAt past (past.length - 1)
def whyq (p : Pol) (held : Bool) (op now th : Int) : Int := if held then 4 else if p.max < op then 6 else if op < p.min then 5 else if now < th then 2 else if th < now then 3 else 1
end Go.Proofs.Ytfeccjjheiillaa
/- history.Highest, steady.Of, and the reference's. -/
namespace Go.Proofs.Ytfeccjjheiillaa
open Go.RowKit
set_option linter.unusedSimpArgs false
set_option linter.unusedVariables false
set_option maxHeartbeats 4000000
set_option maxRecDepth 100000
def hstep (f t : Int) (s : Int × Bool) (a : Adv) : Int × Bool := if f < a.tick ∧ a.tick ≤ t ∧ (s.2 = false ∨ s.1 < a.want) then (a.want, true) else s
def highq0 (l : List Adv) (f t : Int) : Int × Bool := l.foldl (hstep f t) (0, false)
def highest (l : List Adv) (tick hold : Int) : Int × Bool := highq0 l (satq (tick - hold)) tick
theorem high_next {l : List Adv} {k : Nat} {x : Adv} {f t : Int} (h : l[k]? = some x) : highq0 (l.take (k + 1)) f t = hstep f t (highq0 (l.take k) f t) x := by
  unfold highq0; rw [take_next h, List.foldl_append]; rfl
theorem hstep_yes {f t bst : Int} {is : Bool} {x : Adv} (h1 : f < x.tick) (h2 : x.tick ≤ t) (h3 : is = false ∨ bst < x.want) : hstep f t (bst, is) x = (x.want, true) := if_pos ⟨h1, h2, h3⟩
theorem hstep_no {f t bst : Int} {is : Bool} {x : Adv} (h : ¬ (f < x.tick ∧ x.tick ≤ t ∧ (is = false ∨ bst < x.want))) : hstep f t (bst, is) x = (bst, is) := if_neg h
theorem highq_I64 {l : List Adv} (hg : ∀ x ∈ l, x.good) (f t : Int) : I64 (highq0 l f t).1 := by
  have key : ∀ (l : List Adv), (∀ x ∈ l, x.good) → ∀ s : Int × Bool, I64 s.1 → I64 (l.foldl (hstep f t) s).1 := by
    intro l
    induction l with
    | nil => intro _ s hs; exact hs
    | cons x l ih =>
      intro hx s hs
      rw [List.foldl_cons]
      refine ih (fun y hy => hx y (by simp [hy])) _ ?_
      unfold hstep
      split
      · exact (hx x (by simp)).2.2.1
      · exact hs
  exact key l hg _ (by unfold I64; simp)
def steadyq (p : Pol) (tick want : Int) (past : List Adv) : Int × Bool := if (highest past tick p.hold).2 = true ∧ want < (highest past tick p.hold).1 then ((highest past tick p.hold).1, true) else (want, false)
end Go.Proofs.Ytfeccjjheiillaa
/- The reference's mean by halving. -/
namespace Go.Proofs.Ytfeccjjheiillaa
open Go.RowKit
set_option linter.unusedSimpArgs false
set_option linter.unusedVariables false
set_option maxHeartbeats 4000000
set_option maxRecDepth 100000
theorem cmpN_ge (X Y : Nat) : decide (0 ≤ cmpN X Y) = decide (Y ≤ X) := by
  unfold cmpN
  rw [Bool.eq_iff_iff]
  simp only [decide_eq_true_eq]
  split <;> (try split) <;> omega
theorem ref16_atLeastN (A : Option Addr) (len cap : Nat) (l : List Int) (M : Nat) (w : World) (hs : IntsAre w A len cap l) (hg : ∀ x ∈ l, I64 x) (hn : len ≤ 1000) (hM : M ≤ 9223372036854775807) :
    Calls Try.prog 92 #[.slice A len cap, .int .i64 (M : Int)] w fun e w' => e = .returned (.bool (decide (totq l ≤ M * len))) ∧ Below w.heap.size w w' := by
  have HS := Lib.hid hs
  have HG := Lib.hid hg
  have hl := hs.1
  have hT : totq l < 2 ^ 128 := by
    have h1 := totq_lt l hg
    have h2 := Nat.mul_le_mul_right 9223372036854775807 (show l.length ≤ 1000 by omega)
    omega
  have HT := Lib.hid hT
  clear hs hg hT
  by_cases h0 : len = 0
  · have HQ := Lib.hid (show decide (totq l ≤ M * len) = true by
      have : l = [] := List.eq_nil_of_length_eq_zero (by omega)
      subst this
      simp [totq])
    have d0 : ((len : Int) == 0) = true := by simp; omega
    clear h0 hl
    go_enter Try.func92, Try.ntmps92
    go_wp2
    go_ret
    exact ⟨by rw [HQ.out]; rfl, Below.refl _ _⟩
  · have d0 : ((len : Int) == 0) = false := by simp; omega
    obtain ⟨P, hP⟩ : ∃ P, P = M * len := ⟨_, rfl⟩
    have hPl : P < 2 ^ 128 := by rw [hP]; exact mul_lt128q (by omega) (by omega)
    have HPl := Lib.hid hPl
    have HM := Lib.hid (fun W => num_MulM M len P W hP (by omega) (by omega))
    rw [← hP]
    have HTot := Lib.hid (fun W hW => num_Total A len cap l W hW HG.out (by omega))
    have hM2 : (M : Int) ≤ 9223372036854775807 := by omega
    generalize totq l = T at *
    have HC := Lib.hid (fun W => num_Cmp P T W HPl.out HT.out)
    have HR := Lib.hid (cmpN_ge P T)
    generalize cmpN P T = C at *
    clear h0 hl hP hPl
    go_enter Try.func92, Try.ntmps92
    go_wp2_with (first | (go_at_call 114; refine (HM.out _).mono ?_; rintro e v1 ⟨rfl, hb1⟩) | (refine wpList_store_fresh rfl 156 _ _ rfl _ _ _ (bitsA _) rfl rfl rfl (by rw [bitsA_size]; kernel_rfl) (info_num _) (bitsA_one _) ?_))
    have BP := Lib.hid (Blk.new v1 156 (bitsA P))
    have E1 := Lib.hid (hb1.alloc hb1.size (.cells (bitsA P) 156))
    clear hb1
    generalize v1.heap.size = g at *
    generalize v1.alloc (.cells (bitsA P) 156) = v2 at *
    refine wp_region_any (by kernel_rfl) ?_; change wpAny _ _ _ _ _ _ _ (World.drew v2); refine any_of_anyG (late := fun _ => false) (S := fun wS => Below v2.heap.size v2 wS) _ _ _ _ ?_
    have S0 := (Below.refl v2.heap.size v2).drew
    refine anyG_takes (is := [0, 1]) (vs := [_, _]) (m := 4) (listed2 := #[true, true, false, false, false, false]) (a2 := ⟨#[_, _, _, _, _, _, _, _, _, _, _, _, _, _, _, _, _, _, _, _], _⟩) (by kernel_rfl) (fun j hj => by simp at hj) (by kernel_rfl) (fun _ _ _ _ _ h => h) (Ys.cons rfl (Or.inl ⟨by rfl, fun W1 hW1 => exec_load (ty := 156) (x := .tmp 5) rfl rfl (run_loadAt_blk _ _ _ _ _ _ (BP.out.call hW1) Try.underlying156 rfl (by first | exact info_num _ | kernel_rfl))⟩) (Ys.cons rfl (Or.inl ⟨by rfl, fun W1 hW1 => by first | rfl | (go_simp; done) | (go_simp; with_reducible rfl)⟩) (Ys.nil))) (S0) (by rfl) (by rfl) ?_
    refine anyG_one (k := 2) (by kernel_rfl) rfl (by rfl) (fun Q2 hQ2 => ?_); go_wp2_with (go_at_call 116; refine (HTot.out _ (slice_keep HS.out (E1.out.trans (S0.mono E1.out.size)))).mono ?_; rintro e v3 ⟨rfl, hb3⟩); refine hQ2 _ _ (fun _ => S0.trans (hb3.mono S0.size)) ?_; clear hQ2 Q2
    have S3 := S0.trans (hb3.mono S0.size)
    refine anyG_one (k := 3) (by kernel_rfl) rfl (by rfl) (fun Q2 hQ2 => ?_); go_wp2_with (go_at_call 115; refine (HC.out _).mono ?_; rintro e v4 ⟨rfl, hb4⟩); refine hQ2 _ _ (fun _ => S3.trans (hb4.mono S3.size)) ?_; clear hQ2 Q2
    have S4 := S3.trans (hb4.mono S3.size)
    refine anyG_one (k := 4) (by kernel_rfl) rfl (by rfl) (fun Q2 hQ2 => ?_); go_wp2_with fail; refine hQ2 _ _ (fun _ => S4) ?_; clear hQ2 Q2
    refine anyG_takes (is := [5]) (vs := [_]) (m := 0) (listed2 := #[true, true, true, true, true, true]) (a2 := ⟨#[_, _, _, _, _, _, _, _, _, _, _, _, _, _, _, _, _, _, _, _], _⟩) (by kernel_rfl) (fun j hj => by simp at hj) (by kernel_rfl) (fun _ _ _ _ _ h => h) (Ys.cons rfl (Or.inl ⟨by rfl, fun W1 hW1 => by first | rfl | (go_simp; done) | (go_simp; with_reducible rfl)⟩) (Ys.nil)) (S4) (by rfl) (by rfl) ?_
    refine anyG_done (by kernel_rfl) ?_ _
    go_wp2
    go_ret
    exact ⟨ret_bool HR.out, E1.out.trans (S4.mono E1.out.size)⟩
theorem mean_least {l : List Int} (hg : ∀ x ∈ l, I64 x) (h0 : ∀ x ∈ l, 0 ≤ x) (M : Nat) : decide (totq l ≤ M * l.length) = decide (meanq l ≤ (M : Int)) ∧ 0 ≤ meanq l ∧ meanq l ≤ 9223372036854775807 := by
  by_cases hl : l.length = 0
  · have e : l = [] := List.eq_nil_of_length_eq_zero hl
    subst e
    simp [totq, meanq]
  · obtain ⟨h1, h2⟩ := mean_plain hg (by omega)
    have h3 := (upq_spec (n := totq l) (d := l.length) (q := upq (totq l) l.length) (by omega)).2 rfl
    rw [h1]
    refine ⟨?_, by omega, by omega⟩
    rw [Bool.eq_iff_iff]
    simp only [decide_eq_true_eq]
    constructor
    · intro h
      have := upq_le (by omega) h
      omega
    · intro h
      have := Nat.mul_le_mul_right l.length (show upq (totq l) l.length ≤ M by omega)
      omega
theorem ref16_atLeast (A : Option Addr) (len cap : Nat) (l : List Int) (m : Int) (w : World) (hs : IntsAre w A len cap l) (hg : ∀ x ∈ l, I64 x) (hg0 : ∀ x ∈ l, 0 ≤ x) (hn : len ≤ 1000) (h0 : 0 ≤ m) (h1 : m ≤ 9223372036854775807) :
    Calls Try.prog 92 #[.slice A len cap, .int .i64 m] w fun e w' => e = .returned (.bool (decide (meanq l ≤ m))) ∧ Below w.heap.size w w' := by
  obtain ⟨M, rfl⟩ := Int.eq_ofNat_of_zero_le h0
  have := ref16_atLeastN A len cap l M w hs hg hn (by omega)
  rw [← hs.1, (mean_least hg hg0 M).1] at this
  rw [← hs.1]
  exact this
theorem ref16_Mean (A : Option Addr) (len cap : Nat) (l : List Smp) (w : World) (hs : SmpsAre w A len cap l) (hg : ∀ x ∈ l, x.good) (hn : len ≤ 200) :
    Calls Try.prog 54 #[.slice A len cap] w fun e w' => e = .returned (.int .i64 (meanq (valq l))) ∧ Below w.heap.size w w' := by
  have HS := Lib.hid hs
  have HL := Lib.hid hs.1
  have HG := Lib.hid (fun x hx => (show I64 x by have := valq_bd hg x hx; unfold I64; omega) : ∀ x ∈ valq l, I64 x)
  have HG0 := Lib.hid (fun x hx => (valq_bd hg x hx).1 : ∀ x ∈ valq l, 0 ≤ x)
  obtain ⟨-, m0, m1⟩ := mean_least HG.out HG0.out 0
  clear hs hg
  go_enter Try.func54, Try.ntmps54
  go_wp2_with fail
  refine (ref09_Values A len cap l _ HS.out (by omega)).mono ?_
  rintro e w1 ⟨v, rfl, ho, hb1⟩
  obtain ⟨A', n', c', rfl, hn', hsl⟩ := ho.shape (fun _ => rfl)
  have hn2 : n' ≤ 200 := by rw [hn', valq_len]; have := HL.out; omega
  have SL := Lib.hid hsl
  have HB := Lib.hid hb1
  clear hn' ho hsl hb1
  have HAt := Lib.hid (fun W m hW h0 h1 => ref16_atLeast A' n' c' (valq l) m W hW HG.out HG0.out (by omega) h0 h1)
  generalize hMN : meanq (valq l) = MN at *
  have HMN := Lib.hid hMN
  clear hMN
  go_wp2
  go_loopw [4, 5] (fun lo hi wr => ∃ a b : Int, lo = .int .i64 a ∧ hi = .int .i64 b ∧ 0 ≤ a ∧ a ≤ MN ∧ MN ≤ b ∧ b ≤ 9223372036854775807 ∧ Below w1.heap.size w1 wr) (fun lo hi _ => (intOf hi - intOf lo).toNat)
  case atStart => exact ⟨0, 9223372036854775807, rfl, rfl, by omega, m0, m1, by omega, Below.refl _ _⟩
  case round =>
    obtain ⟨a, b, rfl, rfl, ha, h1, h2, h3, hbel⟩ := hrel
    by_cases hlt : a < b
    · have q1 : a ≤ a + (b - a) / 2 ∧ a + (b - a) / 2 < b := by omega
      obtain ⟨q2, q3⟩ := q1
      have HBl := Lib.hid hbel
      go_wp2_with fail
      refine (HAt.out _ _ (slice_keep SL.out HBl.out) (by omega) (by omega)).mono ?_
      rintro e w2 ⟨rfl, hb2⟩
      have E2 := Lib.hid (HBl.out.trans (hb2.mono HBl.out.size))
      clear hb2 hbel
      by_cases c : MN ≤ a + (b - a) / 2
      · go_wp2
        go_roundw
        case rel => exact ⟨_, _, rfl, rfl, ha, h1, c, by omega, E2.out⟩
        case measure => simp [intOf]; omega
      · go_wp2
        go_roundw
        case rel => exact ⟨_, _, rfl, rfl, by omega, by omega, h2, by omega, E2.out⟩
        case measure => simp [intOf]; omega
    · go_wp2
      go_ret
      exact ⟨ret_int (by rw [HMN.out]; omega), HB.out.trans (hbel.mono HB.out.size)⟩
end Go.Proofs.Ytfeccjjheiillaa
