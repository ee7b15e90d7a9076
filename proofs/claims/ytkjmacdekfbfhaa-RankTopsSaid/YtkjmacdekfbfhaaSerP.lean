/- A series, plain: samples by rising ticks; one that is put, those below a tick trimmed. -/
import Derived.Test.YtkjmacdekfbfhaaSmp
namespace Go.Proofs.Ytkjmacdekfbfhaa
set_option linter.unusedVariables false
set_option linter.unusedSimpArgs false
def Srt (l : List Smp) : Prop := l.Pairwise (fun a b => a.tick < b.tick)
def lows (l : List Smp) (t : Int) : List Smp := l.filter (fun y => decide (y.tick < t))
def highs (l : List Smp) (t : Int) : List Smp := l.filter (fun y => decide (t < y.tick))
def froms (l : List Smp) (t : Int) : List Smp := l.filter (fun y => decide (t ≤ y.tick))
def placeq (l : List Smp) (t : Int) : Nat := (lows l t).length
def putL (l : List Smp) (x : Smp) : List Smp := lows l x.tick ++ x :: highs l x.tick
def putq (l : List Smp) (room : Nat) (x : Smp) : List Smp := if room < (putL l x).length then (putL l x).drop 1 else putL l x
def serErr (tick value : Int) : Int := if tick < 0 then 3 else if value < 0 then 4 else 0
def putv (l : List Smp) (room : Nat) (x : Smp) : List Smp := if serErr x.tick x.value = 0 then putq l room x else l
def serq (room : Nat) (l : List Smp) : List Smp := l.foldl (fun a x => putv a room x) []
theorem serErr_ok {t v : Int} (h1 : 0 ≤ t) (h2 : 0 ≤ v) : serErr t v = 0 := by unfold serErr; rw [if_neg (by omega), if_neg (by omega)]
theorem serErr_tick {t v : Int} (h1 : t < 0) : serErr t v = 3 := if_pos h1
theorem serErr_value {t v : Int} (h1 : 0 ≤ t) (h2 : v < 0) : serErr t v = 4 := by unfold serErr; rw [if_neg (by omega), if_pos (by omega)]
theorem serErr_zero {t v : Int} : serErr t v = 0 ↔ 0 ≤ t ∧ 0 ≤ v := by
  unfold serErr
  split
  · simp; omega
  · split <;> simp <;> omega
theorem srt_cons {y : Smp} {l : List Smp} (h : Srt (y :: l)) : (∀ z ∈ l, y.tick < z.tick) ∧ Srt l := List.pairwise_cons.1 h
theorem filter_none {α : Type} {p : α → Bool} {l : List α} (h : ∀ x ∈ l, p x = false) : l.filter p = [] := by
  rw [List.filter_eq_nil_iff]; intro a ha; rw [h a ha]; simp
theorem filter_all {α : Type} {p : α → Bool} {l : List α} (h : ∀ x ∈ l, p x = true) : l.filter p = l := List.filter_eq_self.2 h
theorem place_split {l : List Smp} (hs : Srt l) (t : Int) : l.take (placeq l t) = lows l t ∧ l.drop (placeq l t) = froms l t := by
  induction l with
  | nil => exact ⟨rfl, rfl⟩
  | cons y l ih =>
    obtain ⟨h1, h2⟩ := srt_cons hs
    by_cases hy : y.tick < t
    · have e1 : lows (y :: l) t = y :: lows l t := by unfold lows; rw [List.filter_cons_of_pos (by simpa using hy)]
      have e2 : froms (y :: l) t = froms l t := by unfold froms; rw [List.filter_cons_of_neg (by simpa using hy)]
      unfold placeq
      rw [e1, e2, List.length_cons, List.take_succ_cons, List.drop_succ_cons]
      exact ⟨by rw [show (lows l t).length = placeq l t from rfl, (ih h2).1], (ih h2).2⟩
    · have e1 : lows (y :: l) t = [] := filter_none (fun z hz => by
        simp only [List.mem_cons] at hz
        rcases hz with rfl | hz
        · simpa using hy
        · have := h1 z hz; simp; omega)
      have e2 : froms (y :: l) t = y :: l := filter_all (fun z hz => by
        simp only [List.mem_cons] at hz
        rcases hz with rfl | hz
        · simpa using hy
        · have := h1 z hz; simp; omega)
      unfold placeq
      rw [e1, e2]
      exact ⟨rfl, rfl⟩
theorem place_le (l : List Smp) (t : Int) : placeq l t ≤ l.length := List.length_filter_le _ _
theorem place_iff {l : List Smp} (hs : Srt l) (t : Int) {i : Nat} {y : Smp} (h : l[i]? = some y) : decide (t ≤ y.tick) = decide (placeq l t ≤ i) := by
  obtain ⟨h1, h2⟩ := place_split hs t
  rw [decide_eq_decide]
  rcases Nat.lt_or_ge i (placeq l t) with hlt | hge
  · have : (lows l t)[i]? = some y := by rw [← h1, List.getElem?_take, if_pos hlt]; exact h
    have hm := List.mem_of_getElem? this
    unfold lows at hm
    have := (List.mem_filter.1 hm).2
    simp at this
    omega
  · have : (froms l t)[i - placeq l t]? = some y := by rw [← h2, List.getElem?_drop, show placeq l t + (i - placeq l t) = i by omega]; exact h
    have hm := List.mem_of_getElem? this
    unfold froms at hm
    have := (List.mem_filter.1 hm).2
    simp at this
    omega
theorem froms_cons {l : List Smp} (hs : Srt l) (t : Int) : (∃ y, l[placeq l t]? = some y ∧ y.tick = t ∧ froms l t = y :: highs l t) ∨ ((∀ y, l[placeq l t]? = some y → y.tick ≠ t) ∧ froms l t = highs l t) := by
  obtain ⟨h1, h2⟩ := place_split hs t
  have hf : highs l t = highs (froms l t) t := by
    unfold highs froms
    rw [List.filter_filter]
    apply List.filter_congr
    intro x _
    rw [Bool.eq_iff_iff]; simp; omega
  have hsf : Srt (froms l t) := List.Pairwise.filter _ hs
  have hall : ∀ z ∈ froms l t, t ≤ z.tick := fun z hz => by
    have := (List.mem_filter.1 hz).2; simpa using this
  cases hc : froms l t with
  | nil => right; rw [hf, hc]; refine ⟨fun y hy => ?_, rfl⟩; have : (froms l t)[0]? = some y := by rw [← h2, List.getElem?_drop]; exact hy
           rw [hc] at this; simp at this
  | cons y r =>
    have e0 : l[placeq l t]? = some y := by
      have : (l.drop (placeq l t))[0]? = some y := by rw [h2, hc]; rfl
      rw [List.getElem?_drop] at this; exact this
    rw [hc] at hsf hall
    obtain ⟨k1, k2⟩ := srt_cons hsf
    by_cases hy : y.tick = t
    · left
      refine ⟨y, e0, hy, ?_⟩
      rw [hf, hc]
      unfold highs
      rw [List.filter_cons_of_neg (by simp; omega), filter_all (fun z hz => by have := k1 z hz; simp; omega)]
    · right
      refine ⟨fun z hz => by rw [e0] at hz; cases hz; exact hy, ?_⟩
      rw [hf, hc]
      unfold highs
      refine (filter_all (fun z hz => ?_)).symm
      have h0 := hall y (by simp)
      simp only [List.mem_cons] at hz
      rcases hz with rfl | hz
      · simp; omega
      · have := k1 z hz; simp; omega
/-- The two roads of Put. -/
theorem put_set {l : List Smp} (hs : Srt l) {x y : Smp} (h : l[placeq l x.tick]? = some y) (he : y.tick = x.tick) : l.set (placeq l x.tick) x = putL l x := by
  rcases froms_cons hs x.tick with ⟨z, hz, _, hf⟩ | ⟨hn, _⟩
  · obtain ⟨h1, h2⟩ := place_split hs x.tick
    have hlt : placeq l x.tick < l.length := (List.getElem?_eq_some_iff.1 h).1
    rw [List.set_eq_take_append_cons_drop, if_pos hlt, h1]
    unfold putL
    congr 2
    have : l.drop (placeq l x.tick + 1) = (l.drop (placeq l x.tick)).drop 1 := by rw [List.drop_drop]
    rw [this, h2, hf]; rfl
  · exact absurd he (hn y h)
theorem put_ins {l : List Smp} (hs : Srt l) {x : Smp} (h : ∀ y, l[placeq l x.tick]? = some y → y.tick ≠ x.tick) : l.take (placeq l x.tick) ++ x :: l.drop (placeq l x.tick) = putL l x := by
  obtain ⟨h1, h2⟩ := place_split hs x.tick
  rcases froms_cons hs x.tick with ⟨z, hz, he, _⟩ | ⟨_, hf⟩
  · exact absurd he (h z hz)
  · rw [h1, h2, hf]; rfl
theorem srt_putL {l : List Smp} (hs : Srt l) (x : Smp) : Srt (putL l x) := by
  unfold Srt putL
  rw [List.pairwise_append]
  refine ⟨List.Pairwise.filter _ hs, ?_, ?_⟩
  · rw [List.pairwise_cons]
    refine ⟨fun z hz => ?_, List.Pairwise.filter _ hs⟩
    have := (List.mem_filter.1 hz).2; simpa using this
  · intro a ha b hb
    have h1 := (List.mem_filter.1 ha).2
    simp only [List.mem_cons] at hb
    rcases hb with rfl | hb
    · simpa using h1
    · have h2 := (List.mem_filter.1 hb).2
      simp at h1 h2; omega
theorem srt_putq {l : List Smp} (hs : Srt l) (room : Nat) (x : Smp) : Srt (putq l room x) := by
  unfold putq
  split
  · exact List.Pairwise.drop (srt_putL hs x)
  · exact srt_putL hs x
theorem len_putL (l : List Smp) (x : Smp) : (putL l x).length ≤ l.length + 1 := by
  unfold putL lows highs
  rw [List.length_append, List.length_cons]
  have h : ∀ l : List Smp, (l.filter (fun y => decide (y.tick < x.tick))).length + (l.filter (fun y => decide (x.tick < y.tick))).length ≤ l.length := by
    intro l
    induction l with
    | nil => simp
    | cons y l ih =>
      simp only [List.filter_cons, List.length_cons]
      by_cases h1 : y.tick < x.tick
      · have h2 : ¬ x.tick < y.tick := by omega
        simp [h1, h2]; omega
      · by_cases h2 : x.tick < y.tick
        · simp [h1, h2]; omega
        · simp [h1, h2]; omega
  have := h l
  omega
theorem len_putq {l : List Smp} {room : Nat} (h : l.length ≤ room) (h1 : 1 ≤ room) (x : Smp) : (putq l room x).length ≤ room := by
  have := len_putL l x
  unfold putq
  split
  · rw [List.length_drop]; omega
  · omega
theorem good_putL {l : List Smp} (h : ∀ y ∈ l, y.good) {x : Smp} (hx : x.good) : ∀ y ∈ putL l x, y.good := by
  intro y hy
  unfold putL at hy
  rw [List.mem_append, List.mem_cons] at hy
  rcases hy with hy | rfl | hy
  · exact h y (List.mem_filter.1 hy).1
  · exact hx
  · exact h y (List.mem_filter.1 hy).1
theorem good_putq {l : List Smp} (h : ∀ y ∈ l, y.good) {x : Smp} (hx : x.good) (room : Nat) : ∀ y ∈ putq l room x, y.good := by
  intro y hy
  unfold putq at hy
  split at hy
  · exact good_putL h hx y (List.mem_of_mem_drop hy)
  · exact good_putL h hx y hy
theorem trim_drop {l : List Smp} (hs : Srt l) (t : Int) : l.drop (placeq l t) = froms l t := (place_split hs t).2
theorem srt_froms {l : List Smp} (hs : Srt l) (t : Int) : Srt (froms l t) := List.Pairwise.filter _ hs
theorem len_froms {l : List Smp} (hs : Srt l) (t : Int) : l.length - (froms l t).length = placeq l t ∧ (froms l t).length ≤ l.length := by
  rw [← trim_drop hs, List.length_drop]
  have := place_le l t
  omega
/-- The reference's Put, round by round. -/
def isIn (l : List Smp) (t : Int) (k : Nat) : Bool := (l.take k).any (fun y => decide (t ≤ y.tick))
def refOut (l : List Smp) (x : Smp) (k : Nat) : List Smp := lows (l.take k) x.tick ++ (if isIn l x.tick k then [x] else []) ++ highs (l.take k) x.tick
theorem srt_take {l : List Smp} (hs : Srt l) {k : Nat} {y : Smp} (h : l[k]? = some y) : ∀ z ∈ l.take k, z.tick < y.tick := by
  intro z hz
  have hlt := (List.getElem?_eq_some_iff.1 h).1
  have e : l = l.take k ++ y :: l.drop (k + 1) := by
    conv => lhs; rw [← List.take_append_drop k l]
    congr 1
    rw [List.drop_eq_getElem_cons hlt]
    congr 1
    exact (List.getElem?_eq_some_iff.1 h).2
  have h2 : Srt (l.take k ++ y :: l.drop (k + 1)) := by rw [← e]; exact hs
  exact (List.pairwise_append.1 h2).2.2 z hz y (by simp)
theorem take_snoc2 {α : Type} {l : List α} {k : Nat} {y : α} (h : l[k]? = some y) : l.take (k + 1) = l.take k ++ [y] := by
  rw [List.take_add_one, h]; rfl
theorem out_low {l : List Smp} (hs : Srt l) {k : Nat} {x y : Smp} (h : l[k]? = some y) (hy : y.tick < x.tick) : isIn l x.tick k = false ∧ isIn l x.tick (k + 1) = false ∧ refOut l x (k + 1) = refOut l x k ++ [y] := by
  have hz := srt_take hs h
  have e1 : isIn l x.tick k = false := by
    unfold isIn
    rw [List.any_eq_false]
    intro z hm
    have := hz z hm; simp; omega
  have e2 : isIn l x.tick (k + 1) = false := by
    have e3 := e1
    unfold isIn at e3 ⊢
    rw [take_snoc2 h, List.any_append, e3]; simp; omega
  refine ⟨e1, e2, ?_⟩
  have e4 : highs (l.take k) x.tick = [] := filter_none (fun z hm => by have := hz z hm; simp; omega)
  unfold refOut
  rw [e1, e2, e4, take_snoc2 h]
  have e5 : lows (l.take k ++ [y]) x.tick = lows (l.take k) x.tick ++ [y] := by unfold lows; rw [List.filter_append]; simp [hy]
  have e6 : highs (l.take k ++ [y]) x.tick = [] := by
    unfold highs at e4 ⊢
    rw [List.filter_append, e4]; simp; omega
  rw [e5, e6]; simp
theorem lows_low {l : List Smp} {t : Int} {k : Nat} {y : Smp} (h : l[k]? = some y) (hy : t ≤ y.tick) : lows (l.take (k + 1)) t = lows (l.take k) t := by
  rw [take_snoc2 h]; unfold lows; rw [List.filter_append]; simp; omega
theorem in_next {l : List Smp} {t : Int} {k : Nat} {y : Smp} (h : l[k]? = some y) (hy : t ≤ y.tick) : isIn l t (k + 1) = true := by
  unfold isIn; rw [take_snoc2 h, List.any_append]; simp; exact .inr hy
theorem highs_none {l : List Smp} {t : Int} {k : Nat} (h : isIn l t k = false) : highs (l.take k) t = [] := by
  unfold isIn at h
  rw [List.any_eq_false] at h
  exact filter_none (fun z hm => by have := h z hm; simp at this; simp; omega)
theorem out_same {l : List Smp} {k : Nat} {x y : Smp} (h : l[k]? = some y) (hy : y.tick = x.tick) (hi : isIn l x.tick k = false) : refOut l x (k + 1) = refOut l x k ++ [x] := by
  unfold refOut
  rw [lows_low h (by omega), in_next h (by omega), hi, highs_none hi, take_snoc2 h]
  have : highs (l.take k ++ [y]) x.tick = [] := by
    have := highs_none hi
    unfold highs at this ⊢
    rw [List.filter_append, this]; simp; omega
  rw [this]; simp
theorem out_over {l : List Smp} {k : Nat} {x y : Smp} (h : l[k]? = some y) (hy : x.tick < y.tick) (hi : isIn l x.tick k = false) : refOut l x (k + 1) = refOut l x k ++ [x] ++ [y] := by
  unfold refOut
  rw [lows_low h (by omega), in_next h (by omega), hi, highs_none hi, take_snoc2 h]
  have : highs (l.take k ++ [y]) x.tick = [y] := by
    have := highs_none hi
    unfold highs at this ⊢
    rw [List.filter_append, this]; simp; omega
  rw [this]; simp
theorem out_more {l : List Smp} (hs : Srt l) {k : Nat} {x y : Smp} (h : l[k]? = some y) (hi : isIn l x.tick k = true) : x.tick < y.tick ∧ isIn l x.tick (k + 1) = true ∧ refOut l x (k + 1) = refOut l x k ++ [y] := by
  have hy : x.tick < y.tick := by
    unfold isIn at hi
    rw [List.any_eq_true] at hi
    obtain ⟨z, hz, hd⟩ := hi
    have := srt_take hs h z hz
    simp at hd; omega
  refine ⟨hy, in_next h (by omega), ?_⟩
  unfold refOut
  rw [lows_low h (by omega), in_next h (by omega), hi, take_snoc2 h]
  have : highs (l.take k ++ [y]) x.tick = highs (l.take k) x.tick ++ [y] := by
    unfold highs
    rw [List.filter_append]; simp [hy]
  rw [this]; simp
theorem out_end_in {l : List Smp} {x : Smp} (hi : isIn l x.tick l.length = true) : refOut l x l.length = putL l x := by
  unfold refOut putL; rw [hi, List.take_length]; simp
theorem out_end_no {l : List Smp} {x : Smp} (hi : isIn l x.tick l.length = false) : refOut l x l.length ++ [x] = putL l x := by
  have h2 := highs_none hi
  unfold refOut putL; rw [hi, h2]
  rw [List.take_length] at h2 ⊢
  rw [h2]; simp
theorem out_zero (l : List Smp) (x : Smp) : refOut l x 0 = [] ∧ isIn l x.tick 0 = false := by simp [refOut, isIn, lows, highs]
theorem out_len (l : List Smp) (x : Smp) (k : Nat) : (refOut l x k).length ≤ l.length + 1 := by
  have h0 : (putL (l.take k) x).length ≤ (l.take k).length + 1 := len_putL _ _
  have h1 : (l.take k).length ≤ l.length := List.length_take_le' _ _
  have h2 : (refOut l x k).length ≤ (putL (l.take k) x).length := by
    unfold refOut putL
    split <;> simp
  omega
end Go.Proofs.Ytkjmacdekfbfhaa
