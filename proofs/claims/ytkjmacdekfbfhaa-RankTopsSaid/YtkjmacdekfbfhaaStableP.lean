/- Two runs merged, the first one's ahead where they are equal; insertion; rotation: plain facts, no program in sight. -/
import Derived.Test.YtkjmacdekfbfhaaBase
namespace Go.Proofs.Ytkjmacdekfbfhaa
set_option linter.unusedSimpArgs false
set_option linter.unusedVariables false

theorem snoc_ind {α : Type} {motive : List α → Prop} (nil : motive []) (snoc : ∀ l x, motive l → motive (l ++ [x])) (l : List α) : motive l := by
  have h : ∀ (n : Nat) (l : List α), l.length = n → motive l := by
    intro n
    induction n with
    | zero => intro l hl; rw [List.eq_nil_of_length_eq_zero hl]; exact nil
    | succ n ih =>
      intro l hl
      rcases List.eq_nil_or_concat l with rfl | ⟨m, x, rfl⟩
      · simp at hl
      · rw [List.concat_eq_append] at *
        exact snoc m x (ih m (by simpa using hl))
  exact h l.length l rfl
section
variable {α : Type} (le : α → α → Bool)
def mg : List α → List α → List α
  | [], Y => Y
  | X, [] => X
  | x :: X, y :: Y => if le x y then x :: mg X (y :: Y) else y :: mg (x :: X) Y
termination_by X Y => X.length + Y.length
theorem mg_nil (X : List α) : mg le X [] = X := by cases X <;> simp [mg]
theorem nil_mg (Y : List α) : mg le [] Y = Y := by simp [mg]
theorem mg_cons (x y : α) (X Y : List α) : mg le (x :: X) (y :: Y) = if le x y then x :: mg le X (y :: Y) else y :: mg le (x :: X) Y := by rw [mg]
theorem mg_len : ∀ (X Y : List α), (mg le X Y).length = X.length + Y.length
  | [], Y => by simp [nil_mg]
  | x :: X, [] => by simp [mg_nil]
  | x :: X, y :: Y => by
    rw [mg_cons]
    split
    · rw [List.length_cons, mg_len X (y :: Y)]; simp; omega
    · rw [List.length_cons, mg_len (x :: X) Y]; simp; omega
termination_by X Y => X.length + Y.length
theorem mg_mem {z : α} : ∀ (X Y : List α), z ∈ mg le X Y ↔ z ∈ X ∨ z ∈ Y
  | [], Y => by simp [nil_mg]
  | x :: X, [] => by simp [mg_nil]
  | x :: X, y :: Y => by
    rw [mg_cons]
    split
    · rw [List.mem_cons, mg_mem X (y :: Y)]; simp [or_assoc]
    · rw [List.mem_cons, mg_mem (x :: X) Y]; simp only [List.mem_cons]
      constructor
      · rintro (h | h | h)
        · exact .inr (.inl h)
        · exact .inl h
        · exact .inr (.inr h)
      · rintro (h | h | h)
        · exact .inr (.inl h)
        · exact .inl h
        · exact .inr (.inr h)
termination_by X Y => X.length + Y.length
/-- Both runs parted: what is merged of the heads stands ahead of what is merged of the tails. -/
theorem mg_split {X2 Y2 : List α} : ∀ (X1 Y1 : List α), (∀ x ∈ X2, ∀ y ∈ Y1, le x y = false) → (∀ x ∈ X1, ∀ y ∈ Y2, le x y = true) → mg le (X1 ++ X2) (Y1 ++ Y2) = mg le X1 Y1 ++ mg le X2 Y2
  | [], [], _, _ => by simp [nil_mg]
  | x :: X, [], h1, h2 => by
    rw [mg_nil, List.nil_append]
    cases Y2 with
    | nil => simp [mg_nil]
    | cons y Y =>
      rw [List.cons_append, mg_cons, if_pos (h2 x (by simp) y (by simp))]
      have := mg_split X [] (X2 := X2) (Y2 := y :: Y) (by simp) (fun a ha b hb => h2 a (by simp [ha]) b hb)
      rw [List.nil_append, mg_nil] at this
      rw [this]; rfl
  | [], y :: Y, h1, h2 => by
    rw [nil_mg, List.nil_append]
    cases X2 with
    | nil => simp [nil_mg]
    | cons x X =>
      rw [List.cons_append, mg_cons, if_neg (by rw [h1 x (by simp) y (by simp)]; simp)]
      have := mg_split [] Y (X2 := x :: X) (Y2 := Y2) (fun a ha b hb => h1 a ha b (by simp [hb])) (by simp)
      rw [List.nil_append, nil_mg] at this
      rw [this]; rfl
  | x :: X, y :: Y, h1, h2 => by
    rw [List.cons_append, List.cons_append, mg_cons, mg_cons]
    by_cases h : le x y = true
    · rw [if_pos h, if_pos h]
      have := mg_split X (y :: Y) (X2 := X2) (Y2 := Y2) h1 (fun a ha b hb => h2 a (by simp [ha]) b hb)
      rw [List.cons_append] at this
      rw [this]; rfl
    · rw [if_neg h, if_neg h]
      have := mg_split (x :: X) Y (X2 := X2) (Y2 := Y2) (fun a ha b hb => h1 a ha b (by simp [hb])) h2
      rw [List.cons_append] at this
      rw [this]; rfl
termination_by X1 Y1 => X1.length + Y1.length
theorem mg_one {x : α} {Y1 Y2 : List α} (h1 : ∀ y ∈ Y1, le x y = false) (h2 : ∀ y ∈ Y2, le x y = true) : mg le [x] (Y1 ++ Y2) = Y1 ++ x :: Y2 := by
  have h := mg_split le [] Y1 (X2 := [x]) (Y2 := Y2) (by simpa using h1) (by simp)
  rw [List.nil_append, nil_mg] at h
  rw [h]
  congr 1
  cases Y2 with
  | nil => simp [mg_nil]
  | cons y Y => rw [mg_cons, if_pos (h2 y (by simp)), nil_mg]
theorem mg_last {y : α} {X1 X2 : List α} (h1 : ∀ x ∈ X1, le x y = true) (h2 : ∀ x ∈ X2, le x y = false) : mg le (X1 ++ X2) [y] = X1 ++ y :: X2 := by
  have h := mg_split le X1 [] (X2 := X2) (Y2 := [y]) (by simp) (by simpa using h1)
  rw [List.nil_append, mg_nil] at h
  rw [h]
  congr 1
  cases X2 with
  | nil => simp [nil_mg]
  | cons x X => rw [mg_cons, if_neg (by rw [h2 x (by simp)]; simp), mg_nil]
/-- One more laid in, behind all that are no greater. -/
def insS (x : α) (S : List α) : List α := S.takeWhile (fun y => le y x) ++ x :: S.dropWhile (fun y => le y x)
def isrtS (l : List α) : List α := l.foldl (fun s x => insS le x s) []
theorem isrtS_snoc (l : List α) (x : α) : isrtS le (l ++ [x]) = insS le x (isrtS le l) := by simp [isrtS]
def SrtS (l : List α) : Prop := l.Pairwise (fun x y => le x y = true)
variable {le}
variable (tot : ∀ x y, le x y = true ∨ le y x = true) (tr : ∀ x y z, le x y = true → le y z = true → le x z = true)
include tot tr
omit tot tr in
theorem takeWhile_all {S : List α} (p : α → Bool) : ∀ y ∈ S.takeWhile p, p y = true := by
  intro y hy
  induction S with
  | nil => simp at hy
  | cons a S ih =>
    rw [List.takeWhile_cons] at hy
    split at hy
    · rcases List.mem_cons.1 hy with rfl | h
      · assumption
      · exact ih h
    · simp at hy
omit tot in
theorem drop_all {x : α} : ∀ {S : List α}, SrtS le S → ∀ y ∈ S.dropWhile (fun y => le y x), le y x = false
  | [], _, y, hy => by simp at hy
  | a :: S, h, y, hy => by
    obtain ⟨h1, h2⟩ := List.pairwise_cons.1 h
    rw [List.dropWhile_cons] at hy
    split at hy
    · exact drop_all h2 y hy
    · rename_i ha
      rcases List.mem_cons.1 hy with rfl | hm
      · simpa using ha
      · cases hyx : le y x
        · rfl
        · exact absurd (tr _ _ _ (h1 y hm) hyx) ha
theorem insS_srt {x : α} {S : List α} (h : SrtS le S) : SrtS le (insS le x S) := by
  unfold insS SrtS
  have e := List.takeWhile_append_dropWhile (p := fun y => le y x) (l := S)
  have h' : (S.takeWhile (fun y => le y x) ++ S.dropWhile (fun y => le y x)).Pairwise (fun x y => le x y = true) := by rw [e]; exact h
  obtain ⟨p1, p2, p3⟩ := List.pairwise_append.1 h'
  refine List.pairwise_append.2 ⟨p1, List.pairwise_cons.2 ⟨fun y hy => ?_, p2⟩, fun a ha b hb => ?_⟩
  · have := drop_all tr h y hy
    rcases tot x y with h0 | h0
    · exact h0
    · rw [this] at h0; cases h0
  · rcases List.mem_cons.1 hb with rfl | hb
    · exact takeWhile_all (fun y => le y b) a ha
    · exact p3 a ha b hb
theorem isrtS_srt (l : List α) : SrtS le (isrtS le l) := by
  induction l using snoc_ind with
  | nil => exact List.Pairwise.nil
  | snoc l x ih => rw [isrtS_snoc]; exact insS_srt tot tr ih
omit tot tr in
theorem insS_eq {x : α} {S1 S2 : List α} (h1 : ∀ y ∈ S1, le y x = true) (h2 : ∀ y ∈ S2, le y x = false) : insS le x (S1 ++ S2) = S1 ++ x :: S2 := by
  unfold insS
  have e1 : (S1 ++ S2).takeWhile (fun y => le y x) = S1 := by
    rw [List.takeWhile_append_of_pos h1]
    cases S2 with
    | nil => simp
    | cons a S => rw [List.takeWhile_cons, if_neg (by rw [h2 a (by simp)]; simp)]; simp
  have e2 : (S1 ++ S2).dropWhile (fun y => le y x) = S2 := by
    rw [List.dropWhile_append_of_pos h1]
    cases S2 with
    | nil => simp
    | cons a S => rw [List.dropWhile_cons, if_neg (by rw [h2 a (by simp)]; simp)]
  rw [e1, e2]
/-- Laid into the second run, or into what is merged of both: the same. -/
theorem mg_insS {x : α} {S T : List α} (hS : SrtS le S) (hT : SrtS le T) : mg le S (insS le x T) = insS le x (mg le S T) := by
  have eS := List.takeWhile_append_dropWhile (p := fun y => le y x) (l := S)
  have eT := List.takeWhile_append_dropWhile (p := fun y => le y x) (l := T)
  have s1 := takeWhile_all (S := S) (fun y => le y x)
  have s2 := drop_all tr (x := x) hS
  have t1 := takeWhile_all (S := T) (fun y => le y x)
  have t2 := drop_all tr (x := x) hT
  unfold insS
  generalize S.takeWhile (fun y => le y x) = S1 at *
  generalize S.dropWhile (fun y => le y x) = S2 at *
  generalize T.takeWhile (fun y => le y x) = T1 at *
  generalize T.dropWhile (fun y => le y x) = T2 at *
  subst eS; subst eT
  have c1 : ∀ a ∈ S2, ∀ b ∈ T1, le a b = false := fun a ha b hb => by
    cases h : le a b
    · rfl
    · have := tr _ _ _ h (t1 b hb); rw [s2 a ha] at this; cases this
  have c2 : ∀ a ∈ S1, ∀ b ∈ T2, le a b = true := fun a ha b hb => by
    rcases tot a b with h | h
    · exact h
    · have := tr _ _ _ h (s1 a ha); rw [t2 b hb] at this; cases this
  have c3 : ∀ a ∈ S1, ∀ b ∈ x :: T2, le a b = true := fun a ha b hb => by
    rcases List.mem_cons.1 hb with rfl | hb
    · exact s1 a ha
    · exact c2 a ha b hb
  rw [mg_split le S1 T1 c1 c3, mg_split le S1 T1 c1 c2]
  have e : mg le S2 (x :: T2) = x :: mg le S2 T2 := by
    cases S2 with
    | nil => rw [nil_mg, nil_mg]
    | cons a S2 => rw [mg_cons, if_neg (by rw [s2 a (by simp)]; simp)]
  rw [e]
  have := insS_eq (le := le) (x := x) (S1 := mg le S1 T1) (S2 := mg le S2 T2) (fun y hy => by
    rcases (mg_mem le _ _).1 hy with h | h
    · exact s1 y h
    · exact t1 y h) (fun y hy => by
    rcases (mg_mem le _ _).1 hy with h | h
    · exact s2 y h
    · exact t2 y h)
  unfold insS at this
  exact this.symm
theorem isrtS_append (X Y : List α) : isrtS le (X ++ Y) = mg le (isrtS le X) (isrtS le Y) := by
  induction Y using snoc_ind with
  | nil => rw [List.append_nil]; exact (mg_nil le _).symm
  | snoc Y y ih => rw [← List.append_assoc, isrtS_snoc, isrtS_snoc, mg_insS tot tr (isrtS_srt tot tr X) (isrtS_srt tot tr Y), ih]
end
theorem isrtS_len {α : Type} (le : α → α → Bool) (l : List α) : (isrtS le l).length = l.length := by
  induction l using snoc_ind with
  | nil => rfl
  | snoc l x ih =>
    rw [isrtS_snoc, insS, List.length_append, List.length_cons, ← Nat.add_assoc, ← List.length_append, List.takeWhile_append_dropWhile, ih]; simp
end Go.Proofs.Ytkjmacdekfbfhaa
