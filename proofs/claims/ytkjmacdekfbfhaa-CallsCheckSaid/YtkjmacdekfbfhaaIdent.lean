/- Package ident and its reference: a letter's code, and what an id is: the walks. -/
import Derived.Test.YtkjmacdekfbfhaaIdentP
import Derived.Test.YtkjmacdekfbfhaaBlk
import Derived.Laws.RangeAny
namespace Go.Proofs.Ytkjmacdekfbfhaa
open Go.RowKit
set_option linter.unusedSimpArgs false
set_option linter.unusedVariables false
set_option maxHeartbeats 1000000
set_option maxRecDepth 100000

def codeq (c : Int) : Int := if c = 45 then 1 else if c = 46 then 2 else if 48 ≤ c ∧ c ≤ 57 then c - 45 else if c = 95 then 13 else if 97 ≤ c ∧ c ≤ 122 then c - 83 else 0
theorem codeq_bd (c : Int) : 0 ≤ codeq c ∧ codeq c ≤ 39 := by unfold codeq; (repeat' split) <;> omega
theorem codeq_high {c : Int} (h : 128 ≤ c) : codeq c = 0 := by unfold codeq; (repeat' split) <;> omega
theorem ident_code (c : Int) (w : World) (h1 : -2147483648 ≤ c) (h2 : c ≤ 2147483647) :
    Calls Try.prog 106 #[.int .i32 c] w fun e w' => e = .returned (.int .u64 (codeq c)) ∧ w = w' := by
  by_cases a : c = 45
  · subst a
    go_enter Try.func106, Try.ntmps106
    go_wp2
    go_ret
    exact ⟨rfl, rfl⟩
  by_cases b : c = 46
  · subst b
    go_enter Try.func106, Try.ntmps106
    go_wp2
    go_ret
    exact ⟨rfl, rfl⟩
  have da : (c == 45) = false := by simpa using a
  have db : (c == 46) = false := by simpa using b
  by_cases d : 48 ≤ c ∧ c ≤ 57
  · have HE := Lib.hid (show codeq c = c - 45 from by unfold codeq; rw [if_neg a, if_neg b, if_pos d])
    obtain ⟨d1, d2⟩ := d
    have e1 : decide (48 ≤ c) = true := by simpa using d1
    have e2 : decide (c ≤ 57) = true := by simpa using d2
    clear a b
    go_enter Try.func106, Try.ntmps106
    go_wp2
    go_ret
    exact ⟨ret_int (by rw [HE.out]; omega), rfl⟩
  have hd : decide (48 ≤ c) = false ∨ (decide (48 ≤ c) = true ∧ decide (c ≤ 57) = false) := by
    by_cases h : 48 ≤ c
    · exact .inr ⟨by simpa using h, by simp; omega⟩
    · exact .inl (by simpa using h)
  by_cases f : c = 95
  · subst f
    clear hd da db
    go_enter Try.func106, Try.ntmps106
    go_wp2
    go_ret
    exact ⟨rfl, rfl⟩
  have df : (c == 95) = false := by simpa using f
  by_cases g : 97 ≤ c ∧ c ≤ 122
  · have HE := Lib.hid (show codeq c = c - 83 from by unfold codeq; rw [if_neg a, if_neg b, if_neg d, if_neg f, if_pos g])
    obtain ⟨d1, d2⟩ := g
    have e1 : decide (97 ≤ c) = true := by simpa using d1
    have e2 : decide (c ≤ 122) = true := by simpa using d2
    clear a b d f
    rcases hd with hd | ⟨hd, hd'⟩
    all_goals
      go_enter Try.func106, Try.ntmps106
      go_wp2
      go_ret
      exact ⟨ret_int (by rw [HE.out]; omega), rfl⟩
  have hg : decide (97 ≤ c) = false ∨ (decide (97 ≤ c) = true ∧ decide (c ≤ 122) = false) := by
    by_cases h : 97 ≤ c
    · exact .inr ⟨by simpa using h, by simp; omega⟩
    · exact .inl (by simpa using h)
  have HE := Lib.hid (show codeq c = 0 from by unfold codeq; rw [if_neg a, if_neg b, if_neg d, if_neg f, if_neg g])
  clear a b d f g
  rcases hd with hd | ⟨hd, hd'⟩ <;> rcases hg with hg | ⟨hg, hg'⟩
  all_goals
    go_enter Try.func106, Try.ntmps106
    go_wp2
    go_ret
    exact ⟨ret_int HE.out.symm, rfl⟩
/-- The letters' codes of a text. -/
def codesI (s : ByteArray) : List Nat := s.data.toList.map fun b => (codeq (b.toNat : Int)).toNat
theorem codesI_len (s : ByteArray) : (codesI s).length = s.size := by simp [codesI]
theorem codesI_at {s : ByteArray} {k : Nat} (h : k < s.size) : (codesI s)[k]? = some (codeq ((s[k]'h).toNat : Int)).toNat := by
  unfold codesI
  rw [List.getElem?_map, List.getElem?_eq_getElem (by simpa using h)]
  rfl
theorem codesI_lt (s : ByteArray) : ∀ c ∈ codesI s, c < 64 := by
  intro c hc
  obtain ⟨b, _, rfl⟩ := List.mem_map.1 hc
  have := codeq_bd (b.toNat : Int)
  omega
/-- Whether a text is an id. -/
def idOk (s : ByteArray) : Bool := decide (1 ≤ s.size) && decide (s.size ≤ 20) && (codesI s).all fun c => c != 0
def idErr (s : ByteArray) : Int := if idOk s then 0 else 2
theorem idOk_no {s : ByteArray} (h : s.size < 1 ∨ 20 < s.size) : idOk s = false := by
  unfold idOk
  rcases h with h | h
  · have : decide (1 ≤ s.size) = false := decide_eq_false (by omega)
    rw [this]; rfl
  · have : decide (s.size ≤ 20) = false := by simpa using h
    rw [this]; simp
theorem idOk_bad {s : ByteArray} {k : Nat} (h : k < s.size) (hz : codeq ((s[k]'h).toNat : Int) = 0) : idOk s = false := by
  unfold idOk
  have : ((codesI s).all fun c => c != 0) = false := by
    rw [List.all_eq_false]
    exact ⟨_, List.mem_of_getElem? (codesI_at h), by rw [hz]; simp⟩
  rw [this]; simp
theorem idOk_yes {s : ByteArray} (h1 : 1 ≤ s.size) (h2 : s.size ≤ 20) (h : ∀ k (hk : k < s.size), codeq ((s[k]'hk).toNat : Int) ≠ 0) : idOk s = true := by
  unfold idOk
  have : ((codesI s).all fun c => c != 0) = true := by
    rw [List.all_eq_true]
    intro c hc
    obtain ⟨k, hk⟩ := List.getElem?_of_mem hc
    have hks : k < s.size := by have := (List.getElem?_eq_some_iff.1 hk).1; rw [codesI_len] at this; exact this
    rw [codesI_at hks] at hk
    injection hk with hk
    have := h k hks
    have := codeq_bd ((s[k]'hks).toNat : Int)
    simp; omega
  rw [this]; simp [h1, h2]
theorem idOk_at {s : ByteArray} (h : idOk s = true) : (1 ≤ s.size ∧ s.size ≤ 20) ∧ ∀ k (hk : k < s.size), codeq ((s[k]'hk).toNat : Int) ≠ 0 := by
  unfold idOk at h
  simp only [Bool.and_eq_true, decide_eq_true_eq, List.all_eq_true] at h
  refine ⟨h.1, fun k hk hz => ?_⟩
  have := h.2 _ (List.mem_of_getElem? (codesI_at hk))
  rw [hz] at this
  simp at this
theorem iter_below {w : World} (s : ByteArray) (k : Nat) : Below w.heap.size w (w.iter s k) := (Below.refl _ _).alloc (Nat.le_refl _) _
/-- The first k letters are letters of ids. -/
def LetT (s : ByteArray) (k : Nat) : Prop := ∀ j (hj : j < s.size), j < k → codeq ((s[j]'hj).toNat : Int) ≠ 0
theorem LetT.next {s : ByteArray} {k : Nat} (h : LetT s k) (hk : k < s.size) (hz : codeq ((s[k]'hk).toNat : Int) ≠ 0) : LetT s (k + 1) := by
  intro j hj hlt
  rcases Nat.lt_or_ge j k with h1 | h1
  · exact h j hj h1
  · obtain rfl : j = k := by omega
    exact hz
theorem ident_Check (s : ByteArray) (w : World) (hs : s.size ≤ maxLen) :
    Calls Try.prog 98 #[.string s] w fun e w' => e = .returned (.int .i64 (idErr s)) ∧ Below w.heap.size w w' := by
  unfold maxLen at hs
  by_cases hb : s.size < 1 ∨ 20 < s.size
  · have HE := Lib.hid (show idErr s = 2 from by unfold idErr; rw [idOk_no hb]; rfl)
    go_enter Try.func98, Try.ntmps98
    rcases hb with hb | hb
    · have d1 : decide ((s.size : Int) < 1) = true := by simp; omega
      go_wp2
      go_ret
      exact ⟨ret_int HE.out.symm, Below.refl _ _⟩
    · have d1 : decide ((s.size : Int) < 1) = false := by simp; omega
      have d2 : decide ((20 : Int) < (s.size : Int)) = true := by simp; omega
      go_wp2
      go_ret
      exact ⟨ret_int HE.out.symm, Below.refl _ _⟩
  · have h1 : 1 ≤ s.size := by omega
    have h2 : s.size ≤ 20 := by omega
    have d1 : decide ((s.size : Int) < 1) = false := by simp; omega
    have d2 : decide ((20 : Int) < (s.size : Int)) = false := by simp; omega
    clear hb
    go_enter Try.func98, Try.ntmps98
    go_wp2
    go_loopw [4] (fun c wr => ∃ k : Nat, k ≤ s.size ∧ wr = w.iter s k ∧ LetT s k) (fun _ wr => s.size - wr.iterPos w.heap.size)
    case atStart => exact ⟨0, Nat.zero_le _, rfl, fun j hj h => by omega⟩
    case round =>
      obtain ⟨k, hk, rfl, hlt⟩ := hrel
      have HL := Lib.hid hlt
      clear hlt
      by_cases hp : k < s.size
      · by_cases ha : (s[k]'hp).toNat < 128
        · have hnx : ∀ ty, (Instr.next (.pointer (some ⟨w.heap.size, 0, none⟩)) true ty).run Try.prog (w.iter s k) = _ := fun ty => run_next_ascii w s k ty hp ha
          by_cases hz : codeq ((s[k]'hp).toNat : Int) = 0
          · have HE := Lib.hid (show idErr s = 2 from by unfold idErr; rw [idOk_bad hp hz]; rfl)
            have dz : (codeq ((s[k]'hp).toNat : Int) == 0) = true := by simpa using hz
            clear hz
            go_wp2_with (go_at_call 106; refine (ident_code _ _ (by omega) (by omega)).mono ?_; rintro e w1 ⟨rfl, rfl⟩)
            go_ret
            exact ⟨ret_int HE.out.symm, iter_below _ _⟩
          · have HN := Lib.hid (HL.out.next hp hz)
            have dz : (codeq ((s[k]'hp).toNat : Int) == 0) = false := by simpa using hz
            clear hz
            go_wp2_with (go_at_call 106; refine (ident_code _ _ (by omega) (by omega)).mono ?_; rintro e w1 ⟨rfl, rfl⟩)
            go_roundw
            case rel => exact ⟨k + 1, by omega, rfl, HN.out⟩
            case measure => simp; omega
        · have hnx : ∀ ty, (Instr.next (.pointer (some ⟨w.heap.size, 0, none⟩)) true ty).run Try.prog (w.iter s k) = _ := fun ty => run_next_any w s k ty hp
          have hd := (decode_high s k hp (by omega)).1
          have hd2 := decode_le s k
          have HE := Lib.hid (show idErr s = 2 from by unfold idErr; rw [idOk_bad hp (codeq_high (by omega))]; rfl)
          have HZ := Lib.hid (codeq_high (c := ((Utf8.decode s k).1 : Int)) (by omega))
          generalize (Utf8.decode s k).1 = r at *
          go_wp2_with (go_at_call 106; refine (ident_code _ _ (by omega) (by omega)).mono ?_; rintro e w1 ⟨rfl, rfl⟩; rw [HZ.out])
          go_ret
          exact ⟨ret_int HE.out.symm, iter_below _ _⟩
      · have HE := Lib.hid (show idErr s = 0 from by unfold idErr; rw [idOk_yes h1 h2 (fun j hj => HL.out j hj (by omega))]; rfl)
        have hnx : ∀ ty, (Instr.next (.pointer (some ⟨w.heap.size, 0, none⟩)) true ty).run Try.prog (w.iter s k) = _ := fun ty => run_next_end w s k ty hp
        go_wp2
        go_ret
        exact ⟨ret_int HE.out.symm, iter_below _ _⟩
/-- The reference's letters, in order. -/
def letN : List Nat := [45, 46, 48, 49, 50, 51, 52, 53, 54, 55, 56, 57, 95, 97, 98, 99, 100, 101, 102, 103, 104, 105, 106, 107, 108, 109, 110, 111, 112, 113, 114, 115, 116, 117, 118, 119, 120, 121, 122]
def letS : ByteArray := ⟨#[45, 46, 48, 49, 50, 51, 52, 53, 54, 55, 56, 57, 95, 97, 98, 99, 100, 101, 102, 103, 104, 105, 106, 107, 108, 109, 110, 111, 112, 113, 114, 115, 116, 117, 118, 119, 120, 121, 122]⟩
theorem letS_at : ∀ k (h : k < letS.size), (letS[k]'h).toNat = letN.getD k 0 := by decide
theorem letN_code : ∀ k, k < 39 → codeq ((letN.getD k 0 : Nat) : Int) = (k : Int) + 1 := by decide
theorem code_letN : ∀ c : Nat, c < 256 → codeq (c : Int) ≠ 0 → (codeq (c : Int)).toNat - 1 < 39 ∧ letN.getD ((codeq (c : Int)).toNat - 1) 0 = c := by decide +kernel
theorem let_index (k : Nat) (h : k < 39) (W : World) : (Instr.index 9 (.string letS) (.int .i64 (k : Int))).run Try.prog W = .ok (.int .u8 ((letN.getD k 0 : Nat) : Int)) W := by
  have hk : k = 0 ∨ k = 1 ∨ k = 2 ∨ k = 3 ∨ k = 4 ∨ k = 5 ∨ k = 6 ∨ k = 7 ∨ k = 8 ∨ k = 9 ∨ k = 10 ∨ k = 11 ∨ k = 12 ∨ k = 13 ∨ k = 14 ∨ k = 15 ∨ k = 16 ∨ k = 17 ∨ k = 18 ∨ k = 19 ∨ k = 20 ∨ k = 21 ∨ k = 22 ∨ k = 23 ∨ k = 24 ∨ k = 25 ∨ k = 26 ∨ k = 27 ∨ k = 28 ∨ k = 29 ∨ k = 30 ∨ k = 31 ∨ k = 32 ∨ k = 33 ∨ k = 34 ∨ k = 35 ∨ k = 36 ∨ k = 37 ∨ k = 38 := by omega
  rcases hk with rfl | rfl | rfl | rfl | rfl | rfl | rfl | rfl | rfl | rfl | rfl | rfl | rfl | rfl | rfl | rfl | rfl | rfl | rfl | rfl | rfl | rfl | rfl | rfl | rfl | rfl | rfl | rfl | rfl | rfl | rfl | rfl | rfl | rfl | rfl | rfl | rfl | rfl | rfl
  all_goals (change _ = _; kernel_rfl)
theorem ref_place (c : Nat) (w : World) (h : c < 256) :
    Calls Try.prog 110 #[.int .u8 (c : Int)] w fun e w' => e = .returned (.int .u64 (codeq (c : Int))) ∧ w = w' := by
  have hls : letS.size = 39 := rfl
  go_enter Try.func110, Try.ntmps110
  go_wp2
  go_loop [3] (fun i => ∃ k : Nat, k ≤ 39 ∧ i = .int .i64 k ∧ ∀ j, j < k → letN.getD j 0 ≠ c) (fun i => 39 - (intOf i).toNat)
  case atStart => exact ⟨0, Nat.zero_le _, rfl, fun j hj => by omega⟩
  case round =>
    obtain ⟨k, hk, rfl, hn⟩ := hrel
    have HN := Lib.hid hn
    clear hn
    by_cases hlt : k < 39
    · have hki : (k : Int) < 39 := by omega
      have hix := fun (W : World) => let_index k hlt W
      have HC := Lib.hid (letN_code k hlt)
      generalize hL : letN.getD k 0 = L at *
      have HL := Lib.hid hL
      clear hL
      unfold letS at hix
      by_cases he : L = c
      · subst he
        have de : ((L : Int) == (L : Int)) = true := by simp
        go_wp2
        go_ret
        exact ⟨ret_int (by rw [HC.out]), rfl⟩
      · have de : ((L : Int) == (c : Int)) = false := by simp; omega
        go_wp2
        go_round
        case rel => exact ⟨k + 1, by omega, by go_num, fun j hj => by
          rcases Nat.lt_or_ge j k with h1 | h1
          · exact HN.out j h1
          · obtain rfl : j = k := by omega
            rw [HL.out]; exact he⟩
        case measure => simp [intOf]; omega
    · have HZ := Lib.hid (show codeq (c : Int) = 0 from Decidable.byContradiction fun hc => by
        have := code_letN c h hc
        exact HN.out _ (by omega) this.2)
      obtain rfl : k = 39 := by omega
      go_wp2
      go_ret
      exact ⟨ret_int HZ.out.symm, rfl⟩
theorem ref03_Id (s : ByteArray) (w : World) (hs : s.size ≤ maxLen) :
    Calls Try.prog 67 #[.string s] w fun e w' => e = .returned (.bool (idOk s)) ∧ w = w' := by
  unfold maxLen at hs
  by_cases hb : s.size < 1 ∨ 20 < s.size
  · have HE := Lib.hid (idOk_no hb)
    go_enter Try.func67, Try.ntmps67
    rcases hb with hb | hb
    · have d1 : decide ((s.size : Int) < 1) = true := by simp; omega
      go_wp2
      go_ret
      exact ⟨ret_bool HE.out.symm, rfl⟩
    · have d1 : decide ((s.size : Int) < 1) = false := by simp; omega
      have d2 : decide ((20 : Int) < (s.size : Int)) = true := by simp; omega
      go_wp2
      go_ret
      exact ⟨ret_bool HE.out.symm, rfl⟩
  · have h1 : 1 ≤ s.size := by omega
    have h2 : s.size ≤ 20 := by omega
    have d1 : decide ((s.size : Int) < 1) = false := by simp; omega
    have d2 : decide ((20 : Int) < (s.size : Int)) = false := by simp; omega
    clear hb
    go_enter Try.func67, Try.ntmps67
    go_wp2
    go_loop [3] (fun i => ∃ k : Nat, k ≤ s.size ∧ i = .int .i64 k ∧ LetT s k) (fun i => s.size - (intOf i).toNat)
    case atStart => exact ⟨0, Nat.zero_le _, rfl, fun j hj h => by omega⟩
    case round =>
      obtain ⟨k, hk, rfl, hlt⟩ := hrel
      have HL := Lib.hid hlt
      clear hlt
      by_cases hp : k < s.size
      · have hb8 : (s[k]'hp).toNat < 256 := (s[k]'hp).toNat_lt
        by_cases hz : codeq ((s[k]'hp).toNat : Int) = 0
        · have HE := Lib.hid (idOk_bad hp hz)
          have dz : (codeq ((s[k]'hp).toNat : Int) == 0) = true := by simpa using hz
          clear hz
          go_wp2_with (go_at_call 110; refine (ref_place _ _ hb8).mono ?_; rintro e w1 ⟨rfl, rfl⟩)
          go_ret
          exact ⟨ret_bool HE.out.symm, rfl⟩
        · have HN := Lib.hid (HL.out.next hp hz)
          have dz : (codeq ((s[k]'hp).toNat : Int) == 0) = false := by simpa using hz
          clear hz
          go_wp2_with (go_at_call 110; refine (ref_place _ _ hb8).mono ?_; rintro e w1 ⟨rfl, rfl⟩)
          go_round
          case rel => exact ⟨k + 1, by omega, by go_num, HN.out⟩
          case measure => simp [intOf]; omega
      · have HE := Lib.hid (idOk_yes h1 h2 (fun j hj => HL.out j hj (by omega)))
        go_wp2
        go_ret
        exact ⟨ret_bool HE.out.symm, rfl⟩
end Go.Proofs.Ytkjmacdekfbfhaa
