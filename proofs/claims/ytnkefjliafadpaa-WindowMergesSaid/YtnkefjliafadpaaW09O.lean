/- The law WindowOrder: the walk. -/
import Derived.Test.YtnkefjliafadpaaW09
namespace Go.Proofs.Ytnkefjliafadpaa
open Go.RowKit
set_option linter.unusedSimpArgs false
set_option linter.unusedVariables false
set_option maxHeartbeats 4000000
set_option maxRecDepth 100000
theorem Own.is {α : Type} {w : World} {base e size : Nat} {cells : α → List Value} {A : Option Addr} {n c : Nat} {l : List α} (h : Own w base e size cells (.slice A n c) l) (hsz : ∀ x, (cells x).length = size) : SliceIs w size cells A n c l := by
  obtain ⟨A', c', h1, h2⟩ := h.slice hsz
  injection h1 with h3 h4 h5
  subst h3 h4 h5
  exact h2
theorem walk_WindowOrder (A : Option Addr) (len cap : Nat) (l : List Smp) (B : Option Addr) (len2 cap2 : Nat) (m : List Smp) (w : World) (hs : SmpsAre w A len cap l) (hg : ∀ x ∈ l, x.good) (hs2 : SmpsAre w B len2 cap2 m) (hg2 : ∀ x ∈ m, x.good) :
    Calls Try.prog 4 #[.slice A len cap, .slice B len2 cap2] w fun e w' => e = .returned (.bool true) ∧ Below w.heap.size w w' := by
  have HS := Lib.hid hs
  have HS2 := Lib.hid hs2
  have HL := Lib.hid hs.1
  have HL2 := Lib.hid hs2.1
  have hle : len ≤ cap := hs.2.1
  have hm : cap ≤ 9223372036854775807 := by have := hs.2.2.1; unfold maxLen at this; omega
  have hle2 : len2 ≤ cap2 := hs2.2.1
  have hm2 : cap2 ≤ 9223372036854775807 := by have := hs2.2.2.1; unfold maxLen at this; omega
  have HG := Lib.hid (fun x hx => (List.mem_append.1 hx).elim (hg x) (hg2 x) : ∀ x ∈ l ++ m, x.good)
  have HG2 := Lib.hid (fun x hx => (List.mem_append.1 hx).elim (hg2 x) (hg x) : ∀ x ∈ m ++ l, x.good)
  obtain ⟨q1, q2⟩ := eq_stat (statq (l ++ m)).count (statq (l ++ m)).sum (statq (l ++ m)).least (statq (l ++ m)).most (statq (l ++ m)).mean (statq (l ++ m)).count (statq (l ++ m)).sum (statq (l ++ m)).least (statq (l ++ m)).most (statq (l ++ m)).mean true (by simp)
  have HE := Lib.hid (statq_perm (List.perm_append_comm (l₁ := m) (l₂ := l)))
  clear hs hs2 hg hg2
  go_enter Try.func4, Try.ntmps4
  go_wp2_with fail
  refine (awake09 _).mono ?_
  rintro e v1 ⟨rfl, hb1⟩
  have E1 := Lib.hid hb1
  clear hb1
  by_cases hl : 60 < len
  · go_wp2
    go_ret
    exact ⟨rfl, E1.out⟩
  by_cases hl2 : 60 < len2
  · go_wp2
    go_ret
    exact ⟨rfl, E1.out⟩
  · go_wp2_with (first
      | (at_builtin; refine cat_smp _ rfl _ _ rfl v1.heap.size (.slice none 0 0) [] rfl (Own.nil _ _ _ _ _) A len cap l rfl (slice_keep HS.out E1.out) (by simp; omega) (Nat.le_refl _) ?_; intro x1 w1 ho1 hb1 hg1; clear hg1; obtain ⟨A1, n1, c1, rfl, hn1, hsl1⟩ := ho1.shape (fun _ => rfl); have F1 := Lib.hid (E1.out.trans (hb1.mono E1.out.size)); have O1 := Lib.hid ho1; have Z1 := hb1.size; have Y1 : n1 ≤ 60 := (by rw [hn1]; have := HL.out; simp; omega); clear hsl1 hn1 hb1 ho1)
      | (at_builtin; refine cat_smp _ rfl _ _ rfl v1.heap.size (.slice A1 n1 c1) _ rfl O1.out B len2 cap2 m rfl (slice_keep HS2.out F1.out) (by simp; have := HL.out; omega) Z1 ?_; intro x2 w2 ho2 hb2 hg2; clear hg2; obtain ⟨A2, n2, c2, rfl, hn2, hsl2⟩ := ho2.shape (fun _ => rfl); have F2 := Lib.hid (F1.out.trans (hb2.mono E1.out.size)); have O2 := Lib.hid ho2; have Z2 := hb2.size; have Y2 : n2 ≤ 120 := (by rw [hn2]; have := HL.out; have := HL2.out; simp; omega); clear hsl2 hn2 hb2 ho2)
      | (at_builtin; refine cat_smp _ rfl _ _ rfl w2.heap.size (.slice none 0 0) [] rfl (Own.nil _ _ _ _ _) B len2 cap2 m rfl (slice_keep HS2.out F2.out) (by simp; omega) (Nat.le_refl _) ?_; intro x3 w3 ho3 hb3 hg3; clear hg3; obtain ⟨A3, n3, c3, rfl, hn3, hsl3⟩ := ho3.shape (fun _ => rfl); have F3 := Lib.hid (F2.out.trans (hb3.mono F2.out.size)); have O3 := Lib.hid ho3; have O23 := Lib.hid (O2.out.call hb3); have Z3 := hb3.size; have B3 := Lib.hid hb3; clear hsl3 hn3 hb3 ho3)
      | (at_builtin; refine cat_smp _ rfl _ _ rfl w2.heap.size (.slice A3 n3 c3) _ rfl O3.out A len cap l rfl (slice_keep HS.out F3.out) (by simp; have := HL2.out; omega) Z3 ?_; intro x4 w4 ho4 hb4 hg4; clear hg4; obtain ⟨A4, n4, c4, rfl, hn4, hsl4⟩ := ho4.shape (fun _ => rfl); have F4 := Lib.hid (F3.out.trans (hb4.mono F2.out.size)); have O4 := Lib.hid ho4; have O24 := Lib.hid (O2.out.call (B3.out.trans hb4)); have Y4 : n4 ≤ 120 := (by rw [hn4]; have := HL.out; have := HL2.out; simp; omega); clear hsl4 hn4 hb4 ho4))
    have S2 := Lib.hid (show SmpsAre w4 A2 n2 c2 (l ++ m) from O24.out.is (fun _ => rfl))
    have S4 := Lib.hid (show SmpsAre w4 A4 n4 c4 (m ++ l) from O4.out.is (fun _ => rfl))
    clear O1 O2 O3 O23 O4 O24
    refine (window_Of A2 n2 c2 (l ++ m) _ S2.out HG.out (by omega)).mono ?_
    rintro e w5 ⟨rfl, hb5⟩
    have F5 := Lib.hid (F4.out.trans (hb5.mono F4.out.size))
    have S4' := Lib.hid (slice_keep S4.out hb5)
    clear hb5
    go_wp2_with fail
    refine (window_Of A4 n4 c4 (m ++ l) _ S4'.out HG2.out (by omega)).mono ?_
    rw [HE.out]
    rintro e w6 ⟨rfl, hb6⟩
    go_wp2
    go_ret
    exact ⟨rfl, F5.out.trans (hb6.mono F5.out.size)⟩
end Go.Proofs.Ytnkefjliafadpaa
