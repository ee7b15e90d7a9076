/- The law WideMeans: plain facts, and the walk. -/
import Derived.Test.YtlodmnohmlkjmaaW02
import Derived.Test.YtlodmnohmlkjmaaSame
namespace Go.Proofs.Ytlodmnohmlkjmaa
open Go.RowKit
set_option linter.unusedSimpArgs false
set_option linter.unusedVariables false
set_option maxHeartbeats 4000000
set_option maxRecDepth 100000
theorem slice_keep {α : Type} {w w' : World} {size : Nat} {cells : α → List Value} {A : Option Addr} {len cap : Nat} {l : List α} (h : SliceIs w size cells A len cap l) (hb : Below w.heap.size w w') : SliceIs w' size cells A len cap l := by
  refine ⟨h.1, h.2.1, h.2.2.1, h.2.2.2.1, fun a ha => ?_⟩
  obtain ⟨h1, h2⟩ := h.2.2.2.2 a ha
  refine ⟨fun i x hi j v hj => ?_, fun hl => ⟨Nat.lt_of_lt_of_le (h2 hl).1 hb.size, (h2 hl).2⟩⟩
  have hlt : a.block < w.heap.size := by
    refine (h2 ?_).1
    have := (List.getElem?_eq_some_iff.1 hi).1
    rw [← h.1]; omega
  have hbl : (a.add (i * size + j)).block = a.block := by unfold Addr.add; split <;> rfl
  exact (World.cell?_of_block (w := w) (hb.block _ (by rw [hbl]; exact hlt))).trans (h1 i x hi j v hj)
theorem tot_low (l : List Int) (a : Int) (h0 : 0 ≤ a) (h : ∀ x ∈ l, a ≤ x) : a.toNat * l.length ≤ totq l := by
  induction l with
  | nil => simp [totq]
  | cons x l ih =>
    have h1 := ih (fun y hy => h y (by simp [hy]))
    have h2 := h x (by simp)
    simp only [totq, List.map_cons, List.sum_cons, List.length_cons, Nat.mul_add, Nat.mul_one] at *
    omega
theorem tot_high (l : List Int) (b : Int) (h : ∀ x ∈ l, x ≤ b) : totq l ≤ b.toNat * l.length := by
  induction l with
  | nil => simp [totq]
  | cons x l ih =>
    have h1 := ih (fun y hy => h y (by simp [hy]))
    have h2 := h x (by simp)
    simp only [totq, List.map_cons, List.sum_cons, List.length_cons, Nat.mul_add, Nat.mul_one] at *
    omega
theorem upq_le {n d q : Nat} (hd : 0 < d) (h : n ≤ q * d) : upq n d ≤ q := by
  have h2 := (upq_spec (n := n) (d := d) (q := upq n d) hd).2 rfl
  rcases Nat.lt_or_ge q (upq n d) with hlt | hge
  · rcases h2.2 with h3 | h3
    · omega
    · have := Nat.mul_le_mul_right d (show q ≤ upq n d - 1 by omega)
      omega
  · exact hge
theorem le_upq {n d q : Nat} (hd : 0 < d) (h : q * d ≤ n) : q ≤ upq n d := by
  have h2 := ((upq_spec (n := n) (d := d) (q := upq n d) hd).2 rfl).1
  exact Nat.le_of_mul_le_mul_right (Nat.le_trans h h2) hd
theorem mean_plain {l : List Int} (hg : ∀ x ∈ l, I64 x) (hl : 0 < l.length) : meanq l = (upq (totq l) l.length : Nat) ∧ upq (totq l) l.length ≤ 9223372036854775807 := by
  have h1 := upq_le (q := 9223372036854775807) (d := l.length) hl (by have := totq_lt l hg; rw [Nat.mul_comm]; exact this)
  refine ⟨?_, h1⟩
  unfold meanq smallQ
  rw [if_neg (by omega), if_pos (by omega)]
/-- The mean is between bounds of the values, where none is below 0. -/
theorem mean_between {l : List Int} {a b : Int} (hg : ∀ x ∈ l, I64 x) (hl : 0 < l.length) (h : ∀ x ∈ l, a ≤ x ∧ x ≤ b) (ha : 0 ≤ a) : a ≤ meanq l ∧ meanq l ≤ b := by
  obtain ⟨h1, h2⟩ := mean_plain hg hl
  rw [h1]
  have h3 := le_upq (d := l.length) hl (tot_low l a ha (fun x hx => (h x hx).1))
  have h4 := upq_le (d := l.length) hl (tot_high l b (fun x hx => (h x hx).2))
  have hb : 0 ≤ b := by
    cases l with
    | nil => simp at hl
    | cons x r => have := h x (by simp); omega
  omega
theorem between_step {l : List Int} {k : Nat} {a c a' c' x : Int} (h : ∀ j y, l[j]? = some y → j < k → a ≤ y ∧ y ≤ c) (hx : l[k]? = some x) (h1 : a' ≤ a) (h2 : a' ≤ x) (h3 : c ≤ c') (h4 : x ≤ c') :
    ∀ j y, l[j]? = some y → j < k + 1 → a' ≤ y ∧ y ≤ c' := fun j y hy hj => by
  rcases Nat.lt_or_ge j k with hlt | hge
  · have := h j y hy hlt; omega
  · obtain rfl : j = k := by omega
    rw [hx] at hy; cases hy; exact ⟨h2, h4⟩
theorem between_all {l : List Int} {n : Nat} {a c : Int} (h : ∀ j y, l[j]? = some y → j < n → a ≤ y ∧ y ≤ c) (hn : l.length = n) : ∀ x ∈ l, a ≤ x ∧ x ≤ c := fun x hx => by
  obtain ⟨i, hi, rfl⟩ := List.getElem_of_mem hx
  exact h i _ (List.getElem?_eq_getElem hi) (by omega)
theorem walk_WideMeans (A : Option Addr) (len cap : Nat) (l : List Int) (w : World) (hs : IntsAre w A len cap l) (hg : ∀ x ∈ l, I64 x) :
    Calls Try.prog 6 #[.slice A len cap] w fun e w' => e = .returned (.bool true) ∧ Below w.heap.size w w' := by
  have hl := hs.1
  have hm := hs.2.1
  have hm2 := hs.2.2.1
  unfold maxLen at hm2
  have HS := Lib.hid hs
  have HG := Lib.hid hg
  by_cases hbig : 100 < len
  · clear hs hg hl
    go_enter Try.func6, Try.ntmps6
    go_wp2_with (first | (go_at_call 18; refine (awake02 _).mono ?_; rintro e v1 ⟨rfl, hb1⟩))
    go_ret
    exact ⟨rfl, hb1⟩
  have hlen : len ≤ 1000000 := by omega
  have hTb : totq l < 2 ^ 128 := by
    have := totq_lt l hg
    have := Nat.mul_le_mul_right 9223372036854775807 (show l.length ≤ 100 by omega)
    omega
  have HTb := Lib.hid hTb
  have HMean := Lib.hid (fun W h => wide_Mean A len cap l W h hg hlen)
  have HWT := Lib.hid (fun W h => wide_Total A len cap l W h hg hlen)
  have HRT := Lib.hid (fun W h => num_Total A len cap l W h hg hlen)
  have HIs := Lib.hid (fun W => law_is (totq l) W hTb)
  by_cases h0 : len = 0
  · subst h0
    have hme : meanq l = 0 := by unfold meanq; rw [if_pos (by omega)]
    rw [hme] at HMean
    clear hs hg hl hTb hme hbig
    generalize totq l = T at *
    go_enter Try.func6, Try.ntmps6
    go_wp2_with (first | (go_at_call 18; refine (awake02 _).mono ?_; rintro e v1 ⟨rfl, hb1⟩; have hs1 := Lib.hid (slice_keep HS.out hb1)) | (go_at_call 31; refine (HMean.out _ hs1.out).mono ?_; rintro e v2 ⟨rfl, hb2⟩; have hs2 := Lib.hid (slice_keep hs1.out hb2)) | (go_at_call 33; refine (HWT.out _ hs2.out).mono ?_; rintro e v3 ⟨rfl, hb3⟩; have hs3 := Lib.hid (slice_keep hs2.out hb3)) | (go_at_call 34; refine (HRT.out _ hs3.out).mono ?_; rintro e v4 ⟨rfl, hb4⟩; have hs4 := Lib.hid (slice_keep hs3.out hb4)) | (go_at_call 32; refine (HIs.out _).mono ?_; rintro e v5 ⟨rfl, hb5⟩; have hs5 := Lib.hid (slice_keep hs4.out hb5)))
    go_ret
    have e2 := hb1.trans (hb2.mono hb1.size)
    have e3 := e2.trans (hb3.mono e2.size)
    have e4 := e3.trans (hb4.mono e3.size)
    exact ⟨rfl, e4.trans (hb5.mono e4.size)⟩
  have hpl := mean_plain hg (by omega)
  obtain ⟨m, hm0⟩ : ∃ m, m = upq (totq l) len := ⟨_, rfl⟩
  rw [hl, ← hm0] at hpl
  rw [hpl.1] at HMean
  have HUp0 := upq_spec (n := totq l) (d := len) (q := m) (by omega)
  have hbet : ∀ a b : Int, (∀ x ∈ l, a ≤ x ∧ x ≤ b) → 0 ≤ a → a ≤ (m : Int) ∧ (m : Int) ≤ b := fun a b h ha => by
    have := mean_between hg (by omega) h ha
    rw [hpl.1] at this; exact this
  have HBet := Lib.hid hbet
  have hmb := hpl.2
  have HUp := Lib.hid (fun W => num_Up (totq l) len m W hTb (by omega) (by omega))
  rw [show upIs (totq l) len m = true from decide_eq_true (HUp0.2 hm0)] at HUp
  have d0 : ((len : Int) == 0) = false := by simp; omega
  have i0 : (0 : Int) < (len : Int) := by omega
  have i1 : 0 < len := by omega
  clear h0
  have HL := Lib.hid hl
  clear hs hg hpl hm0 HUp0 hTb hbet hl
  generalize totq l = T at *
  go_enter Try.func6, Try.ntmps6
  go_wp2_with (first | (go_at_call 18; refine (awake02 _).mono ?_; rintro e v1 ⟨rfl, hb1⟩; have hs1 := Lib.hid (slice_keep HS.out hb1)) | (go_at_call 31; refine (HMean.out _ hs1.out).mono ?_; rintro e v2 ⟨rfl, hb2⟩; have hs2 := Lib.hid (slice_keep hs1.out hb2)) | (go_at_call 33; refine (HWT.out _ hs2.out).mono ?_; rintro e v3 ⟨rfl, hb3⟩; have hs3 := Lib.hid (slice_keep hs2.out hb3)) | (go_at_call 34; refine (HRT.out _ hs3.out).mono ?_; rintro e v4 ⟨rfl, hb4⟩; have hs4 := Lib.hid (slice_keep hs3.out hb4)) | (go_at_call 32; refine (HIs.out _).mono ?_; rintro e v5 ⟨rfl, hb5⟩; have hs5 := Lib.hid (slice_keep hs4.out hb5)))
  have hB5 : Below w.heap.size w v5 := by
    have e2 := hb1.trans (hb2.mono hb1.size)
    have e3 := e2.trans (hb3.mono e2.size)
    have e4 := e3.trans (hb4.mono e3.size)
    exact e4.trans (hb5.mono e4.size)
  clear hs1 hs2 hs3 hs4 hb1 hb2 hb3 hb4 hb5
  obtain ⟨b, off, x0, rfl, hx0, hb, hc0⟩ := IntsAre.at_ hs5.out (show 0 < len by omega)
  clear hx0
  have hc0 : v5.cell? ⟨b, off, none⟩ = some (.int .i64 x0) := hc0
  refine wp_region_any (by kernel_rfl) ?_; change wpAny _ _ _ _ _ _ _ (World.drew v5); refine any_of_anyG (late := fun _ => false) (S := fun w1 => Below v5.heap.size v5 w1) _ _ _ _ ?_
  have S0 := (Below.refl v5.heap.size v5).drew
  refine anyG_take (i := 0) (v := _) rfl (by kernel_rfl) (by kernel_rfl) (by kernel_rfl) (by kernel_rfl) rfl (by kernel_rfl) (fun j hj => by first | (simp at hj; done) | (simp at hj; simp; omega)) (fun _ _ _ h => h) (Or.inl ⟨by rfl, fun W1 hW1 => by first | rfl | (go_simp; done) | (go_simp; with_reducible rfl)⟩) (S0) ?_
  refine anyG_take (i := 1) (v := _) rfl (by kernel_rfl) (by kernel_rfl) (by kernel_rfl) (by kernel_rfl) rfl (by kernel_rfl) (fun j hj => by first | (simp at hj; done) | (simp at hj; simp; omega)) (fun _ _ _ h => h) (Or.inl ⟨by rfl, fun W1 hW1 => by first | rfl | (go_simp; done) | (go_simp; with_reducible rfl)⟩) (S0) ?_
  refine anyG_take (i := 2) (v := .int .i64 x0) rfl (by kernel_rfl) (by kernel_rfl) (by kernel_rfl) (by kernel_rfl) rfl (by kernel_rfl) (fun j hj => by first | (simp at hj; done) | (simp at hj; simp; omega)) (fun _ _ _ h => h) (Or.inl ⟨by rfl, fun W1 hW1 => by have c := (hW1.cell (p := ⟨b, off, none⟩) hb).trans hc0; go_simp⟩) (S0) ?_
  refine anyG_take (i := 3) (v := _) rfl (by kernel_rfl) (by kernel_rfl) (by kernel_rfl) (by kernel_rfl) rfl (by kernel_rfl) (fun j hj => by first | (simp at hj; done) | (simp at hj; simp; omega)) (fun _ _ _ h => h) (Or.inl ⟨by rfl, fun W1 hW1 => by first | rfl | (go_simp; done) | (go_simp; with_reducible rfl)⟩) (S0) ?_
  refine anyG_take (i := 4) (v := _) rfl (by kernel_rfl) (by kernel_rfl) (by kernel_rfl) (by kernel_rfl) rfl (by kernel_rfl) (fun j hj => by first | (simp at hj; done) | (simp at hj; simp; omega)) (fun _ _ _ h => h) (Or.inl ⟨by rfl, fun W1 hW1 => by first | rfl | (go_simp; done) | (go_simp; with_reducible rfl)⟩) (S0) ?_
  refine anyG_take (i := 5) (v := .int .i64 x0) rfl (by kernel_rfl) (by kernel_rfl) (by kernel_rfl) (by kernel_rfl) rfl (by kernel_rfl) (fun j hj => by first | (simp at hj; done) | (simp at hj; simp; omega)) (fun _ _ _ h => h) (Or.inl ⟨by rfl, fun W1 hW1 => by have c := (hW1.cell (p := ⟨b, off, none⟩) hb).trans hc0; go_simp⟩) (S0) ?_
  refine anyG_one (k := 6) (by kernel_rfl) rfl (by rfl) (fun Q2 hQ2 => ?_); go_wp2_with fail; refine hQ2 _ _ (fun _ => S0) ?_; clear hQ2 Q2
  refine anyG_one (k := 7) (by kernel_rfl) rfl (by rfl) (fun Q2 hQ2 => ?_); go_wp2_with fail; refine hQ2 _ _ (fun _ => S0) ?_; clear hQ2 Q2
  refine anyG_done (by kernel_rfl) ?_ _
  have hB6 := hB5.trans (S0.mono hB5.size)
  have hs6 := Lib.hid (slice_keep hs5.out S0)
  have HB6 := Lib.hid hB6
  clear hB6 hB5 hc0
  obtain ⟨W6, hW6⟩ : ∃ W6, W6 = v5.drew := ⟨_, rfl⟩
  rw [← hW6] at HB6 hs6
  rw [← hW6]
  clear hW6 S0
  go_wp2
  go_loop [4, 5, 34] (fun lo hi i => ∃ (k : Nat) (a c : Int), k ≤ len ∧ i = .int .i64 k ∧ lo = .int .i64 a ∧ hi = .int .i64 c ∧ (∀ j x, l[j]? = some x → j < k → a ≤ x ∧ x ≤ c)) (fun _ _ i => len - (intOf i).toNat)
  case atStart => exact ⟨0, x0, x0, by omega, rfl, rfl, rfl, fun j x _ hj => by omega⟩
  case round =>
    obtain ⟨k, a, c, hk, rfl, rfl, rfl, hr⟩ := hrel
    have HR := Lib.hid hr
    clear hr
    by_cases hlt : k < len
    · obtain ⟨b2, off2, x, hab, hx, hb2, hc⟩ := IntsAre.at_ hs6.out hlt
      cases hab
      have HX := Lib.hid hx
      clear hx
      have hki : (k : Int) < (len : Int) := by omega
      by_cases h1 : a ≤ x <;> by_cases h2 : x ≤ c
      all_goals
        go_wp2
        go_round
        case rel => exact ⟨k + 1, _, _, by omega, by go_num, rfl, rfl, between_step HR.out HX.out (by omega) (by omega) (by omega) (by omega)⟩
        case measure => simp [intOf]; omega
    · obtain rfl : k = len := by omega
      by_cases ha : a < 0
      · go_wp2_with (first | (go_at_call 34; refine (HRT.out _ hs6.out).mono ?_; rintro e v7 ⟨rfl, hb7⟩) | (go_at_call 30; refine (HUp.out _).mono ?_; rintro e v8 ⟨rfl, hb8⟩))
        go_ret
        refine ⟨by first | rfl | simp, (HB6.out.trans (hb7.mono HB6.out.size)).trans (hb8.mono (HB6.out.trans (hb7.mono HB6.out.size)).size)⟩
      · obtain ⟨g1, g2⟩ := HBet.out a c (between_all HR.out HL.out) (by omega)
        have d1 : decide (a < 0) = false := by simpa using ha
        have d2 : decide (a ≤ (m : Int)) = true := by simpa using g1
        have d3 : decide ((m : Int) ≤ c) = true := by simpa using g2
        go_wp2_with (first | (go_at_call 34; refine (HRT.out _ hs6.out).mono ?_; rintro e v7 ⟨rfl, hb7⟩) | (go_at_call 30; refine (HUp.out _).mono ?_; rintro e v8 ⟨rfl, hb8⟩))
        go_ret
        refine ⟨by first | rfl | simp, (HB6.out.trans (hb7.mono HB6.out.size)).trans (hb8.mono (HB6.out.trans (hb7.mono HB6.out.size)).size)⟩
end Go.Proofs.Ytlodmnohmlkjmaa
