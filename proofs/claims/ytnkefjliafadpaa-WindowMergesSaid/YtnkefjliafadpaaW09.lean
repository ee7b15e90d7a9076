/- The laws of chapter 09: awake, WindowTells, WindowOrder. -/
import Derived.Test.YtnkefjliafadpaaWinR
namespace Go.Proofs.Ytnkefjliafadpaa
open Go.RowKit
set_option linter.unusedSimpArgs false
set_option linter.unusedVariables false
set_option maxHeartbeats 4000000
set_option maxRecDepth 100000
theorem eq_stat (a0 a1 a2 a3 a4 b0 b1 b2 b3 b4 : Int) (b : Bool) (hb : ([a0, a1, a2, a3, a4] == [b0, b1, b2, b3, b4]) = b) :
    (∀ (W : World) (op : BinOp) (o1 o2 : Operand), (eqGuard op 32 o1 o2 (.agg #[.int .i64 a0, .int .i64 a1, .int .i64 a2, .int .i64 a3, .int .i64 a4]) (.agg #[.int .i64 b0, .int .i64 b1, .int .i64 b2, .int .i64 b3, .int .i64 b4])).run Try.prog W = .ok () W) ∧
    (∀ W : World, (binOp .eql 32 (.agg #[.int .i64 a0, .int .i64 a1, .int .i64 a2, .int .i64 a3, .int .i64 a4]) (.agg #[.int .i64 b0, .int .i64 b1, .int .i64 b2, .int .i64 b3, .int .i64 b4])).run Try.prog W = .ok (.bool b) W) :=
  have h := eq_ints (t := 32) (by kernel_rfl) (by kernel_rfl) (by kernel_rfl) (by kernel_rfl) [.i64, .i64, .i64, .i64, .i64] [a0, a1, a2, a3, a4] [b0, b1, b2, b3, b4] (by kernel_rfl) (by kernel_rfl) (by kernel_rfl) _ _ rfl rfl b hb
  ⟨h.1, h.2.1⟩
theorem of_09 (w : World) (A : Option Addr) (hs : SmpsAre w A 2 2 [⟨1, 3⟩, ⟨2, 4⟩]) : Calls Try.prog 20 #[.slice A 2 2] w fun e w' => e = .returned (.agg #[.int .i64 2, .int .i64 7, .int .i64 3, .int .i64 4, .int .i64 4]) ∧ Below w.heap.size w w' :=
  (window_Of A 2 2 [⟨1, 3⟩, ⟨2, 4⟩] w hs (fun x hx => by simp at hx; rcases hx with rfl | rfl <;> (unfold Smp.good I64; simp)) (by omega)).mono fun _ _ h => by
    rw [show statq [⟨1, 3⟩, ⟨2, 4⟩] = ⟨2, 7, 3, 4, 4⟩ by decide +kernel] at h; exact h
theorem at_09 (w : World) : Calls Try.prog 21 #[.slice none 0 0, .int .i64 5, .int .i64 5] w fun e w' => e = .returned (.agg #[.int .i64 0, .int .i64 0, .int .i64 0, .int .i64 0, .int .i64 0]) ∧ Below w.heap.size w w' :=
  (window_At none 0 0 [] 5 5 w (slice_nil _ _ _) (fun x hx => by simp at hx) (by omega) (by unfold I64; omega) (by unfold I64; omega)).mono fun _ _ h => by
    rw [show statq (cutq [] (fromq 5 5) 5) = ⟨0, 0, 0, 0, 0⟩ by decide +kernel] at h; exact h
theorem from_09 (w : World) : Calls Try.prog 18 #[.int .i64 10, .int .i64 3] w fun e w' => e = .returned (.int .i64 8) ∧ w = w' :=
  (window_From 10 3 w (by unfold I64; omega) (by unfold I64; omega)).mono fun _ _ h => by
    rw [show fromq 10 3 = 8 by decide +kernel] at h; exact h
theorem awake09 (w : World) : Calls Try.prog 10 #[] w fun e w' => e = .returned (.bool true) ∧ Below w.heap.size w w' := by
  obtain ⟨q1, q2⟩ := eq_stat 2 7 3 4 4 2 7 3 4 4 true (by decide)
  obtain ⟨q3, q4⟩ := eq_stat 0 0 0 0 0 0 0 0 0 0 true (by decide)
  go_enter Try.func10, Try.ntmps10
  go_wp2_with fail
  refine (of_09 _ _ (slice_blk (l := ([⟨1, 3⟩, ⟨2, 4⟩] : List Smp)) (fun _ => rfl) (Blk.new w _ _) rfl (by decide))).mono ?_
  rintro e v1 ⟨rfl, hb1⟩
  have E1 := Lib.hid ((show Below w.heap.size w (w.alloc (.cells #[.int .i64 1, .int .i64 3, .int .i64 2, .int .i64 4] 42)) by go_grown).trans (hb1.mono (by simp)))
  clear hb1
  go_wp2_with fail
  refine (from_09 _).mono ?_
  rintro e v2 ⟨rfl, rfl⟩
  go_wp2_with fail
  refine (at_09 _).mono ?_
  rintro e v3 ⟨rfl, hb3⟩
  have E2 := E1.out.alloc E1.out.size (.cells #[.int .i64 2, .int .i64 7, .int .i64 3, .int .i64 4, .int .i64 4] 32)
  have E3 := Lib.hid (E2.trans (hb3.mono E2.size))
  clear hb3 E2
  go_wp2
  go_ret
  exact ⟨rfl, E3.out⟩
theorem walk_WindowTells (A : Option Addr) (len cap : Nat) (l : List Smp) (fr to width : Int) (w : World) (hs : SmpsAre w A len cap l) (hg : ∀ x ∈ l, x.good) (hf : I64 fr) (ht : I64 to) (hw : I64 width) :
    Calls Try.prog 3 #[.slice A len cap, .int .i64 fr, .int .i64 to, .int .i64 width] w fun e w' => e = .returned (.bool true) ∧ Below w.heap.size w w' := by
  have HS := Lib.hid hs
  have HG := Lib.hid hg
  have HL := Lib.hid hs.1
  have hle : len ≤ cap := hs.2.1
  have hm : cap ≤ 9223372036854775807 := by have := hs.2.2.1; unfold maxLen at this; omega
  clear hs hg
  go_enter Try.func3, Try.ntmps3
  go_wp2_with fail
  refine (awake09 _).mono ?_
  rintro e v1 ⟨rfl, hb1⟩
  have E1 := Lib.hid hb1
  clear hb1
  by_cases hl : 60 < len
  · go_wp2
    go_ret
    exact ⟨rfl, E1.out⟩
  · have hn : len ≤ 60 := by omega
    have hcl : ∀ f t, (cutq l f t).length ≤ 60 := fun f t => by have := cutq_len l f t; have := HL.out; omega
    have HCL := Lib.hid hcl
    clear hcl
    go_wp2_with fail
    refine (ref09_From to width _ ht hw).mono ?_
    rintro e v2 ⟨rfl, rfl⟩
    have hst := fromq_I64 to width
    go_wp2_with fail
    refine (window_Cut A len cap l fr to _ (slice_keep HS.out E1.out) (by omega)).mono ?_
    rintro e v3 ⟨x3, rfl, ho, hb3⟩
    obtain ⟨A3, n3, c3, rfl, hn3, hsl3⟩ := ho.shape (fun _ => rfl)
    have E3 := Lib.hid (E1.out.trans (hb3.mono E1.out.size))
    have L3 := Lib.hid hsl3
    clear hn3 ho hsl3 hb3
    go_wp2_with fail
    refine (ref09_Cut A len cap l fr to _ (slice_keep HS.out E3.out) (by omega)).mono ?_
    rintro e v4 ⟨x4, rfl, ho, hb4⟩
    obtain ⟨A4, n4, c4, rfl, hn4, hsl4⟩ := ho.shape (fun _ => rfl)
    have E4 := Lib.hid (E3.out.trans (hb4.mono E3.out.size))
    have L3' := Lib.hid (slice_keep L3.out hb4)
    have L4 := Lib.hid hsl4
    clear hn4 ho hsl4 hb4
    go_wp2_with fail
    refine (ref08_Same A3 A4 n3 c3 n4 c4 _ _ _ L3'.out L4.out).mono ?_
    rintro e v5 ⟨he, hb5⟩
    rw [show decide (cutq l fr to = cutq l fr to) = true from decide_eq_true rfl] at he
    subst he
    have E5 := Lib.hid (E4.out.trans (hb5.mono E4.out.size))
    clear hb5
    go_wp2_with fail
    refine (window_Values A len cap l _ (slice_keep HS.out E5.out) (by omega)).mono ?_
    rintro e v6 ⟨x6, rfl, ho, hb6⟩
    obtain ⟨A6, n6, c6, rfl, hn6, hsl6⟩ := ho.shape (fun _ => rfl)
    have E6 := Lib.hid (E5.out.trans (hb6.mono E5.out.size))
    have L6 := Lib.hid hsl6
    clear hn6 ho hsl6 hb6
    go_wp2_with fail
    refine (ref09_Values A len cap l _ (slice_keep HS.out E6.out) (by omega)).mono ?_
    rintro e v7 ⟨x7, rfl, ho, hb7⟩
    obtain ⟨A7, n7, c7, rfl, hn7, hsl7⟩ := ho.shape (fun _ => rfl)
    have E7 := Lib.hid (E6.out.trans (hb7.mono E6.out.size))
    have L6' := Lib.hid (slice_keep L6.out hb7)
    have L7 := Lib.hid hsl7
    clear hn7 ho hsl7 hb7
    go_wp2_with fail
    refine (ref_Same A6 A7 n6 c6 n7 c7 _ _ _ L6'.out L7.out).mono ?_
    rintro e v8 ⟨he, hb8⟩
    rw [show (valq l == valq l) = true from beq_self_eq_true _] at he
    subst he
    have E8 := Lib.hid (E7.out.trans (hb8.mono E7.out.size))
    clear hb8
    go_wp2_with fail
    refine (window_From to width _ ht hw).mono ?_
    rintro e v9 ⟨rfl, rfl⟩
    go_wp2_with fail
    refine (window_Of A len cap l _ (slice_keep HS.out E8.out) HG.out (by omega)).mono ?_
    rintro e v10 ⟨rfl, hb10⟩
    have E10 := Lib.hid (E8.out.trans (hb10.mono E8.out.size))
    clear hb10
    go_wp2_with fail
    refine (ref09_Is A len cap l _ (slice_keep HS.out E10.out) HG.out (by omega)).mono ?_
    rintro e v11 ⟨rfl, hb11⟩
    have E11 := Lib.hid (E10.out.trans (hb11.mono E10.out.size))
    clear hb11
    go_wp2_with fail
    refine (ref09_Cut A len cap l _ to _ (slice_keep HS.out E11.out) (by omega)).mono ?_
    rintro e v12 ⟨x12, rfl, ho, hb12⟩
    obtain ⟨A12, n12, c12, rfl, hn12, hsl12⟩ := ho.shape (fun _ => rfl)
    have hn12b : n12 ≤ 60 := by rw [hn12]; exact HCL.out _ _
    have E12 := Lib.hid (E11.out.trans (hb12.mono E11.out.size))
    have L12 := Lib.hid hsl12
    clear hn12 ho hsl12 hb12
    go_wp2_with fail
    refine (window_At A len cap l to width _ (slice_keep HS.out E12.out) HG.out (by omega) ht hw).mono ?_
    rintro e v13 ⟨rfl, hb13⟩
    have E13 := Lib.hid (E12.out.trans (hb13.mono E12.out.size))
    have L12' := Lib.hid (slice_keep L12.out hb13)
    clear hb13
    go_wp2_with fail
    refine (ref09_Is A12 n12 c12 _ _ L12'.out (cutq_good HG.out _ _) (by omega)).mono ?_
    rintro e v14 ⟨rfl, hb14⟩
    go_wp2
    go_ret
    exact ⟨rfl, E13.out.trans (hb14.mono E13.out.size)⟩
theorem sumq_end (l : List Int) (h : ∀ x ∈ l, 0 ≤ x) : sumq l = min (l.sum) 9223372036854775807 ∧ 0 ≤ l.sum := by
  have key : ∀ (l : List Int), (∀ x ∈ l, 0 ≤ x) → ∀ a : Int, 0 ≤ a → l.foldl (fun s n => satq (s + n)) (min a 9223372036854775807) = min (a + l.sum) 9223372036854775807 ∧ 0 ≤ l.sum := by
    intro l
    induction l with
    | nil => intro _ a ha; simp
    | cons x l ih =>
      intro hx a ha
      have h0 := hx x (by simp)
      have hx' : ∀ y ∈ l, 0 ≤ y := fun y hy => hx y (by simp [hy])
      have e : satq (min a 9223372036854775807 + x) = min (a + x) 9223372036854775807 := by unfold satq; omega
      obtain ⟨h1, h2⟩ := ih hx' (a + x) (by omega)
      refine ⟨?_, by rw [List.sum_cons]; omega⟩
      rw [List.foldl_cons, e, h1, List.sum_cons, Int.add_assoc]
  have := key l h 0 (by omega)
  refine ⟨?_, this.2⟩
  have h1 := this.1
  rw [show min (0 : Int) 9223372036854775807 = 0 by omega, Int.zero_add] at h1
  exact h1
theorem foldl_min_le (l : List Int) (a : Int) : ∀ b, b ≤ l.foldl min a ↔ b ≤ a ∧ ∀ x ∈ l, b ≤ x := by
  induction l generalizing a with
  | nil => intro b; simp
  | cons x l ih =>
    intro b
    rw [List.foldl_cons, ih]
    simp only [List.mem_cons, forall_eq_or_imp]
    constructor
    · rintro ⟨h1, h2⟩; exact ⟨by omega, by omega, h2⟩
    · rintro ⟨h1, h2, h3⟩; exact ⟨by omega, h3⟩
theorem foldl_max_le (l : List Int) (a : Int) : ∀ b, l.foldl max a ≤ b ↔ a ≤ b ∧ ∀ x ∈ l, x ≤ b := by
  induction l generalizing a with
  | nil => intro b; simp
  | cons x l ih =>
    intro b
    rw [List.foldl_cons, ih]
    simp only [List.mem_cons, forall_eq_or_imp]
    constructor
    · rintro ⟨h1, h2⟩; exact ⟨by omega, by omega, h2⟩
    · rintro ⟨h1, h2, h3⟩; exact ⟨by omega, h3⟩
theorem minq_le (l : List Int) (hl : l ≠ []) (b : Int) : b ≤ minq l ↔ ∀ x ∈ l, b ≤ x := by
  cases l with
  | nil => exact absurd rfl hl
  | cons a l => show b ≤ l.foldl min a ↔ _; rw [foldl_min_le]; simp
theorem maxq_le (l : List Int) (hl : l ≠ []) (b : Int) : maxq l ≤ b ↔ ∀ x ∈ l, x ≤ b := by
  cases l with
  | nil => exact absurd rfl hl
  | cons a l => show l.foldl max a ≤ b ↔ _; rw [foldl_max_le]; simp
theorem minq_perm {l m : List Int} (h : l.Perm m) : minq l = minq m := by
  by_cases hl : l = []
  · subst hl; rw [List.nil_perm.1 h]
  · have hm : m ≠ [] := fun e => hl (by subst e; exact List.perm_nil.1 h)
    have h1 := (minq_le l hl (minq m)).2 fun x hx => (minq_le m hm (minq m)).1 (Int.le_refl _) x (h.mem_iff.1 hx)
    have h2 := (minq_le m hm (minq l)).2 fun x hx => (minq_le l hl (minq l)).1 (Int.le_refl _) x (h.mem_iff.2 hx)
    omega
theorem maxq_perm {l m : List Int} (h : l.Perm m) : maxq l = maxq m := by
  by_cases hl : l = []
  · subst hl; rw [List.nil_perm.1 h]
  · have hm : m ≠ [] := fun e => hl (by subst e; exact List.perm_nil.1 h)
    have h1 := (maxq_le l hl (maxq m)).2 fun x hx => (maxq_le m hm (maxq m)).1 (Int.le_refl _) x (h.mem_iff.1 hx)
    have h2 := (maxq_le m hm (maxq l)).2 fun x hx => (maxq_le l hl (maxq l)).1 (Int.le_refl _) x (h.mem_iff.2 hx)
    omega
theorem sum_perm {l m : List Int} (h : l.Perm m) : l.sum = m.sum := by
  induction h with
  | nil => rfl
  | cons x _ ih => simp [ih]
  | swap x y l => simp only [List.sum_cons]; omega
  | trans _ _ h1 h2 => exact h1.trans h2
theorem nsum_perm {l m : List Nat} (h : l.Perm m) : l.sum = m.sum := by
  induction h with
  | nil => rfl
  | cons x _ ih => simp [ih]
  | swap x y l => simp only [List.sum_cons]; omega
  | trans _ _ h1 h2 => exact h1.trans h2
theorem statq_perm {l m : List Smp} (h : l.Perm m) : statq l = statq m := by
  have hl := h.length_eq
  have hv : (valq l).Perm (valq m) := h.map _
  have ht : totq (valq l) = totq (valq m) := by unfold totq; exact nsum_perm (hv.map _)
  have h0 : ∀ (l : List Smp), ∀ x ∈ valq l, 0 ≤ x := fun l x hx => by obtain ⟨y, _, rfl⟩ := List.mem_map.1 hx; omega
  unfold statq
  rw [hl, minq_perm hv, maxq_perm hv, (sumq_end _ (h0 l)).1, (sumq_end _ (h0 m)).1, sum_perm hv]
  unfold meanq
  rw [ht, valq_len, valq_len, hl]
end Go.Proofs.Ytnkefjliafadpaa
