/- The reference's mean by halving. -/
import Derived.Test.YtjodpffdlggjgaaDec2
import Derived.Test.YtjodpffdlggjgaaMeanP
import Derived.Test.YtjodpffdlggjgaaNum6
import Derived.Test.YtjodpffdlggjgaaRegT
namespace Go.Proofs.Ytjodpffdlggjgaa
open Go.RowKit
set_option linter.unusedSimpArgs false
set_option linter.unusedVariables false
set_option maxHeartbeats 4000000
set_option maxRecDepth 100000
theorem cmpN_ge (X Y : Nat) : decide (0 ≤ cmpN X Y) = decide (Y ≤ X) := by
  unfold cmpN
  rw [Bool.eq_iff_iff]
  simp only [decide_eq_true_eq]
  split <;> (try split) <;> omega
theorem ref16_atLeastN (A : Option Addr) (len cap : Nat) (l : List Int) (M : Nat) (w : World) (hs : IntsAre w A len cap l) (hg : ∀ x ∈ l, I64 x) (hn : len ≤ 1000) (hM : M ≤ 9223372036854775807) :
    Calls Try.prog 120 #[.slice A len cap, .int .i64 (M : Int)] w fun e w' => e = .returned (.bool (decide (totq l ≤ M * len))) ∧ Below w.heap.size w w' := by
  have HS := Lib.hid hs
  have HG := Lib.hid hg
  have hl := hs.1
  have hT : totq l < 2 ^ 128 := by
    have h1 := totq_lt l hg
    have h2 := Nat.mul_le_mul_right 9223372036854775807 (show l.length ≤ 1000 by omega)
    omega
  have HT := Lib.hid hT
  clear hs hg hT
  by_cases h0 : len = 0
  · have HQ := Lib.hid (show decide (totq l ≤ M * len) = true by
      have : l = [] := List.eq_nil_of_length_eq_zero (by omega)
      subst this
      simp [totq])
    have d0 : ((len : Int) == 0) = true := by simp; omega
    clear h0 hl
    go_enter Try.func120, Try.ntmps120
    go_wp2
    go_ret
    exact ⟨by rw [HQ.out]; rfl, Below.refl _ _⟩
  · have d0 : ((len : Int) == 0) = false := by simp; omega
    obtain ⟨P, hP⟩ : ∃ P, P = M * len := ⟨_, rfl⟩
    have hPl : P < 2 ^ 128 := by rw [hP]; exact mul_lt128q (by omega) (by omega)
    have HPl := Lib.hid hPl
    have HM := Lib.hid (fun W => num_MulM M len P W hP (by omega) (by omega))
    rw [← hP]
    have HTot := Lib.hid (fun W hW => num_Total A len cap l W hW HG.out (by omega))
    have hM2 : (M : Int) ≤ 9223372036854775807 := by omega
    generalize totq l = T at *
    have HC := Lib.hid (fun W => num_Cmp P T W HPl.out HT.out)
    have HR := Lib.hid (cmpN_ge P T)
    generalize cmpN P T = C at *
    clear h0 hl hP hPl
    go_enter Try.func120, Try.ntmps120
    go_wp2_with (first | (go_at_call 108; refine (HM.out _).mono ?_; rintro e v1 ⟨rfl, hb1⟩) | (refine wpList_store_fresh rfl 146 _ _ rfl _ _ _ (bitsA _) rfl rfl rfl (by rw [bitsA_size]; kernel_rfl) (info_num _) (bitsA_one _) ?_))
    have BP := Lib.hid (Blk.new v1 146 (bitsA P))
    have E1 := Lib.hid (hb1.alloc hb1.size (.cells (bitsA P) 146))
    clear hb1
    generalize v1.heap.size = g at *
    generalize v1.alloc (.cells (bitsA P) 146) = v2 at *
    refine wp_region_any (by kernel_rfl) ?_; change wpAny _ _ _ _ _ _ _ (World.drew v2); refine any_of_anyG (late := fun _ => false) (S := fun wS => Below v2.heap.size v2 wS) _ _ _ _ ?_
    have S0 := (Below.refl v2.heap.size v2).drew
    refine anyG_takes (is := [0, 1]) (vs := [_, _]) (m := 4) (listed2 := #[true, true, false, false, false, false]) (a2 := ⟨#[_, _, _, _, _, _, _, _, _, _, _, _, _, _, _, _, _, _, _, _], _⟩) (by kernel_rfl) (fun j hj => by simp at hj) (by kernel_rfl) (fun _ _ _ _ _ h => h) (Ys.cons rfl (Or.inl ⟨by rfl, fun W1 hW1 => exec_load (ty := 146) (x := .tmp 5) rfl rfl (run_loadAt_blk _ _ _ _ _ _ (BP.out.call hW1) Try.underlying146 rfl (by first | exact info_num _ | kernel_rfl))⟩) (Ys.cons rfl (Or.inl ⟨by rfl, fun W1 hW1 => by first | rfl | (go_simp; done) | (go_simp; with_reducible rfl)⟩) (Ys.nil))) (S0) (by rfl) (by rfl) ?_
    refine anyG_one (k := 2) (by kernel_rfl) rfl (by rfl) (fun Q2 hQ2 => ?_); go_wp2_with (go_at_call 137; refine (HTot.out _ (slice_keep HS.out (E1.out.trans (S0.mono E1.out.size)))).mono ?_; rintro e v3 ⟨rfl, hb3⟩); refine hQ2 _ _ (fun _ => S0.trans (hb3.mono S0.size)) ?_; clear hQ2 Q2
    have S3 := S0.trans (hb3.mono S0.size)
    refine anyG_one (k := 3) (by kernel_rfl) rfl (by rfl) (fun Q2 hQ2 => ?_); go_wp2_with (go_at_call 111; refine (HC.out _).mono ?_; rintro e v4 ⟨rfl, hb4⟩); refine hQ2 _ _ (fun _ => S3.trans (hb4.mono S3.size)) ?_; clear hQ2 Q2
    have S4 := S3.trans (hb4.mono S3.size)
    refine anyG_one (k := 4) (by kernel_rfl) rfl (by rfl) (fun Q2 hQ2 => ?_); go_wp2_with fail; refine hQ2 _ _ (fun _ => S4) ?_; clear hQ2 Q2
    refine anyG_takes (is := [5]) (vs := [_]) (m := 0) (listed2 := #[true, true, true, true, true, true]) (a2 := ⟨#[_, _, _, _, _, _, _, _, _, _, _, _, _, _, _, _, _, _, _, _], _⟩) (by kernel_rfl) (fun j hj => by simp at hj) (by kernel_rfl) (fun _ _ _ _ _ h => h) (Ys.cons rfl (Or.inl ⟨by rfl, fun W1 hW1 => by first | rfl | (go_simp; done) | (go_simp; with_reducible rfl)⟩) (Ys.nil)) (S4) (by rfl) (by rfl) ?_
    refine anyG_done (by kernel_rfl) ?_ _
    go_wp2
    go_ret
    exact ⟨ret_bool HR.out, E1.out.trans (S4.mono E1.out.size)⟩
theorem mean_least {l : List Int} (hg : ∀ x ∈ l, I64 x) (h0 : ∀ x ∈ l, 0 ≤ x) (M : Nat) : decide (totq l ≤ M * l.length) = decide (meanq l ≤ (M : Int)) ∧ 0 ≤ meanq l ∧ meanq l ≤ 9223372036854775807 := by
  by_cases hl : l.length = 0
  · have e : l = [] := List.eq_nil_of_length_eq_zero hl
    subst e
    simp [totq, meanq]
  · obtain ⟨h1, h2⟩ := mean_plain hg (by omega)
    have h3 := (upq_spec (n := totq l) (d := l.length) (q := upq (totq l) l.length) (by omega)).2 rfl
    rw [h1]
    refine ⟨?_, by omega, by omega⟩
    rw [Bool.eq_iff_iff]
    simp only [decide_eq_true_eq]
    constructor
    · intro h
      have := upq_le (by omega) h
      omega
    · intro h
      have := Nat.mul_le_mul_right l.length (show upq (totq l) l.length ≤ M by omega)
      omega
theorem ref16_atLeast (A : Option Addr) (len cap : Nat) (l : List Int) (m : Int) (w : World) (hs : IntsAre w A len cap l) (hg : ∀ x ∈ l, I64 x) (hg0 : ∀ x ∈ l, 0 ≤ x) (hn : len ≤ 1000) (h0 : 0 ≤ m) (h1 : m ≤ 9223372036854775807) :
    Calls Try.prog 120 #[.slice A len cap, .int .i64 m] w fun e w' => e = .returned (.bool (decide (meanq l ≤ m))) ∧ Below w.heap.size w w' := by
  obtain ⟨M, rfl⟩ := Int.eq_ofNat_of_zero_le h0
  have := ref16_atLeastN A len cap l M w hs hg hn (by omega)
  rw [← hs.1, (mean_least hg hg0 M).1] at this
  rw [← hs.1]
  exact this
theorem ref16_Mean (A : Option Addr) (len cap : Nat) (l : List Smp) (w : World) (hs : SmpsAre w A len cap l) (hg : ∀ x ∈ l, x.good) (hn : len ≤ 200) :
    Calls Try.prog 97 #[.slice A len cap] w fun e w' => e = .returned (.int .i64 (meanq (valq l))) ∧ Below w.heap.size w w' := by
  have HS := Lib.hid hs
  have HL := Lib.hid hs.1
  have HG := Lib.hid (fun x hx => (show I64 x by have := valq_bd hg x hx; unfold I64; omega) : ∀ x ∈ valq l, I64 x)
  have HG0 := Lib.hid (fun x hx => (valq_bd hg x hx).1 : ∀ x ∈ valq l, 0 ≤ x)
  obtain ⟨-, m0, m1⟩ := mean_least HG.out HG0.out 0
  clear hs hg
  go_enter Try.func97, Try.ntmps97
  go_wp2_with fail
  refine (ref09_Values A len cap l _ HS.out (by omega)).mono ?_
  rintro e w1 ⟨v, rfl, ho, hb1⟩
  obtain ⟨A', n', c', rfl, hn', hsl⟩ := ho.shape (fun _ => rfl)
  have hn2 : n' ≤ 200 := by rw [hn', valq_len]; have := HL.out; omega
  have SL := Lib.hid hsl
  have HB := Lib.hid hb1
  clear hn' ho hsl hb1
  have HAt := Lib.hid (fun W m hW h0 h1 => ref16_atLeast A' n' c' (valq l) m W hW HG.out HG0.out (by omega) h0 h1)
  generalize hMN : meanq (valq l) = MN at *
  have HMN := Lib.hid hMN
  clear hMN
  go_wp2
  go_loopw [4, 5] (fun lo hi wr => ∃ a b : Int, lo = .int .i64 a ∧ hi = .int .i64 b ∧ 0 ≤ a ∧ a ≤ MN ∧ MN ≤ b ∧ b ≤ 9223372036854775807 ∧ Below w1.heap.size w1 wr) (fun lo hi _ => (intOf hi - intOf lo).toNat)
  case atStart => exact ⟨0, 9223372036854775807, rfl, rfl, by omega, m0, m1, by omega, Below.refl _ _⟩
  case round =>
    obtain ⟨a, b, rfl, rfl, ha, h1, h2, h3, hbel⟩ := hrel
    by_cases hlt : a < b
    · have q1 : a ≤ a + (b - a) / 2 ∧ a + (b - a) / 2 < b := by omega
      obtain ⟨q2, q3⟩ := q1
      have HBl := Lib.hid hbel
      go_wp2_with fail
      refine (HAt.out _ _ (slice_keep SL.out HBl.out) (by omega) (by omega)).mono ?_
      rintro e w2 ⟨rfl, hb2⟩
      have E2 := Lib.hid (HBl.out.trans (hb2.mono HBl.out.size))
      clear hb2 hbel
      by_cases c : MN ≤ a + (b - a) / 2
      · go_wp2
        go_roundw
        case rel => exact ⟨_, _, rfl, rfl, ha, h1, c, by omega, E2.out⟩
        case measure => simp [intOf]; omega
      · go_wp2
        go_roundw
        case rel => exact ⟨_, _, rfl, rfl, by omega, by omega, h2, by omega, E2.out⟩
        case measure => simp [intOf]; omega
    · go_wp2
      go_ret
      exact ⟨ret_int (by rw [HMN.out]; omega), HB.out.trans (hbel.mono HB.out.size)⟩
end Go.Proofs.Ytjodpffdlggjgaa
