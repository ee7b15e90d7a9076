/- Package control: what each function gives, as plain numbers. -/
import Derived.Test.YtjodpffdlggjgaaPolicy
import Derived.Test.YtjodpffdlggjgaaWide
namespace Go.Proofs.Ytjodpffdlggjgaa
open Go.RowKit
set_option linter.unusedSimpArgs false
set_option linter.unusedVariables false
set_option maxHeartbeats 400000

def loadq (n : Int) : Int := if n < 0 then 0 else n
theorem loadq_max (n : Int) : max n 0 = loadq n := by unfold loadq; omega
theorem loadq_bd {n : Int} (h : I64 n) : 0 ≤ loadq n ∧ loadq n ≤ 9223372036854775807 := by unfold I64 at h; unfold loadq; omega
theorem loadq_I64 {n : Int} (h : I64 n) : I64 (loadq n) := by unfold I64 at *; unfold loadq; omega
def wantq (p : Pol) (n : Int) : Int := if p.okP then ceilq (loadq n) p.target else 0
def boundq (p : Pol) (n : Int) : Int := if p.okP then clampq n p.min p.max else 0

theorem control_Want (p : Pol) (n : Int) (w : World) (hp : p.fit) (hn : I64 n) :
    Calls Try.prog 77 #[(.agg #[.int .i64 p.min, .int .i64 p.max, .int .i64 p.target, .int .i64 p.tol, .int .i64 p.window, .int .i64 p.hold]), .int .i64 n] w fun e w' => e = .returned (.int .i64 (wantq p n)) ∧ Below w.heap.size w w' := by
  obtain ⟨f1, f2, f3, f4, f5, f6⟩ := hp
  have hL := loadq_I64 hn
  by_cases hk : p.okP
  · have e0 := polErr_ok hk
    have HK := Lib.hid hk
    clear hk
    go_enter Try.func77, Try.ntmps77
    go_wp2_with (first | (go_at_call 75; refine (policy_Check p _).mono ?_; rintro e v1 ⟨rfl, hb1⟩; obtain ⟨hc1, hf1⟩ := bcell hb1; have hB1 : Below w.heap.size w v1 := Below.trans (by go_grown) (hb1.mono (by first | omega | (simp; done) | (simp; omega))); have hz1 : w.heap.size < v1.heap.size := (by have := hb1.size; first | omega | (simp at this; omega)); have hs1 := hb1.size; (try simp only [World.size_alloc, World.size_setCell, World.size_drew] at hs1); clear hb1) | (go_at_call 107; refine (sat_Ceil _ _ _ hL f3).mono ?_; rintro e w1 ⟨rfl, rfl⟩))
    all_goals
      go_ret
      exact ⟨ret_int (by unfold wantq; rw [if_pos HK.out]), by go_grown⟩
  · have e0 := polErr_no hk
    have HK := Lib.hid hk
    clear hk
    go_enter Try.func77, Try.ntmps77
    go_wp2_with (first | (go_at_call 75; refine (policy_Check p _).mono ?_; rintro e v2 ⟨rfl, hb2⟩; obtain ⟨hc2, hf2⟩ := bcell hb2; have hB2 : Below w.heap.size w v2 := Below.trans (by go_grown) (hb2.mono (by first | omega | (simp; done) | (simp; omega))); have hz2 : w.heap.size < v2.heap.size := (by have := hb2.size; first | omega | (simp at this; omega)); have hs2 := hb2.size; (try simp only [World.size_alloc, World.size_setCell, World.size_drew] at hs2); clear hb2))
    go_ret
    exact ⟨ret_int (by unfold wantq; rw [if_neg HK.out]), by go_grown⟩
theorem control_Bound (p : Pol) (n : Int) (w : World) :
    Calls Try.prog 47 #[(.agg #[.int .i64 p.min, .int .i64 p.max, .int .i64 p.target, .int .i64 p.tol, .int .i64 p.window, .int .i64 p.hold]), .int .i64 n] w fun e w' => e = .returned (.int .i64 (boundq p n)) ∧ Below w.heap.size w w' := by
  by_cases hk : p.okP
  · have e0 := polErr_ok hk
    have HK := Lib.hid hk
    clear hk
    go_enter Try.func47, Try.ntmps47
    go_wp2_with (first | (go_at_call 75; refine (policy_Check p _).mono ?_; rintro e v3 ⟨rfl, hb3⟩; obtain ⟨hc3, hf3⟩ := bcell hb3; have hB3 : Below w.heap.size w v3 := Below.trans (by go_grown) (hb3.mono (by first | omega | (simp; done) | (simp; omega))); have hz3 : w.heap.size < v3.heap.size := (by have := hb3.size; first | omega | (simp at this; omega)); have hs3 := hb3.size; (try simp only [World.size_alloc, World.size_setCell, World.size_drew] at hs3); clear hb3) | (go_at_call 78; refine (sat_Clamp _ _ _ _).mono ?_; rintro e w1 ⟨rfl, rfl⟩))
    go_ret
    exact ⟨ret_int (by unfold boundq; rw [if_pos HK.out]), by go_grown⟩
  · have e0 := polErr_no hk
    have HK := Lib.hid hk
    clear hk
    go_enter Try.func47, Try.ntmps47
    go_wp2_with (first | (go_at_call 75; refine (policy_Check p _).mono ?_; rintro e v4 ⟨rfl, hb4⟩; obtain ⟨hc4, hf4⟩ := bcell hb4; have hB4 : Below w.heap.size w v4 := Below.trans (by go_grown) (hb4.mono (by first | omega | (simp; done) | (simp; omega))); have hz4 : w.heap.size < v4.heap.size := (by have := hb4.size; first | omega | (simp at this; omega)); have hs4 := hb4.size; (try simp only [World.size_alloc, World.size_setCell, World.size_drew] at hs4); clear hb4))
    go_ret
    exact ⟨ret_int (by unfold boundq; rw [if_neg HK.out]), by go_grown⟩
theorem cmpN_le (X Y : Nat) : decide (cmpN X Y ≤ 0) = decide (X ≤ Y) := by
  rw [Bool.eq_iff_iff, decide_eq_true_iff, decide_eq_true_iff]; unfold cmpN
  split
  · omega
  · split <;> omega
theorem control_within (X Y Z : Nat) (w : World) (hX : X < 2 ^ 128) (hY : Y < 2 ^ 128) (hZ : Z < 2 ^ 128) :
    Calls Try.prog 106 #[.agg #[.int .u64 ((hiQ X : Nat) : Int), .int .u64 ((loQ X : Nat) : Int)], .agg #[.int .u64 ((hiQ Y : Nat) : Int), .int .u64 ((loQ Y : Nat) : Int)], .agg #[.int .u64 ((hiQ Z : Nat) : Int), .int .u64 ((loQ Z : Nat) : Int)]] w fun e w' =>
      e = .returned (.bool (decide (X ≤ Y + Z))) ∧ Below w.heap.size w w' := by
  have HY := Lib.hid hY
  have HZ := Lib.hid hZ
  by_cases hf : Y + Z < 2 ^ 128
  · have e1 : sumRow (Y + Z) = Y + Z := if_pos hf
    have e2 : sumFits (Y + Z) = true := decide_eq_true hf
    clear hX hY hZ hf
    go_enter Try.func106, Try.ntmps106
    go_wp2_with (first | (go_at_call 125; refine (wide_AddN Y Z _ HY.out HZ.out).mono ?_; rintro e v5 ⟨rfl, hb5⟩; obtain ⟨hc5, hf5⟩ := bcell hb5; have hB5 : Below w.heap.size w v5 := Below.trans (by go_grown) (hb5.mono (by first | omega | (simp; done) | (simp; omega))); have hz5 : w.heap.size < v5.heap.size := (by have := hb5.size; first | omega | (simp at this; omega)); have hs5 := hb5.size; (try simp only [World.size_alloc, World.size_setCell, World.size_drew] at hs5); clear hb5) | (go_at_call 126; refine (wide_CmpN _ _ _).mono ?_; rintro e v6 ⟨rfl, hb6⟩; obtain ⟨hc6, hf6⟩ := bcell hb6; have hB6 : Below w.heap.size w v6 := Below.trans (by go_grown) (hb6.mono (by first | omega | (simp; done) | (simp; omega))); have hz6 : w.heap.size < v6.heap.size := (by have := hb6.size; first | omega | (simp at this; omega)); have hs6 := hb6.size; (try simp only [World.size_alloc, World.size_setCell, World.size_drew] at hs6); clear hb6))
    go_ret
    exact ⟨ret_bool (by rw [← cmpN_le]), by go_grown⟩
  · have e2 : sumFits (Y + Z) = false := decide_eq_false hf
    have HF := Lib.hid (show X ≤ Y + Z by omega)
    clear hX hY hZ hf
    go_enter Try.func106, Try.ntmps106
    go_wp2_with (first | (go_at_call 125; refine (wide_AddN Y Z _ HY.out HZ.out).mono ?_; rintro e v7 ⟨rfl, hb7⟩; obtain ⟨hc7, hf7⟩ := bcell hb7; have hB7 : Below w.heap.size w v7 := Below.trans (by go_grown) (hb7.mono (by first | omega | (simp; done) | (simp; omega))); have hz7 : w.heap.size < v7.heap.size := (by have := hb7.size; first | omega | (simp at this; omega)); have hs7 := hb7.size; (try simp only [World.size_alloc, World.size_setCell, World.size_drew] at hs7); clear hb7))
    go_ret
    exact ⟨ret_bool (by rw [decide_eq_true HF.out]), by go_grown⟩
def hasq (load : Int) : Nat := (loadq load).toNat * 1000
def shouldq (p : Pol) (now : Int) : Nat := (now * 1000).toNat * p.target.toNat
def slackq (p : Pol) (now : Int) : Nat := (now * p.tol).toNat * p.target.toNat
def nearq (p : Pol) (load now : Int) : Bool :=
  if p.okP ∧ 1 ≤ now ∧ now ≤ 1073741824 then decide (hasq load ≤ shouldq p now + slackq p now) && decide (shouldq p now ≤ hasq load + slackq p now) else false
theorem near_end (H T K : Nat) (h : H = T) : (decide (H ≤ T + K) && decide (T ≤ H + K)) = true := by subst h; simp
set_option maxHeartbeats 4000000 in
theorem control_Near_ok (p : Pol) (load now L : Int) (w : World) (hp : p.fit) (hn : I64 load) (hk : p.okP) (h1 : 1 ≤ now) (h2 : now ≤ 1073741824) (hL : (load < 0 ∧ L = 0) ∨ (0 ≤ load ∧ L = load)) :
    Calls Try.prog 76 #[(.agg #[.int .i64 p.min, .int .i64 p.max, .int .i64 p.target, .int .i64 p.tol, .int .i64 p.window, .int .i64 p.hold]), .int .i64 load, .int .i64 now] w fun e w' => e = .returned (.bool (nearq p load now)) ∧ Below w.heap.size w w' := by
  obtain ⟨f1, f2, f3, f4, f5, f6⟩ := hp
  have hLq : loadq load = L := by unfold loadq; omega
  have hl2 : load ≤ 9223372036854775807 := hn.2
  have e0 := polErr_ok hk
  have HK := Lib.hid hk
  obtain ⟨k1, k2, k3, k4, k5, k6, k7, k8, k9⟩ := hk
  have hL0 : 0 ≤ L ∧ L ≤ 9223372036854775807 := by omega
  have u1 : U64 L := by unfold U64; omega
  have u2 : U64 1000 := by unfold U64; omega
  have u3 : U64 (now * 1000) := by unfold U64; omega
  have u4 : U64 p.target := by unfold I64 at f3; unfold U64; omega
  have hm : 0 ≤ now * p.tol ∧ now * p.tol ≤ 1072668082176 := by
    have a := Int.mul_nonneg (show 0 ≤ now by omega) k6
    have b := Int.mul_le_mul h2 k7 k6 (by omega)
    omega
  have hm1 := hm.1
  have hm2 := hm.2
  have u5 : U64 (now * p.tol) := by unfold U64; omega
  have t2 : p.target ≤ 9223372036854775807 := f3.2
  have z1 : hasq load < 2 ^ 128 := mul_lt128 (by rw [hLq]; omega) (by omega)
  have z2 : shouldq p now < 2 ^ 128 := mul_lt128 (by omega) (by omega)
  have z3 : slackq p now < 2 ^ 128 := mul_lt128 (by omega) (by omega)
  have c1 : L.toNat * (1000 : Int).toNat = hasq load := by rw [← hLq]; rfl
  have c2 : (now * 1000).toNat * p.target.toNat = shouldq p now := rfl
  have c3 : (now * p.tol).toNat * p.target.toNat = slackq p now := rfl
  have M1 := fun W => wide_MulI L 1000 W u1 u2
  have M2 := fun W => wide_MulI (now * 1000) p.target W u3 u4
  have M3 := fun W => wide_MulI (now * p.tol) p.target W u5 u4
  rw [c1] at M1
  rw [c2] at M2
  rw [c3] at M3
  have hfin : nearq p load now = (decide (hasq load ≤ shouldq p now + slackq p now) && decide (shouldq p now ≤ hasq load + slackq p now)) := if_pos ⟨HK.out, h1, h2⟩
  rw [hfin]
  clear hfin c1 c2 c3 hm hL0 hLq
  have HM1 := Lib.hid M1
  have HM2 := Lib.hid M2
  have HM3 := Lib.hid M3
  have Z1 := Lib.hid z1
  have Z2 := Lib.hid z2
  have Z3 := Lib.hid z3
  clear M1 M2 M3 z1 z2 z3 u1 u2 u3 u4 u5 f1 f2 f3 f4 f5 f6 hn
  generalize hasq load = H at *
  generalize shouldq p now = T at *
  generalize slackq p now = K at *
  have HS := Lib.hid (show decide (H ≤ T + K) = (decide (H ≤ T + K)) from rfl)
  by_cases hHT : H = T
  · have HE := Lib.hid (near_end H T K hHT)
    subst hHT
    rcases hL with ⟨hl, rfl⟩ | ⟨hl, rfl⟩
    all_goals
      go_enter Try.func76, Try.ntmps76
      go_wp2_with (first | (go_at_call 75; refine (policy_Check p _).mono ?_; rintro e va ⟨rfl, hba⟩; obtain ⟨hca, hfa⟩ := bcell hba; have hBa : Below w.heap.size w va := Below.trans (by go_grown) (hba.mono (by first | omega | (simp; done) | (simp; omega))); have hza : w.heap.size < va.heap.size := (by have := hba.size; first | omega | (simp at this; omega)); have hsa := hba.size; (try simp only [World.size_alloc, World.size_setCell, World.size_drew] at hsa); clear hba))
      refine (HM1.out _).mono ?_
      rintro e vb ⟨rfl, hbb⟩; obtain ⟨hcb, hfb⟩ := bcell hbb; have hBb : Below w.heap.size w vb := Below.trans (by go_grown) (hbb.mono (by first | omega | (simp; done) | (simp; omega))); have hzb : w.heap.size < vb.heap.size := (by have := hbb.size; first | omega | (simp at this; omega)); have hsb := hbb.size; (try simp only [World.size_alloc, World.size_setCell, World.size_drew] at hsb); clear hbb
      go_wp2_with fail
      refine (HM2.out _).mono ?_
      rintro e vc ⟨rfl, hbc⟩; obtain ⟨hcc, hfc⟩ := bcell hbc; have hBc : Below w.heap.size w vc := Below.trans (by go_grown) (hbc.mono (by first | omega | (simp; done) | (simp; omega))); have hzc : w.heap.size < vc.heap.size := (by have := hbc.size; first | omega | (simp at this; omega)); have hsc := hbc.size; (try simp only [World.size_alloc, World.size_setCell, World.size_drew] at hsc); clear hbc
      have y1 : vb.heap.size < vc.heap.size := by omega
      go_wp2_with fail
      refine (HM3.out _).mono ?_
      rintro e vd ⟨rfl, hbd⟩; obtain ⟨hcd, hfd⟩ := bcell hbd; have hBd : Below w.heap.size w vd := Below.trans (by go_grown) (hbd.mono (by first | omega | (simp; done) | (simp; omega))); have hzd : w.heap.size < vd.heap.size := (by have := hbd.size; first | omega | (simp at this; omega)); have hsd := hbd.size; (try simp only [World.size_alloc, World.size_setCell, World.size_drew] at hsd); clear hbd
      have y2 : vb.heap.size < vd.heap.size := by omega
      have y3 : vc.heap.size < vd.heap.size := by omega
      go_wp2_with fail
      go_ret
      exact ⟨ret_bool HE.out.symm, by go_grown⟩
  · have CW1 := fun W => control_within H T K W Z1.out Z2.out Z3.out
    have CW2 := fun W => control_within T H K W Z2.out Z1.out Z3.out
    have M1 := HM1.out
    clear HM1
    have hsplit : ¬ ((hiQ H : Nat) : Int) = ((hiQ T : Nat) : Int) ∨ (hiQ H = hiQ T ∧ ¬ ((loQ H : Nat) : Int) = ((loQ T : Nat) : Int)) := by
      by_cases e1 : hiQ H = hiQ T
      · exact .inr ⟨e1, fun e2 => hHT (hl_inj e1 (by omega))⟩
      · exact .inl (by omega)
    clear hHT
    rcases hsplit with hne | ⟨heq, hne⟩
    · have HM1 := Lib.hid M1
      by_cases hle : H ≤ T + K
      · rw [decide_eq_true hle]
        rw [decide_eq_true hle] at CW1
        have HC1 := Lib.hid CW1
        have HC2 := Lib.hid CW2
        clear M1 CW1 CW2 hle
        rcases hL with ⟨hl, rfl⟩ | ⟨hl, rfl⟩
        all_goals
          go_enter Try.func76, Try.ntmps76
          go_wp2_with (first | (go_at_call 75; refine (policy_Check p _).mono ?_; rintro e va ⟨rfl, hba⟩; obtain ⟨hca, hfa⟩ := bcell hba; have hBa : Below w.heap.size w va := Below.trans (by go_grown) (hba.mono (by first | omega | (simp; done) | (simp; omega))); have hza : w.heap.size < va.heap.size := (by have := hba.size; first | omega | (simp at this; omega)); have hsa := hba.size; (try simp only [World.size_alloc, World.size_setCell, World.size_drew] at hsa); clear hba))
          refine (HM1.out _).mono ?_
          rintro e vb ⟨rfl, hbb⟩; obtain ⟨hcb, hfb⟩ := bcell hbb; have hBb : Below w.heap.size w vb := Below.trans (by go_grown) (hbb.mono (by first | omega | (simp; done) | (simp; omega))); have hzb : w.heap.size < vb.heap.size := (by have := hbb.size; first | omega | (simp at this; omega)); have hsb := hbb.size; (try simp only [World.size_alloc, World.size_setCell, World.size_drew] at hsb); clear hbb
          go_wp2_with fail
          refine (HM2.out _).mono ?_
          rintro e vc ⟨rfl, hbc⟩; obtain ⟨hcc, hfc⟩ := bcell hbc; have hBc : Below w.heap.size w vc := Below.trans (by go_grown) (hbc.mono (by first | omega | (simp; done) | (simp; omega))); have hzc : w.heap.size < vc.heap.size := (by have := hbc.size; first | omega | (simp at this; omega)); have hsc := hbc.size; (try simp only [World.size_alloc, World.size_setCell, World.size_drew] at hsc); clear hbc
          have y1 : vb.heap.size < vc.heap.size := by omega
          go_wp2_with fail
          refine (HM3.out _).mono ?_
          rintro e vd ⟨rfl, hbd⟩; obtain ⟨hcd, hfd⟩ := bcell hbd; have hBd : Below w.heap.size w vd := Below.trans (by go_grown) (hbd.mono (by first | omega | (simp; done) | (simp; omega))); have hzd : w.heap.size < vd.heap.size := (by have := hbd.size; first | omega | (simp at this; omega)); have hsd := hbd.size; (try simp only [World.size_alloc, World.size_setCell, World.size_drew] at hsd); clear hbd
          have y2 : vb.heap.size < vd.heap.size := by omega
          have y3 : vc.heap.size < vd.heap.size := by omega
          go_wp2_with fail
          refine (HC1.out _).mono ?_
          rintro e ve ⟨rfl, hbe⟩; obtain ⟨hce, hfe⟩ := bcell hbe; have hBe : Below w.heap.size w ve := Below.trans (by go_grown) (hbe.mono (by first | omega | (simp; done) | (simp; omega))); have hze : w.heap.size < ve.heap.size := (by have := hbe.size; first | omega | (simp at this; omega)); have hse := hbe.size; (try simp only [World.size_alloc, World.size_setCell, World.size_drew] at hse); clear hbe
          have y4 : vb.heap.size < ve.heap.size := by omega
          have y5 : vc.heap.size < ve.heap.size := by omega
          have y6 : vd.heap.size < ve.heap.size := by omega
          go_wp2_with fail
          refine (HC2.out _).mono ?_
          rintro e vf ⟨rfl, hbf⟩; obtain ⟨hcf, hff⟩ := bcell hbf; have hBf : Below w.heap.size w vf := Below.trans (by go_grown) (hbf.mono (by first | omega | (simp; done) | (simp; omega))); have hzf : w.heap.size < vf.heap.size := (by have := hbf.size; first | omega | (simp at this; omega)); have hsf := hbf.size; (try simp only [World.size_alloc, World.size_setCell, World.size_drew] at hsf); clear hbf
          go_wp2_with fail
          go_ret
          exact ⟨ret_bool (by simp), by go_grown⟩

      · rw [decide_eq_false hle]
        rw [decide_eq_false hle] at CW1
        have HC1 := Lib.hid CW1
        clear M1 CW1 CW2 hle
        rcases hL with ⟨hl, rfl⟩ | ⟨hl, rfl⟩
        all_goals
          go_enter Try.func76, Try.ntmps76
          go_wp2_with (first | (go_at_call 75; refine (policy_Check p _).mono ?_; rintro e va ⟨rfl, hba⟩; obtain ⟨hca, hfa⟩ := bcell hba; have hBa : Below w.heap.size w va := Below.trans (by go_grown) (hba.mono (by first | omega | (simp; done) | (simp; omega))); have hza : w.heap.size < va.heap.size := (by have := hba.size; first | omega | (simp at this; omega)); have hsa := hba.size; (try simp only [World.size_alloc, World.size_setCell, World.size_drew] at hsa); clear hba))
          refine (HM1.out _).mono ?_
          rintro e vb ⟨rfl, hbb⟩; obtain ⟨hcb, hfb⟩ := bcell hbb; have hBb : Below w.heap.size w vb := Below.trans (by go_grown) (hbb.mono (by first | omega | (simp; done) | (simp; omega))); have hzb : w.heap.size < vb.heap.size := (by have := hbb.size; first | omega | (simp at this; omega)); have hsb := hbb.size; (try simp only [World.size_alloc, World.size_setCell, World.size_drew] at hsb); clear hbb
          go_wp2_with fail
          refine (HM2.out _).mono ?_
          rintro e vc ⟨rfl, hbc⟩; obtain ⟨hcc, hfc⟩ := bcell hbc; have hBc : Below w.heap.size w vc := Below.trans (by go_grown) (hbc.mono (by first | omega | (simp; done) | (simp; omega))); have hzc : w.heap.size < vc.heap.size := (by have := hbc.size; first | omega | (simp at this; omega)); have hsc := hbc.size; (try simp only [World.size_alloc, World.size_setCell, World.size_drew] at hsc); clear hbc
          have y1 : vb.heap.size < vc.heap.size := by omega
          go_wp2_with fail
          refine (HM3.out _).mono ?_
          rintro e vd ⟨rfl, hbd⟩; obtain ⟨hcd, hfd⟩ := bcell hbd; have hBd : Below w.heap.size w vd := Below.trans (by go_grown) (hbd.mono (by first | omega | (simp; done) | (simp; omega))); have hzd : w.heap.size < vd.heap.size := (by have := hbd.size; first | omega | (simp at this; omega)); have hsd := hbd.size; (try simp only [World.size_alloc, World.size_setCell, World.size_drew] at hsd); clear hbd
          have y2 : vb.heap.size < vd.heap.size := by omega
          have y3 : vc.heap.size < vd.heap.size := by omega
          go_wp2_with fail
          refine (HC1.out _).mono ?_
          rintro e ve ⟨rfl, hbe⟩; obtain ⟨hce, hfe⟩ := bcell hbe; have hBe : Below w.heap.size w ve := Below.trans (by go_grown) (hbe.mono (by first | omega | (simp; done) | (simp; omega))); have hze : w.heap.size < ve.heap.size := (by have := hbe.size; first | omega | (simp at this; omega)); have hse := hbe.size; (try simp only [World.size_alloc, World.size_setCell, World.size_drew] at hse); clear hbe
          have y4 : vb.heap.size < ve.heap.size := by omega
          have y5 : vc.heap.size < ve.heap.size := by omega
          have y6 : vd.heap.size < ve.heap.size := by omega
          go_wp2_with fail
          go_ret
          exact ⟨ret_bool (by simp), by go_grown⟩

    · rw [heq] at M1 CW1 CW2
      clear heq
      have HM1 := Lib.hid M1
      by_cases hle : H ≤ T + K
      · rw [decide_eq_true hle]
        rw [decide_eq_true hle] at CW1
        have HC1 := Lib.hid CW1
        have HC2 := Lib.hid CW2
        clear M1 CW1 CW2 hle
        rcases hL with ⟨hl, rfl⟩ | ⟨hl, rfl⟩
        all_goals
          go_enter Try.func76, Try.ntmps76
          go_wp2_with (first | (go_at_call 75; refine (policy_Check p _).mono ?_; rintro e va ⟨rfl, hba⟩; obtain ⟨hca, hfa⟩ := bcell hba; have hBa : Below w.heap.size w va := Below.trans (by go_grown) (hba.mono (by first | omega | (simp; done) | (simp; omega))); have hza : w.heap.size < va.heap.size := (by have := hba.size; first | omega | (simp at this; omega)); have hsa := hba.size; (try simp only [World.size_alloc, World.size_setCell, World.size_drew] at hsa); clear hba))
          refine (HM1.out _).mono ?_
          rintro e vb ⟨rfl, hbb⟩; obtain ⟨hcb, hfb⟩ := bcell hbb; have hBb : Below w.heap.size w vb := Below.trans (by go_grown) (hbb.mono (by first | omega | (simp; done) | (simp; omega))); have hzb : w.heap.size < vb.heap.size := (by have := hbb.size; first | omega | (simp at this; omega)); have hsb := hbb.size; (try simp only [World.size_alloc, World.size_setCell, World.size_drew] at hsb); clear hbb
          go_wp2_with fail
          refine (HM2.out _).mono ?_
          rintro e vc ⟨rfl, hbc⟩; obtain ⟨hcc, hfc⟩ := bcell hbc; have hBc : Below w.heap.size w vc := Below.trans (by go_grown) (hbc.mono (by first | omega | (simp; done) | (simp; omega))); have hzc : w.heap.size < vc.heap.size := (by have := hbc.size; first | omega | (simp at this; omega)); have hsc := hbc.size; (try simp only [World.size_alloc, World.size_setCell, World.size_drew] at hsc); clear hbc
          have y1 : vb.heap.size < vc.heap.size := by omega
          go_wp2_with fail
          refine (HM3.out _).mono ?_
          rintro e vd ⟨rfl, hbd⟩; obtain ⟨hcd, hfd⟩ := bcell hbd; have hBd : Below w.heap.size w vd := Below.trans (by go_grown) (hbd.mono (by first | omega | (simp; done) | (simp; omega))); have hzd : w.heap.size < vd.heap.size := (by have := hbd.size; first | omega | (simp at this; omega)); have hsd := hbd.size; (try simp only [World.size_alloc, World.size_setCell, World.size_drew] at hsd); clear hbd
          have y2 : vb.heap.size < vd.heap.size := by omega
          have y3 : vc.heap.size < vd.heap.size := by omega
          go_wp2_with fail
          refine (HC1.out _).mono ?_
          rintro e ve ⟨rfl, hbe⟩; obtain ⟨hce, hfe⟩ := bcell hbe; have hBe : Below w.heap.size w ve := Below.trans (by go_grown) (hbe.mono (by first | omega | (simp; done) | (simp; omega))); have hze : w.heap.size < ve.heap.size := (by have := hbe.size; first | omega | (simp at this; omega)); have hse := hbe.size; (try simp only [World.size_alloc, World.size_setCell, World.size_drew] at hse); clear hbe
          have y4 : vb.heap.size < ve.heap.size := by omega
          have y5 : vc.heap.size < ve.heap.size := by omega
          have y6 : vd.heap.size < ve.heap.size := by omega
          go_wp2_with fail
          refine (HC2.out _).mono ?_
          rintro e vf ⟨rfl, hbf⟩; obtain ⟨hcf, hff⟩ := bcell hbf; have hBf : Below w.heap.size w vf := Below.trans (by go_grown) (hbf.mono (by first | omega | (simp; done) | (simp; omega))); have hzf : w.heap.size < vf.heap.size := (by have := hbf.size; first | omega | (simp at this; omega)); have hsf := hbf.size; (try simp only [World.size_alloc, World.size_setCell, World.size_drew] at hsf); clear hbf
          go_wp2_with fail
          go_ret
          exact ⟨ret_bool (by simp), by go_grown⟩

      · rw [decide_eq_false hle]
        rw [decide_eq_false hle] at CW1
        have HC1 := Lib.hid CW1
        clear M1 CW1 CW2 hle
        rcases hL with ⟨hl, rfl⟩ | ⟨hl, rfl⟩
        all_goals
          go_enter Try.func76, Try.ntmps76
          go_wp2_with (first | (go_at_call 75; refine (policy_Check p _).mono ?_; rintro e va ⟨rfl, hba⟩; obtain ⟨hca, hfa⟩ := bcell hba; have hBa : Below w.heap.size w va := Below.trans (by go_grown) (hba.mono (by first | omega | (simp; done) | (simp; omega))); have hza : w.heap.size < va.heap.size := (by have := hba.size; first | omega | (simp at this; omega)); have hsa := hba.size; (try simp only [World.size_alloc, World.size_setCell, World.size_drew] at hsa); clear hba))
          refine (HM1.out _).mono ?_
          rintro e vb ⟨rfl, hbb⟩; obtain ⟨hcb, hfb⟩ := bcell hbb; have hBb : Below w.heap.size w vb := Below.trans (by go_grown) (hbb.mono (by first | omega | (simp; done) | (simp; omega))); have hzb : w.heap.size < vb.heap.size := (by have := hbb.size; first | omega | (simp at this; omega)); have hsb := hbb.size; (try simp only [World.size_alloc, World.size_setCell, World.size_drew] at hsb); clear hbb
          go_wp2_with fail
          refine (HM2.out _).mono ?_
          rintro e vc ⟨rfl, hbc⟩; obtain ⟨hcc, hfc⟩ := bcell hbc; have hBc : Below w.heap.size w vc := Below.trans (by go_grown) (hbc.mono (by first | omega | (simp; done) | (simp; omega))); have hzc : w.heap.size < vc.heap.size := (by have := hbc.size; first | omega | (simp at this; omega)); have hsc := hbc.size; (try simp only [World.size_alloc, World.size_setCell, World.size_drew] at hsc); clear hbc
          have y1 : vb.heap.size < vc.heap.size := by omega
          go_wp2_with fail
          refine (HM3.out _).mono ?_
          rintro e vd ⟨rfl, hbd⟩; obtain ⟨hcd, hfd⟩ := bcell hbd; have hBd : Below w.heap.size w vd := Below.trans (by go_grown) (hbd.mono (by first | omega | (simp; done) | (simp; omega))); have hzd : w.heap.size < vd.heap.size := (by have := hbd.size; first | omega | (simp at this; omega)); have hsd := hbd.size; (try simp only [World.size_alloc, World.size_setCell, World.size_drew] at hsd); clear hbd
          have y2 : vb.heap.size < vd.heap.size := by omega
          have y3 : vc.heap.size < vd.heap.size := by omega
          go_wp2_with fail
          refine (HC1.out _).mono ?_
          rintro e ve ⟨rfl, hbe⟩; obtain ⟨hce, hfe⟩ := bcell hbe; have hBe : Below w.heap.size w ve := Below.trans (by go_grown) (hbe.mono (by first | omega | (simp; done) | (simp; omega))); have hze : w.heap.size < ve.heap.size := (by have := hbe.size; first | omega | (simp at this; omega)); have hse := hbe.size; (try simp only [World.size_alloc, World.size_setCell, World.size_drew] at hse); clear hbe
          have y4 : vb.heap.size < ve.heap.size := by omega
          have y5 : vc.heap.size < ve.heap.size := by omega
          have y6 : vd.heap.size < ve.heap.size := by omega
          go_wp2_with fail
          go_ret
          exact ⟨ret_bool (by simp), by go_grown⟩

end Go.Proofs.Ytjodpffdlggjgaa
