/- Several texts in one. -/
import Derived.Test.YtkjmacdekfbfhaaKBlendMerges3
import Derived.BigQuiet
import Derived.Deep.QuietTactic
/- blend.Fill, blend.Gaps. -/
namespace Go.Proofs.Ytkjmacdekfbfhaa
open Go.RowKit
set_option linter.unusedSimpArgs false
set_option linter.unusedVariables false
set_option maxHeartbeats 4000000
set_option maxRecDepth 100000
def fillA (l : List Smp) (fr st n : Int) : List Smp := if st < 1 ∨ n < 1 ∨ 256 < n then [] else fillq (mrgq l) fr st n.toNat
theorem fillA_no {l : List Smp} {fr st n : Int} (h : st < 1 ∨ n < 1 ∨ 256 < n) : fillA l fr st n = [] := if_pos h
theorem tickq_I64 (fr st : Int) (k : Nat) : I64 (tickq fr st k) := satq_I64 _
theorem lastq_next {R : List Smp} {m : Nat} {x : Smp} (T : Int) (h : R[m]? = some x) : lastq (R.take (m + 1)) T = if x.tick ≤ T then x.value else lastq (R.take m) T := by rw [take_nx h, lastq_snoc]
theorem merge_one (A : Option Addr) (len cap : Nat) (l : List Smp) (w : World) (hs : SmpsAre w A len cap l) (hg : ∀ x ∈ l, x.good) (hn : len ≤ 200) : Calls Try.prog 32 #[.slice (some ⟨w.heap.size, 0, none⟩) 1 1] (w.alloc (.cells #[.slice A len cap] tSl)) (MgP w (mrgq l)) := by
  have hk := (Below.refl w.heap.size w).alloc (Nat.le_refl _) (.cells #[.slice A len cap] tSl)
  refine (merge_at [(⟨A, len, cap, l⟩ : SRow)] 1 rfl (Blk.new w _ _) rfl (by simp) (fun r hr => by simp at hr; subst hr; exact slice_keep hs hk) (fun r hr => by simp at hr; subst hr; exact hg) (by simp [allS]; have := hs.1; omega) (mrgq l) (by simp [allS])).mono ?_
  rintro e w' ⟨B, n, c, rfl, h1, h2⟩
  exact ⟨B, n, c, rfl, h1, hk.trans (h2.mono (by simp))⟩
theorem rmerge_one (A : Option Addr) (len cap : Nat) (l : List Smp) (w : World) (hs : SmpsAre w A len cap l) (hg : ∀ x ∈ l, x.good) (hn : len ≤ 200) : Calls Try.prog 34 #[.slice (some ⟨w.heap.size, 0, none⟩) 1 1] (w.alloc (.cells #[.slice A len cap] tSl)) (MgP w (mrgq l)) := by
  have hk := (Below.refl w.heap.size w).alloc (Nat.le_refl _) (.cells #[.slice A len cap] tSl)
  refine (rmerge_at [(⟨A, len, cap, l⟩ : SRow)] 1 rfl (Blk.new w _ _) rfl (by simp) (fun r hr => by simp at hr; subst hr; exact slice_keep hs hk) (fun r hr => by simp at hr; subst hr; exact hg) (by simp [allS]; have := hs.1; omega) (mrgq l) (by simp [allS])).mono ?_
  rintro e w' ⟨B, n, c, rfl, h1, h2⟩
  exact ⟨B, n, c, rfl, h1, hk.trans (h2.mono (by simp))⟩
theorem blend_Fill_no (A : Option Addr) (len cap : Nat) (fr st n : Int) (w : World) (h : st < 1 ∨ n < 1 ∨ 256 < n) : Calls Try.prog 53 #[.slice A len cap, .int .i64 fr, .int .i64 st, .int .i64 n] w (MgP w []) := by
  by_cases h1 : st < 1
  · clear h
    go_enter Try.func53, Try.ntmps53
    go_wp2
    go_ret
    exact ⟨_, _, _, rfl, slice_nil _ _ _, Below.refl _ _⟩
  by_cases h2 : n < 1
  · clear h
    go_enter Try.func53, Try.ntmps53
    go_wp2
    go_ret
    exact ⟨_, _, _, rfl, slice_nil _ _ _, Below.refl _ _⟩
  have h3 : 256 < n := by omega
  clear h
  go_enter Try.func53, Try.ntmps53
  go_wp2
  go_ret
  exact ⟨_, _, _, rfl, slice_nil _ _ _, Below.refl _ _⟩
theorem blend_Fill_yes (A : Option Addr) (len cap : Nat) (l : List Smp) (fr st : Int) (N : Nat) (w : World) (hs : SmpsAre w A len cap l) (hg : ∀ x ∈ l, x.good) (hn : len ≤ 200) (hf : I64 fr) (ht : I64 st) (h1 : ¬ st < 1) (h2 : ¬ (N : Int) < 1) (h3 : ¬ 256 < (N : Int)) :
    Calls Try.prog 53 #[.slice A len cap, .int .i64 fr, .int .i64 st, .int .i64 N] w (MgP w (fillq (mrgq l) fr st N)) := by
  have HM := Lib.hid (fun W hW => merge_one A len cap l W hW hg hn)
  have HS := Lib.hid hs
  have HRl := Lib.hid (mrgq_len l)
  have HL := Lib.hid hs.1
  have HMu := Lib.hid (fun (k : Nat) W hk => sat_Mul st (k : Int) W ht hk)
  have HAd := Lib.hid (fun (k : Nat) W => sat_Add fr (satq (st * k)) W hf (satq_I64 _))
  generalize mrgq l = R at *
  clear hs hg hf ht
  go_enter Try.func53, Try.ntmps53
  go_wp2_with fail
  refine (HM.out _ HS.out).mono ?_
  rintro e w1 ⟨A2, n2, c2, rfl, hs2, hb2⟩
  have S2 := Lib.hid hs2
  have E2 := Lib.hid hb2
  have hn2 : n2 ≤ 200 := by have := hs2.1; have := HRl.out; have := HL.out; omega
  clear hs2 hb2
  go_wp2
  go_loopw [10, 30] (fun o i wr => ∃ (k no co : Nat) (Ao : Option Addr), k ≤ N ∧ i = .int .i64 k ∧ o = .slice Ao no co ∧ OwnS wr w1.heap.size (.slice Ao no co) (fillq R fr st k) ∧ Below w1.heap.size w1 wr) (fun _ i _ => N - (intOf i).toNat)
  case atStart => exact ⟨0, 0, 0, none, Nat.zero_le _, rfl, rfl, Own.nil _ _ _ _ _, Below.refl _ _⟩
  case round =>
    obtain ⟨k, no, co, Ao, hk, rfl, rfl, hown, hbel⟩ := hrel
    have HO := Lib.hid hown
    have HB := Lib.hid hbel
    by_cases hlt : k < N
    · have hki : (k : Int) < (N : Int) := by omega
      have HMk := Lib.hid (fun W => HMu.out k W (by unfold I64; omega))
      have HAk := Lib.hid (fun W => HAd.out k W)
      have HNx := Lib.hid (fillq_next R fr st k)
      have HFl := Lib.hid (fillq_len R fr st k)
      have HTk := Lib.hid (show satq (fr + satq (st * (k : Int))) = tickq fr st k from rfl)
      have hAk := HAk.out
      rw [HTk.out] at hAk
      have HAk := Lib.hid hAk
      generalize fillq R fr st k = FL at *
      generalize tickq fr st k = T at *
      generalize satq (st * (k : Int)) = SM at *
      obtain ⟨wo, rfl⟩ : ∃ wo : World, wo = wr := ⟨_, rfl⟩
      clear hown hbel hAk HTk
      go_wp2_with (first
        | (go_at_call 80; refine (HMk.out _).mono ?_; rintro e v1 ⟨rfl, rfl⟩)
        | (go_at_call 76; refine (HAk.out _).mono ?_; rintro e v1 ⟨rfl, rfl⟩))
      go_loopw [13, 40] (fun v j wr2 => ∃ m : Nat, m ≤ n2 ∧ j = .int .i64 m ∧ v = .int .i64 (lastq (R.take m) T) ∧ Below wo.heap.size wo wr2) (fun _ j _ => n2 - (intOf j).toNat)
      case atStart => exact ⟨0, Nat.zero_le _, rfl, rfl, Below.refl _ _⟩
      case round =>
        obtain ⟨m, hm, rfl, rfl, hbel3⟩ := hrel
        have HB3 := Lib.hid hbel3
        have HB4 := Lib.hid (HB.out.trans (hbel3.mono HB.out.size))
        by_cases hlt2 : m < n2
        · obtain ⟨bb, off, x, hAe, hx, hb, c0, c1⟩ := SmpsAre.at_ (slice_keep S2.out HB4.out) hlt2
          subst hAe
          have hmi : (m : Int) < (n2 : Int) := by omega
          have HLq := Lib.hid (lastq_next T hx)
          obtain ⟨xt, xv⟩ := x
          dsimp only at c0 c1 HLq
          generalize lastq (R.take m) T = LV at *
          clear hx hb hbel3
          by_cases hle : xt ≤ T
          · have hL2 := HLq.out
            rw [if_pos hle] at hL2
            have HL2 := Lib.hid hL2
            clear hL2 HLq
            go_wp2
            go_roundw
            case rel => exact ⟨m + 1, by omega, by go_num, by rw [HL2.out], HB3.out.alloc HB3.out.size _⟩
            case measure => simp [intOf]; omega
          · have hL2 := HLq.out
            rw [if_neg hle] at hL2
            have HL2 := Lib.hid hL2
            clear hL2 HLq
            go_wp2
            go_roundw
            case rel => exact ⟨m + 1, by omega, by go_num, by rw [HL2.out], HB3.out.alloc HB3.out.size _⟩
            case measure => simp [intOf]; omega
        · have hE : R.take m = R := List.take_of_length_le (by have := S2.out.1; omega)
          rw [hE]
          have hmi : (n2 : Int) ≤ (m : Int) := by omega
          have HO3 := Lib.hid (HO.out.call HB3.out)
          generalize lastq R T = LV at *
          clear hE hbel3
          go_wp2_with (at_builtin; refine push_smp _ rfl (.tmp 51) (.tmp 55) rfl w1.heap.size (.slice Ao no co) FL rfl (HO3.out.alloc _) wr.heap.size 65 1 ⟨T, LV⟩ rfl (Blk.new wr _ _) (by have := HFl.out; omega) (by have := HB4.out.size; simp; omega) ?_; intro v' w5 ho5 hb5 hg5; obtain ⟨A5, n5, c5, rfl, -, -⟩ := ownS_isB ho5; have O5 := Lib.hid ho5; have B5 := Lib.hid ((HB4.out.alloc HB4.out.size _).trans hb5); clear ho5 hb5 hg5)
          go_roundw
          case rel => exact ⟨k + 1, n5, c5, A5, by omega, by go_num, rfl, by rw [HNx.out]; exact O5.out, B5.out⟩
          case measure => simp [intOf]; omega
    · obtain rfl : k = N := by omega
      go_wp2
      go_ret
      obtain ⟨A', n', c', he, -, hs'⟩ := ownS_isB HO.out
      injection he with e1 e2 e3
      subst e1; subst e2; subst e3
      exact ⟨_, _, _, rfl, hs', E2.out.trans (HB.out.mono E2.out.size)⟩
theorem blend_Fill (A : Option Addr) (len cap : Nat) (l : List Smp) (fr st n : Int) (w : World) (hs : SmpsAre w A len cap l) (hg : ∀ x ∈ l, x.good) (hn : len ≤ 200) (hf : I64 fr) (ht : I64 st) :
    Calls Try.prog 53 #[.slice A len cap, .int .i64 fr, .int .i64 st, .int .i64 n] w (MgP w (fillA l fr st n)) := by
  by_cases h : st < 1 ∨ n < 1 ∨ 256 < n
  · rw [fillA_no h]
    exact blend_Fill_no A len cap fr st n w h
  · unfold fillA
    rw [if_neg h]
    obtain ⟨N, rfl⟩ : ∃ N : Nat, n = N := ⟨n.toNat, by omega⟩
    exact blend_Fill_yes A len cap l fr st N w hs hg hn hf ht (fun h1 => h (.inl h1)) (fun h1 => h (.inr (.inl h1))) (fun h1 => h (.inr (.inr h1)))
def gapA (l : List Smp) (wd : Int) : Nat := gapN (mrgq l) wd (max 1 (mrgq l).length - 1)
theorem gapN_yes {R : List Smp} {wd : Int} {i : Nat} {x y : Smp} (hx : R[i + 1]? = some x) (hy : R[i]? = some y) (h : wd < satq (x.tick - y.tick)) : gapN R wd (i + 1) = gapN R wd i + 1 := by rw [gapN, tkOf_at hx, tkOf_at hy, if_pos h]
theorem gapN_no {R : List Smp} {wd : Int} {i : Nat} {x y : Smp} (hx : R[i + 1]? = some x) (hy : R[i]? = some y) (h : ¬ wd < satq (x.tick - y.tick)) : gapN R wd (i + 1) = gapN R wd i := by rw [gapN, tkOf_at hx, tkOf_at hy, if_neg h]; rfl
theorem blend_Gaps (A : Option Addr) (len cap : Nat) (l : List Smp) (wd : Int) (w : World) (hs : SmpsAre w A len cap l) (hg : ∀ x ∈ l, x.good) (hn : len ≤ 200) :
    Calls Try.prog 55 #[.slice A len cap, .int .i64 wd] w fun e w' => e = .returned (.int .i64 (gapA l wd : Nat)) ∧ Below w.heap.size w w' := by
  have HM := Lib.hid (fun W hW => merge_one A len cap l W hW hg hn)
  have HS := Lib.hid hs
  have HRl := Lib.hid (mrgq_len l)
  have HRg := Lib.hid (mrgq_good hg)
  have HL := Lib.hid hs.1
  have HP := Lib.hid (fun k (h : k + 1 = max 1 (mrgq l).length) => (show gapN (mrgq l) wd k = gapA l wd from by unfold gapA; congr 1; omega))
  generalize mrgq l = R at *
  generalize gapA l wd = GA at *
  clear hs hg
  go_enter Try.func55, Try.ntmps55
  go_wp2_with fail
  refine (HM.out _ HS.out).mono ?_
  rintro e w1 ⟨A2, n2, c2, rfl, hs2, hb2⟩
  have S2 := Lib.hid hs2
  have E2 := Lib.hid hb2
  have hn2 : n2 ≤ 200 := by have := hs2.1; have := HRl.out; have := HL.out; omega
  have HL2 := Lib.hid hs2.1
  clear hs2 hb2
  go_wp2
  go_loopw [5, 7] (fun o i wr => ∃ k : Nat, k + 1 ≤ max 1 n2 ∧ i = .int .i64 ((k : Int) + 1) ∧ o = .int .i64 (gapN R wd k : Nat) ∧ Below w1.heap.size w1 wr) (fun _ i _ => 300 - (intOf i).toNat)
  case atStart => exact ⟨0, by omega, rfl, rfl, Below.refl _ _⟩
  case round =>
    obtain ⟨i, hk, rfl, rfl, hbel⟩ := hrel
    have HB := Lib.hid hbel
    have hSx := Lib.hid (slice_keep S2.out hbel)
    have hgl := gapN_le R wd i
    clear hbel
    by_cases hlt : i + 1 < n2
    · obtain ⟨b, off, x, hA, hx, hb, c0, c1⟩ := SmpsAre.at_ hSx.out hlt
      obtain ⟨b', off', y, hA', hy, hb', d0, d1⟩ := SmpsAre.at_ hSx.out (show i < n2 by omega)
      subst hA
      injection hA' with hA'
      injection hA' with e1 e2 e3
      subst e1; subst e2
      have hki : (i : Int) + 1 < (n2 : Int) := by omega
      have hki2 : (i : Int) < (n2 : Int) := by omega
      have hz1 : ((i : Int) + 1).toNat = i + 1 := by omega
      have HSb := Lib.hid (fun W => sat_Sub x.tick y.tick W (HRg.out x (List.mem_of_getElem? hx)).1 (HRg.out y (List.mem_of_getElem? hy)).1)
      have Y1 := Lib.hid (fun h => gapN_yes (wd := wd) hx hy h)
      have Y2 := Lib.hid (fun h => gapN_no (wd := wd) hx hy h)
      obtain ⟨xt, xv⟩ := x
      obtain ⟨yt, yv⟩ := y
      dsimp only at c0 d0 HSb Y1 Y2
      generalize satq (xt - yt) = SB at *
      have hmx2 : i + 1 + 1 ≤ max 1 n2 := by omega
      have hi5 : i ≤ 200 := by omega
      clear hx hy hb hb' e3 c1 d1 hk hlt
      generalize gapN R wd i = GI at *
      by_cases h1 : wd < SB
      · have Z := Lib.hid (Y1.out h1)
        clear Y1 Y2
        go_wp2
        go_quiet ((go_at_call 95; exact Calls.quiet_of_same ((HSb.out _).mono fun _ _ h => ⟨h.1, h.2.symm⟩)))
        go_wp2
        go_roundw
        case rel => exact ⟨i + 1, hmx2, by go_num, by rw [Z.out]; go_num, below_drewN HB.out _⟩
        case measure => simp [intOf]; omega
      · have Z := Lib.hid (Y2.out h1)
        clear Y1 Y2
        go_wp2
        go_quiet ((go_at_call 95; exact Calls.quiet_of_same ((HSb.out _).mono fun _ _ h => ⟨h.1, h.2.symm⟩)))
        go_wp2
        go_roundw
        case rel => exact ⟨i + 1, hmx2, by go_num, by rw [Z.out], below_drewN HB.out _⟩
        case measure => simp [intOf]; omega
    · have HQ := Lib.hid (HP.out i (by have := HL2.out; omega))
      have hki : (n2 : Int) ≤ (i : Int) + 1 := by omega
      rw [HQ.out]
      clear hgl
      go_wp2
      go_ret
      exact ⟨rfl, E2.out.trans (HB.out.mono E2.out.size)⟩
end Go.Proofs.Ytkjmacdekfbfhaa
/- flywheelref46.Fill, flywheelref46.Gaps. -/
namespace Go.Proofs.Ytkjmacdekfbfhaa
open Go.RowKit
set_option linter.unusedSimpArgs false
set_option linter.unusedVariables false
set_option maxHeartbeats 4000000
set_option maxRecDepth 100000
theorem ref46_Fill_no (A : Option Addr) (len cap : Nat) (fr st n : Int) (w : World) (h : st < 1 ∨ n < 1 ∨ 256 < n) : Calls Try.prog 54 #[.slice A len cap, .int .i64 fr, .int .i64 st, .int .i64 n] w (MgP w []) := by
  by_cases h1 : st < 1
  · clear h
    go_enter Try.func54, Try.ntmps54
    go_wp2
    go_ret
    exact ⟨_, _, _, rfl, slice_nil _ _ _, Below.refl _ _⟩
  by_cases h2 : n < 1
  · clear h
    go_enter Try.func54, Try.ntmps54
    go_wp2
    go_ret
    exact ⟨_, _, _, rfl, slice_nil _ _ _, Below.refl _ _⟩
  have h3 : 256 < n := by omega
  clear h
  go_enter Try.func54, Try.ntmps54
  go_wp2
  go_ret
  exact ⟨_, _, _, rfl, slice_nil _ _ _, Below.refl _ _⟩
abbrev tSmp : TypeId := 65
theorem ref46_Fill_yes (A : Option Addr) (len cap : Nat) (l : List Smp) (fr st : Int) (N : Nat) (w : World) (hs : SmpsAre w A len cap l) (hg : ∀ x ∈ l, x.good) (hn : len ≤ 200) (hf : I64 fr) (ht : I64 st) (h1 : ¬ st < 1) (h2 : ¬ (N : Int) < 1) (h3 : ¬ 256 < (N : Int)) :
    Calls Try.prog 54 #[.slice A len cap, .int .i64 fr, .int .i64 st, .int .i64 N] w (MgP w (fillq (mrgq l) fr st N)) := by
  have HM := Lib.hid (fun W hW => rmerge_one A len cap l W hW hg hn)
  have HS := Lib.hid hs
  have HRl := Lib.hid (mrgq_len l)
  have HL := Lib.hid hs.1
  have HMu := Lib.hid (fun (k : Nat) W hk => ref_Mul st (k : Int) W ht hk)
  have HAd := Lib.hid (fun (k : Nat) W => ref_Add fr (satq (st * k)) W hf (satq_I64 _))
  generalize mrgq l = R at *
  clear hs hg hf ht
  go_enter Try.func54, Try.ntmps54
  go_wp2_with fail
  refine (HM.out _ HS.out).mono ?_
  rintro e w1 ⟨A2, n2, c2, rfl, hs2, hb2⟩
  have S2 := Lib.hid hs2
  have E2 := Lib.hid hb2
  have hn2 : n2 ≤ 200 := by have := hs2.1; have := HRl.out; have := HL.out; omega
  clear hs2 hb2
  go_wp2
  go_loopw [9, 11] (fun o i wr => ∃ (k no co : Nat) (Ao : Option Addr), k ≤ N ∧ i = .int .i64 k ∧ o = .slice Ao no co ∧ OwnS wr w1.heap.size (.slice Ao no co) (fillq R fr st k) ∧ Below w1.heap.size w1 wr) (fun _ i _ => N - (intOf i).toNat)
  case atStart => exact ⟨0, 0, 0, none, Nat.zero_le _, rfl, rfl, Own.nil _ _ _ _ _, Below.refl _ _⟩
  case round =>
    obtain ⟨k, no, co, Ao, hk, rfl, rfl, hown, hbel⟩ := hrel
    have HO := Lib.hid hown
    have HB := Lib.hid hbel
    by_cases hlt : k < N
    · have hki : (k : Int) < (N : Int) := by omega
      have HMk := Lib.hid (fun W => HMu.out k W (by unfold I64; omega))
      have HAk := Lib.hid (fun W => HAd.out k W)
      have HNx := Lib.hid (fillq_next R fr st k)
      have HFl := Lib.hid (fillq_len R fr st k)
      have HTk := Lib.hid (show satq (fr + satq (st * (k : Int))) = tickq fr st k from rfl)
      have hAk := HAk.out
      rw [HTk.out] at hAk
      have HAk := Lib.hid hAk
      generalize fillq R fr st k = FL at *
      generalize tickq fr st k = T at *
      generalize satq (st * (k : Int)) = SM at *
      obtain ⟨wo, rfl⟩ : ∃ wo : World, wo = wr := ⟨_, rfl⟩
      have BX := Lib.hid (Blk.new wo tSmp #[.int .i64 T, .int .i64 0])
      have EX := Lib.hid ((Below.refl wo.heap.size wo).alloc (Nat.le_refl _) (.cells #[.int .i64 T, .int .i64 0] tSmp))
      clear hown hbel hAk HTk
      go_wp2_with (first
        | (go_at_call 82; refine (HMk.out _).mono ?_; rintro e v1 ⟨rfl, rfl⟩)
        | (go_at_call 94; refine (HAk.out _).mono ?_; rintro e v1 ⟨rfl, rfl⟩))
      go_loopw [13] (fun j wr2 => ∃ m : Nat, m ≤ n2 ∧ j = .int .i64 m ∧ Blk wr2 wo.heap.size tSmp #[.int .i64 T, .int .i64 (lastq (R.take m) T)] ∧ Below wo.heap.size wo wr2) (fun j _ => n2 - (intOf j).toNat)
      case atStart => exact ⟨0, Nat.zero_le _, rfl, BX.out, EX.out⟩
      case round =>
        obtain ⟨m, hm, rfl, hbx, hbel3⟩ := hrel
        have HB3 := Lib.hid hbel3
        have HBx := Lib.hid hbx
        have HB4 := Lib.hid (HB.out.trans (hbel3.mono HB.out.size))
        have x0 := hbx.cellv (i := 0) (v := .int .i64 T) rfl
        have x1 := hbx.cellv (i := 1) (v := .int .i64 (lastq (R.take m) T)) rfl
        by_cases hlt2 : m < n2
        · obtain ⟨bb, off, x, hAe, hx, hb, c0, c1⟩ := SmpsAre.at_ (slice_keep S2.out HB4.out) hlt2
          subst hAe
          have hmi : (m : Int) < (n2 : Int) := by omega
          have HLq := Lib.hid (lastq_next T hx)
          obtain ⟨xt, xv⟩ := x
          dsimp only at c0 c1 HLq
          generalize lastq (R.take m) T = LV at *
          clear hx hbel3 hbx
          have C1 := Lib.hid c1
          have HBB := Lib.hid hb
          clear c1 x1
          by_cases hle : xt ≤ T
          · have hL2 := HLq.out
            rw [if_pos hle] at hL2
            have HL2 := Lib.hid hL2
            clear hL2 HLq
            go_wp2
            go_quiet (fail)
            have X5 := HBx.out.drewN nq
            have c1 := ((below_drewN (Below.refl wr.heap.size wr) nq).cell (p := ⟨bb, off + m * 2 + 1, none⟩) HBB.out).trans C1.out
            have x1 := X5.cellv (i := 1) (v := .int .i64 LV) rfl
            have f1 := X5.frozen 1
            have F1 := Lib.hid (X5.set_ 1 (.int .i64 xv))
            have B5 := Lib.hid (below_drewN HB3.out nq)
            clear X5
            generalize wr.drewN nq = W5 at *
            go_wp2
            go_roundw
            case rel => exact ⟨m + 1, by omega, by go_num, by rw [HL2.out]; exact F1.out, ((Upd.of_below B5.out : Upd (fun k => k = wo.heap.size) wo W5).setCell (p := ⟨wo.heap.size, 1, none⟩) (.inl rfl) _).below (fun k hk => by omega) (Nat.le_refl _)⟩
            case measure => simp [intOf]; omega
          · have hL2 := HLq.out
            rw [if_neg hle] at hL2
            have HL2 := Lib.hid hL2
            clear hL2 HLq
            go_wp2
            go_quiet (fail)
            go_wp2
            go_roundw
            case rel => exact ⟨m + 1, by omega, by go_num, by rw [HL2.out]; exact HBx.out.drewN nq, below_drewN HB3.out nq⟩
            case measure => simp [intOf]; omega
        · have hE : R.take m = R := List.take_of_length_le (by have := S2.out.1; omega)
          have hmi : (n2 : Int) ≤ (m : Int) := by omega
          have HO3 := Lib.hid (HO.out.call HB3.out)
          rw [hE] at HBx x1
          generalize lastq R T = LV at *
          clear hE hbel3 hbx
          go_wp2_with (at_builtin; refine push_smp _ rfl (.tmp 58) (.tmp 60) rfl w1.heap.size (.slice Ao no co) FL rfl (HO3.out.alloc _) wr.heap.size 65 1 ⟨T, LV⟩ rfl (Blk.new wr _ _) (by have := HFl.out; omega) (by have := HB4.out.size; simp; omega) ?_; intro v' w5 ho5 hb5 hg5; obtain ⟨A5, n5, c5, rfl, -, -⟩ := ownS_isB ho5; have O5 := Lib.hid ho5; have B5 := Lib.hid ((HB4.out.alloc HB4.out.size _).trans hb5); clear ho5 hb5 hg5)
          go_roundw
          case rel => exact ⟨k + 1, n5, c5, A5, by omega, by go_num, rfl, by rw [HNx.out]; exact O5.out, B5.out⟩
          case measure => simp [intOf]; omega
    · obtain rfl : k = N := by omega
      go_wp2
      go_ret
      obtain ⟨A', n', c', he, -, hs'⟩ := ownS_isB HO.out
      injection he with e1 e2 e3
      subst e1; subst e2; subst e3
      exact ⟨_, _, _, rfl, hs', E2.out.trans (HB.out.mono E2.out.size)⟩
theorem ref46_Fill (A : Option Addr) (len cap : Nat) (l : List Smp) (fr st n : Int) (w : World) (hs : SmpsAre w A len cap l) (hg : ∀ x ∈ l, x.good) (hn : len ≤ 200) (hf : I64 fr) (ht : I64 st) :
    Calls Try.prog 54 #[.slice A len cap, .int .i64 fr, .int .i64 st, .int .i64 n] w (MgP w (fillA l fr st n)) := by
  by_cases h : st < 1 ∨ n < 1 ∨ 256 < n
  · rw [fillA_no h]
    exact ref46_Fill_no A len cap fr st n w h
  · unfold fillA
    rw [if_neg h]
    obtain ⟨N, rfl⟩ : ∃ N : Nat, n = N := ⟨n.toNat, by omega⟩
    exact ref46_Fill_yes A len cap l fr st N w hs hg hn hf ht (fun h1 => h (.inl h1)) (fun h1 => h (.inr (.inl h1))) (fun h1 => h (.inr (.inr h1)))
theorem ref46_Gaps (A : Option Addr) (len cap : Nat) (l : List Smp) (wd : Int) (w : World) (hs : SmpsAre w A len cap l) (hg : ∀ x ∈ l, x.good) (hn : len ≤ 200) :
    Calls Try.prog 56 #[.slice A len cap, .int .i64 wd] w fun e w' => e = .returned (.int .i64 (gapA l wd : Nat)) ∧ Below w.heap.size w w' := by
  have HM := Lib.hid (fun W hW => rmerge_one A len cap l W hW hg hn)
  have HS := Lib.hid hs
  have HRl := Lib.hid (mrgq_len l)
  have HRg := Lib.hid (mrgq_good hg)
  have HL := Lib.hid hs.1
  have HP := Lib.hid (fun k (h : k + 1 = max 1 (mrgq l).length) => (show gapN (mrgq l) wd k = gapA l wd from by unfold gapA; congr 1; omega))
  generalize mrgq l = R at *
  generalize gapA l wd = GA at *
  clear hs hg
  go_enter Try.func56, Try.ntmps56
  go_wp2_with fail
  refine (HM.out _ HS.out).mono ?_
  rintro e w1 ⟨A2, n2, c2, rfl, hs2, hb2⟩
  have S2 := Lib.hid hs2
  have E2 := Lib.hid hb2
  have hn2 : n2 ≤ 200 := by have := hs2.1; have := HRl.out; have := HL.out; omega
  have HL2 := Lib.hid hs2.1
  clear hs2 hb2
  go_wp2
  go_loopw [6, 7] (fun o i wr => ∃ k : Nat, k + 1 ≤ max 1 n2 ∧ i = .int .i64 ((k : Int) + 1) ∧ o = .int .i64 (gapN R wd k : Nat) ∧ Below w1.heap.size w1 wr) (fun _ i _ => 300 - (intOf i).toNat)
  case atStart => exact ⟨0, by omega, rfl, rfl, Below.refl _ _⟩
  case round =>
    obtain ⟨i, hk, rfl, rfl, hbel⟩ := hrel
    have HB := Lib.hid hbel
    have hSx := Lib.hid (slice_keep S2.out hbel)
    have hgl := gapN_le R wd i
    clear hbel
    by_cases hlt : i + 1 < n2
    · obtain ⟨b, off, x, hA, hx, hb, c0, c1⟩ := SmpsAre.at_ hSx.out hlt
      obtain ⟨b', off', y, hA', hy, hb', d0, d1⟩ := SmpsAre.at_ hSx.out (show i < n2 by omega)
      subst hA
      injection hA' with hA'
      injection hA' with e1 e2 e3
      subst e1; subst e2
      have hki : (i : Int) + 1 < (n2 : Int) := by omega
      have hki2 : (i : Int) < (n2 : Int) := by omega
      have hz1 : ((i : Int) + 1).toNat = i + 1 := by omega
      have HSb := Lib.hid (fun W => ref_Sub x.tick y.tick W (HRg.out x (List.mem_of_getElem? hx)).1 (HRg.out y (List.mem_of_getElem? hy)).1)
      have Y1 := Lib.hid (fun h => gapN_yes (wd := wd) hx hy h)
      have Y2 := Lib.hid (fun h => gapN_no (wd := wd) hx hy h)
      obtain ⟨xt, xv⟩ := x
      obtain ⟨yt, yv⟩ := y
      dsimp only at c0 d0 HSb Y1 Y2
      generalize satq (xt - yt) = SB at *
      have hmx2 : i + 1 + 1 ≤ max 1 n2 := by omega
      have hi5 : i ≤ 200 := by omega
      clear hx hy hb hb' e3 c1 d1 hk hlt
      generalize gapN R wd i = GI at *
      by_cases h1 : wd < SB
      · have Z := Lib.hid (Y1.out h1)
        clear Y1 Y2
        go_wp2
        go_quiet ((go_at_call 96; exact Calls.quiet_of_same ((HSb.out _).mono fun _ _ h => ⟨h.1, h.2.symm⟩)))
        go_wp2
        go_roundw
        case rel => exact ⟨i + 1, hmx2, by go_num, by rw [Z.out]; go_num, below_drewN HB.out _⟩
        case measure => simp [intOf]; omega
      · have Z := Lib.hid (Y2.out h1)
        clear Y1 Y2
        go_wp2
        go_quiet ((go_at_call 96; exact Calls.quiet_of_same ((HSb.out _).mono fun _ _ h => ⟨h.1, h.2.symm⟩)))
        go_wp2
        go_roundw
        case rel => exact ⟨i + 1, hmx2, by go_num, by rw [Z.out], below_drewN HB.out _⟩
        case measure => simp [intOf]; omega
    · have HQ := Lib.hid (HP.out i (by have := HL2.out; omega))
      have hki : (n2 : Int) ≤ (i : Int) + 1 := by omega
      rw [HQ.out]
      clear hgl
      go_wp2
      go_ret
      exact ⟨rfl, E2.out.trans (HB.out.mono E2.out.size)⟩
end Go.Proofs.Ytkjmacdekfbfhaa
/- BlendFills: the walk. -/
namespace Go.Proofs.Ytkjmacdekfbfhaa
open Go.RowKit
set_option linter.unusedSimpArgs false
set_option linter.unusedVariables false
set_option maxHeartbeats 4000000
set_option maxRecDepth 100000
theorem walk_BlendFills (A : Option Addr) (len cap : Nat) (l : List Smp) (fr wd n : Int) (w : World) (hs : SmpsAre w A len cap l) (hg : ∀ x ∈ l, x.good) (hf : I64 fr) (hw : I64 wd) (hn : I64 n) :
    Calls Try.prog 13 #[.slice A len cap, .int .i64 fr, .int .i64 wd, .int .i64 n] w fun e w' => e = .returned (.bool true) ∧ Below w.heap.size w w' := by
  have HS := Lib.hid hs
  have HL := Lib.hid hs.1
  have hle : len ≤ cap := hs.2.1
  have hm : cap ≤ 9223372036854775807 := by have := hs.2.2.1; unfold maxLen at this; omega
  have HF := Lib.hid (fun W hW h => blend_Fill A len cap l fr wd n W hW hg h hf hw)
  have HRF := Lib.hid (fun W hW h => ref46_Fill A len cap l fr wd n W hW hg h hf hw)
  have HGp := Lib.hid (fun W hW h => blend_Gaps A len cap l wd W hW hg h)
  have HRG := Lib.hid (fun W hW h => ref46_Gaps A len cap l wd W hW hg h)
  obtain ⟨GA, hGA⟩ : ∃ GA, GA = gapA l wd := ⟨_, rfl⟩
  rw [← hGA] at HGp HRG
  have hgb : GA ≤ max 1 len := by
    have h1 := gapN_le (mrgq l) wd (max 1 (mrgq l).length - 1)
    have h2 := mrgq_len l
    have := HL.out
    unfold gapA at hGA
    omega
  generalize fillA l fr wd n = FA at *
  clear hs hg hf hw hn hGA
  go_enter Try.func13, Try.ntmps13
  go_wp2_with fail
  refine (awake46 _).mono ?_
  rintro e v1 ⟨rfl, hb1⟩
  have E1 := Lib.hid hb1
  clear hb1
  by_cases hl : 20 < len
  · go_wp2
    go_ret
    exact ⟨rfl, E1.out⟩
  by_cases hB : 40 < n ∧ n ≤ 256
  · obtain ⟨hB1, hB2⟩ := hB
    go_wp2
    go_ret
    exact ⟨rfl, E1.out⟩
  have hgb2 : GA ≤ 20 := by omega
  by_cases hc : 40 < n
  · have hc2 : 256 < n := by omega
    clear hB
    go_wp2_with fail
    refine (HF.out _ (slice_keep HS.out E1.out) (by omega)).mono ?_
    rintro e v2 ⟨A2, n2, c2, rfl, hs2, hb2⟩
    have S2 := Lib.hid hs2
    have E2 := Lib.hid (E1.out.trans (hb2.mono E1.out.size))
    clear hs2 hb2
    go_wp2_with fail
    refine (HRF.out _ (slice_keep HS.out E2.out) (by omega)).mono ?_
    rintro e v3 ⟨A3, n3, c3, rfl, hs3, hb3⟩
    have S3 := Lib.hid hs3
    have S2 := Lib.hid (slice_keep S2.out hb3)
    have E3 := Lib.hid (E2.out.trans (hb3.mono E2.out.size))
    clear hs3 hb3
    go_wp2_with fail
    refine (same_yes _ _ _ _ _ _ _ _ S2.out S3.out).mono ?_
    rintro e v4 ⟨rfl, hb4⟩
    have E4 := Lib.hid (E3.out.trans (hb4.mono E3.out.size))
    clear hb4
    go_wp2_with fail
    refine (HGp.out _ (slice_keep HS.out E4.out) (by omega)).mono ?_
    rintro e v5 ⟨rfl, hb5⟩
    have E5 := Lib.hid (E4.out.trans (hb5.mono E4.out.size))
    clear hb5
    go_wp2_with fail
    refine (HRG.out _ (slice_keep HS.out E5.out) (by omega)).mono ?_
    rintro e v6 ⟨rfl, hb6⟩
    have E6 := Lib.hid (E5.out.trans (hb6.mono E5.out.size))
    clear hb6
    go_wp2
    go_ret
    exact ⟨rfl, E6.out⟩
  · clear hB
    go_wp2_with fail
    refine (HF.out _ (slice_keep HS.out E1.out) (by omega)).mono ?_
    rintro e v2 ⟨A2, n2, c2, rfl, hs2, hb2⟩
    have S2 := Lib.hid hs2
    have E2 := Lib.hid (E1.out.trans (hb2.mono E1.out.size))
    clear hs2 hb2
    go_wp2_with fail
    refine (HRF.out _ (slice_keep HS.out E2.out) (by omega)).mono ?_
    rintro e v3 ⟨A3, n3, c3, rfl, hs3, hb3⟩
    have S3 := Lib.hid hs3
    have S2 := Lib.hid (slice_keep S2.out hb3)
    have E3 := Lib.hid (E2.out.trans (hb3.mono E2.out.size))
    clear hs3 hb3
    go_wp2_with fail
    refine (same_yes _ _ _ _ _ _ _ _ S2.out S3.out).mono ?_
    rintro e v4 ⟨rfl, hb4⟩
    have E4 := Lib.hid (E3.out.trans (hb4.mono E3.out.size))
    clear hb4
    go_wp2_with fail
    refine (HGp.out _ (slice_keep HS.out E4.out) (by omega)).mono ?_
    rintro e v5 ⟨rfl, hb5⟩
    have E5 := Lib.hid (E4.out.trans (hb5.mono E4.out.size))
    clear hb5
    go_wp2_with fail
    refine (HRG.out _ (slice_keep HS.out E5.out) (by omega)).mono ?_
    rintro e v6 ⟨rfl, hb6⟩
    have E6 := Lib.hid (E5.out.trans (hb6.mono E5.out.size))
    clear hb6
    go_wp2
    go_ret
    exact ⟨rfl, E6.out⟩
end Go.Proofs.Ytkjmacdekfbfhaa
