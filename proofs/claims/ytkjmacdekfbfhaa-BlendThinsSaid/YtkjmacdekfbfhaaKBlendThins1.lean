/- Several texts in one. -/
import Derived.Test.YtkjmacdekfbfhaaKBlendMerges3
/- BlendThins: the walk. -/
namespace Go.Proofs.Ytkjmacdekfbfhaa
open Go.RowKit
set_option linter.unusedSimpArgs false
set_option linter.unusedVariables false
set_option maxHeartbeats 4000000
set_option maxRecDepth 100000
theorem thin_is (A : Option Addr) (len cap : Nat) (l : List Smp) (wd : Int) (w : World) (hs : SmpsAre w A len cap l) (hg : ∀ x ∈ l, x.good) (hn : len ≤ 200) (hw : I64 wd) (L : List Smp) (hL : thinq wd l = L) : Calls Try.prog 35 #[.slice A len cap, .int .i64 wd] w (MgP w L) := by
  subst hL
  exact (blend_Thin A len cap l wd w hs hg hn hw).mono fun e w' h => h.is
theorem rthin_is (A : Option Addr) (len cap : Nat) (l : List Smp) (wd : Int) (w : World) (hs : SmpsAre w A len cap l) (hg : ∀ x ∈ l, x.good) (hn : len ≤ 200) (hw : I64 wd) (L : List Smp) (hL : thinq wd l = L) : Calls Try.prog 37 #[.slice A len cap, .int .i64 wd] w (MgP w L) := by
  subst hL
  exact (ref46_Thin A len cap l wd w hs hg hn hw).mono fun e w' h => h.is
theorem walk_BlendThins (A : Option Addr) (len cap : Nat) (l : List Smp) (wd t : Int) (w : World) (hs : SmpsAre w A len cap l) (hg : ∀ x ∈ l, x.good) (hw : I64 wd) (ht : I64 t) :
    Calls Try.prog 9 #[.slice A len cap, .int .i64 wd, .int .i64 t] w fun e w' => e = .returned (.bool true) ∧ Below w.heap.size w w' := by
  have HS := Lib.hid hs
  have HL := Lib.hid hs.1
  have hle : len ≤ cap := hs.2.1
  have hm : cap ≤ 9223372036854775807 := by have := hs.2.2.1; unfold maxLen at this; omega
  have HG := Lib.hid hg
  have HG2 := Lib.hid (thin_good (wd := wd) hg)
  have HA := Lib.hid (thin_again (wd := wd) hg)
  have HLn := Lib.hid (thinq_len wd l)
  have H0 := Lib.hid hw
  have H1 := Lib.hid ht
  have HSl := start_le t wd
  have HT := Lib.hid (fun (A : Option Addr) (n c : Nat) (l2 L : List Smp) (w : World) hs hg hn hL => thin_is A n c l2 wd w hs hg hn hw L hL)
  have HRT := Lib.hid (fun (A : Option Addr) (n c : Nat) (l2 L : List Smp) (w : World) hs hg hn hL => rthin_is A n c l2 wd w hs hg hn hw L hL)
  have HSt := Lib.hid (fun W => blend_Start t wd W ht hw)
  have HRSt := Lib.hid (fun W => ref46_Start t wd W ht hw)
  obtain ⟨L, hLq⟩ : ∃ L, thinq wd l = L := ⟨_, rfl⟩
  have HLq := Lib.hid hLq
  have hGG := HG2.out; have hAA := HA.out; have hNN := HLn.out
  rw [hLq] at hGG hAA hNN
  have HG2 := Lib.hid hGG
  have HA := Lib.hid hAA
  have HLn := Lib.hid hNN
  clear hGG hAA hNN
  generalize startq t wd = ST at *
  clear hs hg hLq hw ht
  go_enter Try.func9, Try.ntmps9
  go_wp2_with fail
  refine (awake46 _).mono ?_
  rintro e v1 ⟨rfl, hb1⟩
  have E1 := Lib.hid hb1
  clear hb1
  by_cases hl : 40 < len
  · go_wp2
    go_ret
    exact ⟨rfl, E1.out⟩
  go_wp2_with fail
  refine (HT.out _ _ _ _ _ _ (slice_keep HS.out E1.out) HG.out (by omega) HLq.out).mono ?_
  rintro e v2 ⟨A2, n2, c2, rfl, hs2, hb2⟩
  have S2 := Lib.hid hs2
  have E2 := Lib.hid (E1.out.trans (hb2.mono E1.out.size))
  have hn2 : n2 ≤ 40 := by have := hs2.1; have := HLn.out; have := HL.out; omega
  clear hs2 hb2
  go_wp2_with fail
  refine (HSt.out _).mono ?_
  rintro e v3 ⟨rfl, rfl⟩
  go_wp2_with fail
  refine (HRT.out _ _ _ _ _ _ (slice_keep HS.out E2.out) HG.out (by omega) HLq.out).mono ?_
  rintro e v4 ⟨A4, n4, c4, rfl, hs4, hb4⟩
  have S4 := Lib.hid hs4
  have S2 := Lib.hid (slice_keep S2.out hb4)
  have E4 := Lib.hid (E2.out.trans (hb4.mono E2.out.size))
  clear hs4 hb4
  go_wp2_with fail
  refine (same_yes _ _ _ _ _ _ _ _ S2.out S4.out).mono ?_
  rintro e v5 ⟨rfl, hb5⟩
  have S2 := Lib.hid (slice_keep S2.out hb5)
  have E5 := Lib.hid (E4.out.trans (hb5.mono E4.out.size))
  clear hb5
  go_wp2_with fail
  refine (HRSt.out _).mono ?_
  rintro e v6 ⟨rfl, rfl⟩
  have dA : (decide (t < ST) && decide (-9223372036854775808 < ST)) = false := by
    rcases HSl with h | h
    · simp; omega
    · simp; omega
  have dB : (t < ST) → ¬ -9223372036854775808 < ST := fun h => by omega
  by_cases hts : t < ST
  · have dC := dB hts
    clear dA dB HSl
    go_wp2
    go_loopw [44] (fun i wr => ∃ k : Nat, k ≤ n2 ∧ i = .int .i64 k ∧ (∀ x ∈ L.take k, ¬ x.tick ≤ -9223372036854775808) ∧ Below v5.heap.size v5 wr) (fun i _ => n2 - (intOf i).toNat)
    case atStart => exact ⟨0, Nat.zero_le _, rfl, fun x hx => by simp at hx, Below.refl _ _⟩
    case round =>
      obtain ⟨k, hk, rfl, hno, hbel⟩ := hrel
      have HB := Lib.hid hbel
      have HNo := Lib.hid hno
      by_cases hlt : k < n2
      · obtain ⟨bb, off, x, hAe, hx, hb, c0, c1⟩ := SmpsAre.at_ (slice_keep S2.out hbel) hlt
        subst hAe
        have hki : (k : Int) < (n2 : Int) := by omega
        have HNx := Lib.hid (take_nx hx)
        obtain ⟨xt, xv⟩ := x
        dsimp only at c0 c1
        have E6 := Lib.hid (E5.out.trans (hbel.mono E5.out.size))
        have BX := Lib.hid (Blk.new wr 65 #[.int .i64 xt, .int .i64 xv])
        clear hx hb hno hbel
        by_cases hx0 : xt ≤ -9223372036854775808
        · go_wp2
          go_ret
          exact ⟨rfl, E6.out.alloc E6.out.size _⟩
        · go_wp2
          go_roundw
          case rel =>
            refine ⟨k + 1, by omega, by go_num, ?_, HB.out.alloc HB.out.size _⟩
            rw [HNx.out]
            intro y hy
            rcases List.mem_append.1 hy with hy | hy
            · exact HNo.out y hy
            · simp at hy; rw [hy]; exact hx0
          case measure => simp [intOf]; omega
      · have hE : L.take k = L := List.take_of_length_le (by have := S2.out.1; omega)
        rw [hE] at hno
        have HQ := Lib.hid (HA.out fun x hx => by have := hno x hx; omega)
        have S2 := Lib.hid (slice_keep S2.out HB.out)
        have hki : (n2 : Int) ≤ (k : Int) := by omega
        have E6 := Lib.hid (E5.out.trans (hbel.mono E5.out.size))
        clear hno hE hbel
        go_wp2_with fail
        refine (HT.out _ _ _ _ _ _ S2.out HG2.out (by omega) HQ.out).mono ?_
        rintro e v7 ⟨A7, n7, c7, rfl, hs7, hb7⟩
        have S7 := Lib.hid hs7
        have S2 := Lib.hid (slice_keep S2.out hb7)
        have E7 := Lib.hid (E6.out.trans (hb7.mono E6.out.size))
        clear hs7 hb7
        go_wp2_with fail
        refine (same_yes _ _ _ _ _ _ _ _ S7.out S2.out).mono ?_
        rintro e v8 ⟨rfl, hb8⟩
        have E8 := Lib.hid (E7.out.trans (hb8.mono E7.out.size))
        clear hb8
        go_wp2
        go_ret
        exact ⟨rfl, E8.out⟩
  · clear dA dB HSl
    go_wp2
    go_loopw [44] (fun i wr => ∃ k : Nat, k ≤ n2 ∧ i = .int .i64 k ∧ (∀ x ∈ L.take k, ¬ x.tick ≤ -9223372036854775808) ∧ Below v5.heap.size v5 wr) (fun i _ => n2 - (intOf i).toNat)
    case atStart => exact ⟨0, Nat.zero_le _, rfl, fun x hx => by simp at hx, Below.refl _ _⟩
    case round =>
      obtain ⟨k, hk, rfl, hno, hbel⟩ := hrel
      have HB := Lib.hid hbel
      have HNo := Lib.hid hno
      by_cases hlt : k < n2
      · obtain ⟨bb, off, x, hAe, hx, hb, c0, c1⟩ := SmpsAre.at_ (slice_keep S2.out hbel) hlt
        subst hAe
        have hki : (k : Int) < (n2 : Int) := by omega
        have HNx := Lib.hid (take_nx hx)
        obtain ⟨xt, xv⟩ := x
        dsimp only at c0 c1
        have E6 := Lib.hid (E5.out.trans (hbel.mono E5.out.size))
        have BX := Lib.hid (Blk.new wr 65 #[.int .i64 xt, .int .i64 xv])
        clear hx hb hno hbel
        by_cases hx0 : xt ≤ -9223372036854775808
        · go_wp2
          go_ret
          exact ⟨rfl, E6.out.alloc E6.out.size _⟩
        · go_wp2
          go_roundw
          case rel =>
            refine ⟨k + 1, by omega, by go_num, ?_, HB.out.alloc HB.out.size _⟩
            rw [HNx.out]
            intro y hy
            rcases List.mem_append.1 hy with hy | hy
            · exact HNo.out y hy
            · simp at hy; rw [hy]; exact hx0
          case measure => simp [intOf]; omega
      · have hE : L.take k = L := List.take_of_length_le (by have := S2.out.1; omega)
        rw [hE] at hno
        have HQ := Lib.hid (HA.out fun x hx => by have := hno x hx; omega)
        have S2 := Lib.hid (slice_keep S2.out HB.out)
        have hki : (n2 : Int) ≤ (k : Int) := by omega
        have E6 := Lib.hid (E5.out.trans (hbel.mono E5.out.size))
        clear hno hE hbel
        go_wp2_with fail
        refine (HT.out _ _ _ _ _ _ S2.out HG2.out (by omega) HQ.out).mono ?_
        rintro e v7 ⟨A7, n7, c7, rfl, hs7, hb7⟩
        have S7 := Lib.hid hs7
        have S2 := Lib.hid (slice_keep S2.out hb7)
        have E7 := Lib.hid (E6.out.trans (hb7.mono E6.out.size))
        clear hs7 hb7
        go_wp2_with fail
        refine (same_yes _ _ _ _ _ _ _ _ S7.out S2.out).mono ?_
        rintro e v8 ⟨rfl, hb8⟩
        have E8 := Lib.hid (E7.out.trans (hb8.mono E7.out.size))
        clear hb8
        go_wp2
        go_ret
        exact ⟨rfl, E8.out⟩
end Go.Proofs.Ytkjmacdekfbfhaa
