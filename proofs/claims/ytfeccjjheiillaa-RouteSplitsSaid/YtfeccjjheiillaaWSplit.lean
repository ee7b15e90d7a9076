/- Chapter 5's law: RouteSplits. (fast region) -/
import Derived.Test.YtfeccjjheiillaaWRoute
import Derived.Test.YtfeccjjheiillaaHeavy
namespace Go.Proofs.Ytfeccjjheiillaa
open Go.RowKit
set_option linter.unusedSimpArgs false
set_option linter.unusedVariables false
set_option maxHeartbeats 4000000
set_option maxRecDepth 100000
theorem parts_same (l : List Key) (n : Int) (i : Nat) : decide (partq l n i = partq l n i) = true := by simp
theorem lwq_eq {l : List Key} {m : Nat} (hr : rightq m = true) (hm : 1 ≤ m) : heavq l m = lwq (lenf l m) m := by
  unfold heavq
  rw [if_pos hr, Int.toNat_natCast]
  obtain ⟨k, rfl⟩ : ∃ k, m = k + 1 := ⟨m - 1, by omega⟩
  exact (hv_lw _ (fun k => (lenf_bd l _ k).1) k).1
theorem lwq_bd (f : Nat → Int) (B : Int) (hf : ∀ k, 0 ≤ f k ∧ f k ≤ B) : ∀ k : Nat, 0 ≤ (lwq f k).1 ∧ (lwq f k).1 ≤ k ∧ 0 ≤ (lwq f k).2 ∧ (lwq f k).2 ≤ B
  | 0 => ⟨Int.le_refl _, Int.le_refl _, hf 0⟩
  | k + 1 => by
    have h := lwq_bd f B hf k
    have := hf k
    show 0 ≤ (if (lwq f k).2 < f k then ((k : Int), f k) else lwq f k).1 ∧ (if (lwq f k).2 < f k then ((k : Int), f k) else lwq f k).1 ≤ _ ∧ 0 ≤ (if (lwq f k).2 < f k then ((k : Int), f k) else lwq f k).2 ∧ (if (lwq f k).2 < f k then ((k : Int), f k) else lwq f k).2 ≤ B
    split
    · simp only; omega
    · omega
theorem walk_RouteSplits (A : Option Addr) (len cap : Nat) (l : List Key) (n : Int) (w : World) (hs : KeysAre w A len cap l) (hg : ∀ x ∈ l, x.good) (hn : I64 n) :
    Calls Try.prog 3 #[.slice A len cap, .int .i64 n] w fun e w' => e = .returned (.bool true) ∧ Below w.heap.size w w' := by
  have HS := Lib.hid hs
  have HL := Lib.hid hs.1
  have hle : len ≤ cap := hs.2.1
  have hm : cap ≤ 9223372036854775807 := by have := hs.2.2.1; unfold maxLen at this; omega
  by_cases hl : 60 < len
  · have d0 : decide ((60 : Int) < (len : Int)) = true := by simp; omega
    clear hs hg
    go_enter Try.func3, Try.ntmps3
    go_wp2_with (go_at_call 11; refine (awake05 _).mono ?_; rintro e v1 ⟨rfl, hb1⟩; have D1 := Lib.hid hb1; clear hb1)
    go_ret
    exact ⟨rfl, D1.out⟩
  have d0 : decide ((60 : Int) < (len : Int)) = false := by simp; omega
  by_cases hr : rightq n = true
  · obtain ⟨m, rfl, hm1, hm2⟩ := right_nat hr
    have HSp := Lib.hid (fun W hW => route_Split A len cap l m W hW hg hm2 hr (by omega))
    have HHv := Lib.hid (fun W hW => route_Heaviest A len cap l m W hW hg hm2 hr (by omega))
    rw [lwq_eq hr hm1] at HHv
    have HBt := Lib.hid (fun W => ref_Bits (m : Int) W hn)
    have hbi : rbitsq (m : Int) = bitsq m := by unfold rbitsq; rw [hr]; rfl
    rw [hbi] at HBt
    have hb0 := (bitsq_bd (m : Int)).1
    have HPt := Lib.hid (fun i W hW => ref05_Part A len cap l (m : Int) i W hW hg hn (by omega))
    have HLw := Lib.hid (fun (k : Nat) => lwq_bd (lenf l m) len (fun i => by have := lenf_bd l m i; have := HL.out; omega) k)
    generalize bitsq (m : Int) = B at *
    clear hs hg hn hr hbi hl
    go_enter Try.func3, Try.ntmps3
    focus (go_upto_region 11 with (first
      | (go_at_call 11; refine (awake05 _).mono ?_; rintro e v1 ⟨rfl, hb1⟩; have D1 := Lib.hid hb1; clear hb1)
      | (go_at_call 12; refine (HSp.out _ (slice_keep HS.out D1.out)).mono ?_; rintro e v2 ⟨g, vs, rfl, hp2, hb2, hg2⟩; have D2 := Lib.hid (D1.out.trans (hb2.mono D1.out.size)); have P2 := Lib.hid hp2; clear hp2 hb2 hg2)
      | (go_at_call 13; refine (HHv.out _ (slice_keep HS.out D2.out)).mono ?_; rintro e v3 ⟨rfl, hb3⟩; have D3 := Lib.hid (D2.out.trans (hb3.mono D2.out.size)); have P3 := Lib.hid (P2.out.call hb3); clear hb3)
      | (go_at_call 14; refine (HBt.out _).mono ?_; rintro e v4 ⟨rfl, rfl⟩)))
    obtain ⟨v0, hv0⟩ : ∃ v, vs[0]? = some v := ⟨_, List.getElem?_eq_getElem (by have := P3.out.len; omega)⟩
    have c0 := P3.out.blk.cellv (i := 0) (v := v0) (by simpa using hv0)
    obtain ⟨A0, n0, c00, rfl, hn0, -⟩ := (P3.out.own 0 v0 hv0).shape key_len
    have H00 := Lib.hid (show lenf l m 0 = (n0 : Int) from by unfold lenf; rw [hn0])
    have hmi : (0 : Int) < (m : Int) := by omega
    have hmi0 : 0 < m := by omega
    clear hn0 hv0
    go_quiet (fail)
    have D4 := Lib.hid (below_drewN D3.out nq)
    have P4 := Lib.hid (show PartsAt (v3.drewN nq) _ g m vs (partq l m) from P3.out.call (below_drewN (Below.refl _ _) nq))
    clear c0 P3 D3 P2
    generalize v3.drewN nq = v5 at *
    go_wp2
    go_loopw [8, 9, 50] (fun b mo i wr => ∃ k : Nat, k ≤ m ∧ i = .int .i64 k ∧ b = .int .i64 (lwq (lenf l m) k).1 ∧ mo = .int .i64 (lwq (lenf l m) k).2 ∧ Below v5.heap.size v5 wr) (fun _ _ i _ => m - (intOf i).toNat)
    case atStart => exact ⟨0, Nat.zero_le _, rfl, rfl, by rw [← H00.out]; rfl, Below.refl _ _⟩
    case round =>
      obtain ⟨k, hk, rfl, rfl, rfl, hbel⟩ := hrel
      have HB := Lib.hid hbel
      clear hbel
      by_cases hlt : k < m
      · have hki : (k : Int) < (m : Int) := by omega
        have PK := Lib.hid (P4.out.call HB.out)
        obtain ⟨v, hv⟩ : ∃ v, vs[k]? = some v := ⟨_, List.getElem?_eq_getElem (by have := PK.out.len; omega)⟩
        have c0 := PK.out.blk.cellv (i := k) (v := v) (by simpa using hv)
        obtain ⟨A2, n2, c2, rfl, hn2, hs2⟩ := (PK.out.own k v hv).shape key_len
        have HSl := Lib.hid hs2
        have HK := Lib.hid (slice_keep HS.out (D4.out.trans (HB.out.mono D4.out.size)))
        have hn3 : lenf l m k = (n2 : Int) := by unfold lenf; rw [hn2]
        have HN := Lib.hid (show lwq (lenf l m) (k + 1) = if (lwq (lenf l m) k).2 < n2 then ((k : Int), (n2 : Int)) else lwq (lenf l m) k from by show (if _ < lenf l m k then ((k : Int), lenf l m k) else _) = _; rw [hn3])
        have HSm := Lib.hid (fun W A3 n3 c3 hx hy => ref03_Same A2 A3 n2 c2 n3 c3 (partq l m k) (partq l m k) W hx hy)
        rw [parts_same] at HSm
        have hbd := HLw.out k
        have hn2b : (n2 : Int) ≤ len := by rw [← hn3]; have := lenf_bd l m k; have := HL.out; omega
        generalize lwq (lenf l m) k = s at *
        obtain ⟨b0, m0⟩ := s
        simp only at HN hbd
        obtain ⟨q1, q2, q3, q4⟩ := hbd
        clear hn2 hn3 hv hs2
        by_cases hgt : m0 < (n2 : Int)
        · rw [if_pos hgt] at HN
          have dg : decide (m0 < (n2 : Int)) = true := by simpa using hgt
          go_wp2_with (first
            | (go_at_call 16; refine (HPt.out k _ HK.out).mono ?_; rintro e v6 ⟨A3, n3, c3, rfl, hs3, hb3⟩; have E3 := Lib.hid (HB.out.trans (hb3.mono HB.out.size)); have S3 := Lib.hid hs3; have S2 := Lib.hid (slice_keep HSl.out hb3); clear hs3 hb3)
            | (go_at_call 15; refine (HSm.out _ _ _ _ S2.out S3.out).mono ?_; rintro e v7 ⟨rfl, hb7⟩; have E7 := Lib.hid (E3.out.trans (hb7.mono E3.out.size)); clear hb7))
          go_roundw
          case rel => exact ⟨k + 1, by omega, by go_num, by rw [HN.out], by rw [HN.out], E7.out⟩
          case measure => simp [intOf]; omega
        · rw [if_neg hgt] at HN
          have dg : decide (m0 < (n2 : Int)) = false := by simpa using hgt
          go_wp2_with (first
            | (go_at_call 16; refine (HPt.out k _ HK.out).mono ?_; rintro e v6 ⟨A3, n3, c3, rfl, hs3, hb3⟩; have E3 := Lib.hid (HB.out.trans (hb3.mono HB.out.size)); have S3 := Lib.hid hs3; have S2 := Lib.hid (slice_keep HSl.out hb3); clear hs3 hb3)
            | (go_at_call 15; refine (HSm.out _ _ _ _ S2.out S3.out).mono ?_; rintro e v7 ⟨rfl, hb7⟩; have E7 := Lib.hid (E3.out.trans (hb7.mono E3.out.size)); clear hb7))
          go_roundw
          case rel => exact ⟨k + 1, by omega, by go_num, by rw [HN.out], by rw [HN.out], E7.out⟩
          case measure => simp [intOf]; omega
      · obtain rfl : k = m := by omega
        have e1 : ((lwq (lenf l k) k).1 == (lwq (lenf l k) k).1) = true := by simp
        have e2 : ((lwq (lenf l k) k).2 == (lwq (lenf l k) k).2) = true := by simp
        generalize lwq (lenf l k) k = s at *
        go_wp2
        go_ret
        exact ⟨rfl, D4.out.trans (HB.out.mono D4.out.size)⟩
  · have hr' : rightq n = false := by simpa using hr
    have HSp := Lib.hid (fun W => route_Split_no A len cap n W hn hr')
    have HHv := Lib.hid (fun W => route_Heaviest_no A len cap l n W hn hr')
    rw [show heavq l n = (-1, 0) from if_neg hr] at HHv
    have HBt := Lib.hid (fun W => ref_Bits n W hn)
    rw [show rbitsq n = -1 from if_neg hr] at HBt
    clear hs hg hn hr hr' hl
    go_enter Try.func3, Try.ntmps3
    go_wp2_with (first
      | (go_at_call 11; refine (awake05 _).mono ?_; rintro e v1 ⟨rfl, hb1⟩; have D1 := Lib.hid hb1; clear hb1)
      | (go_at_call 12; refine (HSp.out _).mono ?_; rintro e v2 ⟨rfl, hb2⟩; have D2 := Lib.hid (D1.out.trans (hb2.mono D1.out.size)); clear hb2)
      | (go_at_call 13; refine (HHv.out _).mono ?_; rintro e v3 ⟨rfl, hb3⟩; have D3 := Lib.hid (D2.out.trans (hb3.mono D2.out.size)); clear hb3)
      | (go_at_call 14; refine (HBt.out _).mono ?_; rintro e v4 ⟨rfl, rfl⟩))
    go_ret
    exact ⟨rfl, D3.out⟩
end Go.Proofs.Ytfeccjjheiillaa
