/- SeriesClones: the walk. -/
import Derived.Test.YtjodpffdlggjgaaW08
namespace Go.Proofs.Ytjodpffdlggjgaa
open Go.RowKit
set_option linter.unusedSimpArgs false
set_option linter.unusedVariables false
set_option maxHeartbeats 8000000
set_option maxRecDepth 100000
theorem serq_next2 {l m : List Smp} {k : Nat} {x : Smp} (room : Nat) (h : m[k]? = some x) : serq room (l ++ m.take (k + 1)) = putv (serq room (l ++ m.take k)) room x := by
  unfold serq; rw [take_snoc2 h, ← List.append_assoc, List.foldl_append]; rfl
theorem NewSer.in_ {w w' : World} {l : List Smp} {room : Int} {g : Nat} {v : Value} (h1 : SerAt w' g v l room) (h2 : ∀ k, foot g v k → w.heap.size ≤ k) (h3 : Below w.heap.size w w') : SerIn w.heap.size w w' g v l room := ⟨h1, h2, h3, h3.size⟩
theorem series_Trim_nil5 (w : World) : Calls Try.prog 17 #[.pointer none, .int .i64 5] w fun e w' => e = .returned (.int .i64 0) ∧ w = w' := series_Trim_nil 5 w
theorem walk_SeriesClones (room : Int) (A : Option Addr) (len cap : Nat) (l : List Smp) (B : Option Addr) (len2 cap2 : Nat) (m : List Smp) (w : World) (h0 : I64 room) (hs : SmpsAre w A len cap l) (hg : ∀ x ∈ l, x.good) (hs2 : SmpsAre w B len2 cap2 m) (hg2 : ∀ x ∈ m, x.good) :
    Calls Try.prog 5 #[.int .i64 room, .slice A len cap, .slice B len2 cap2] w fun e w' => e = .returned (.bool true) ∧ Below w.heap.size w w' := by
  have HS := Lib.hid hs
  have HS2 := Lib.hid hs2
  have hle : len ≤ cap := hs.2.1
  have hm : cap ≤ 9223372036854775807 := by have := hs.2.2.1; unfold maxLen at this; omega
  have hle2 : len2 ≤ cap2 := hs2.2.1
  have hm2 : cap2 ≤ 9223372036854775807 := by have := hs2.2.2.1; unfold maxLen at this; omega
  clear hs hg hs2 hg2
  by_cases hl : 40 < len
  · have d0 : decide ((40 : Int) < (len : Int)) = true := by simp; omega
    go_enter Try.func5, Try.ntmps5
    go_wp2_with fail
    refine (awake08 _).mono ?_
    rintro e v1 ⟨rfl, hb1⟩
    go_wp2
    go_ret
    exact ⟨rfl, hb1⟩
  have d0 : decide ((40 : Int) < (len : Int)) = false := by simp; omega
  by_cases hl2 : 40 < len2
  · have d2 : decide ((40 : Int) < (len2 : Int)) = true := by simp; omega
    go_enter Try.func5, Try.ntmps5
    go_wp2_with fail
    refine (awake08 _).mono ?_
    rintro e v1 ⟨rfl, hb1⟩
    go_wp2
    go_ret
    exact ⟨rfl, hb1⟩
  have d2 : decide ((40 : Int) < (len2 : Int)) = false := by simp; omega
  by_cases hr : room < 1 ∨ 256 < room
  · have HO := Lib.hid (fun W hW => series_Of_nil room A len cap l W hW (by omega) hr)
    have HPa := Lib.hid (fun W => series_Put_nil 1 1 W (by decide))
    have HPb := Lib.hid (fun W => series_Put_bad none (-1) 1 3 W (by omega) (by decide))
    have hr2 : (decide (room < 1) = true) ∨ (decide (room < 1) = false ∧ decide (256 < room) = true) := by
      rcases hr with h | h
      · exact .inl (by simp; omega)
      · by_cases h1 : room < 1
        · exact .inl (by simp; omega)
        · exact .inr ⟨by simp; omega, by simp; omega⟩
    clear hr
    rcases hr2 with r1 | ⟨r1, r2⟩
    all_goals
      go_enter Try.func5, Try.ntmps5
      go_wp2_with fail
      refine (awake08 _).mono ?_
      rintro e v1 ⟨rfl, hb1⟩
      have E1 := Lib.hid hb1
      clear hb1
      go_wp2_with fail
      refine (HO.out _ (slice_keep HS.out E1.out)).mono ?_
      rintro e v2 ⟨rfl, hb2⟩
      have E2 := Lib.hid (E1.out.trans (hb2.mono E1.out.size))
      clear hb2
      go_wp2_with fail
      refine (series_Last_nil _).mono ?_
      rintro e v3 ⟨rfl, hb3⟩
      have E3 := Lib.hid (E2.out.trans (hb3.mono E2.out.size))
      have E4 := Lib.hid (E3.out.alloc E3.out.size (.cells #[.int .i64 0, .int .i64 0] 35))
      clear hb3
      go_wp2_with fail
      refine (HPa.out _).mono ?_
      rintro e v4 ⟨rfl, rfl⟩
      go_wp2_with fail
      refine (HPb.out _).mono ?_
      rintro e v5 ⟨rfl, rfl⟩
      go_wp2_with (first
        | (go_at_call 25; refine (series_Len_nil _).mono ?_; rintro e v6 ⟨rfl, rfl⟩)
        | (go_at_call 17; refine (series_Trim_nil5 _).mono ?_; rintro e v7 ⟨rfl, rfl⟩)
        | (go_at_call 26; refine (series_Clone_nil _).mono ?_; rintro e v8 ⟨rfl, rfl⟩))
      go_ret
      exact ⟨rfl, E4.out⟩
  · obtain ⟨R, rfl⟩ : ∃ R : Nat, room = R := ⟨room.toNat, by omega⟩
    have r1 : 1 ≤ R := by omega
    have r2 : R ≤ 256 := by omega
    have HR := Lib.hid (And.intro r1 r2)
    have HO := Lib.hid (fun W hW => series_Of R A len cap l W hW (by omega) r1 r2)
    have HL := Lib.hid HS.out.1
    have HL2 := Lib.hid HS2.out.1
    have HLn := Lib.hid (fun l => len_serq r1 l)
    clear hr r1 r2 h0
    go_enter Try.func5, Try.ntmps5
    go_wp2_with fail
    refine (awake08 _).mono ?_
    rintro e v1 ⟨rfl, hb1⟩
    have E1 := Lib.hid hb1
    clear hb1
    go_wp2_with fail
    refine (HO.out _ (slice_keep HS.out E1.out)).mono ?_
    rintro e v2 ⟨g, v, rfl, hi⟩
    have I2 := Lib.hid hi
    have E2 := Lib.hid (E1.out.trans (hi.2.2.1.mono E1.out.size))
    clear hi
    go_wp2_with fail
    refine (series_Clone g v _ _ _ I2.out.1 (by have := HLn.out l; have := HR.out.2; omega)).mono ?_
    rintro e v3 ⟨g2, u, rfl, k1, k2, k3⟩
    have C3 := Lib.hid (NewSer.in_ k1 k2 k3)
    clear k1 k2 k3
    go_wp2_with fail
    go_loopw [77] (fun i wr => ∃ k : Nat, ∃ u : Value, k ≤ len2 ∧ i = .int .i64 k ∧ SerIn v2.heap.size v2 wr g2 u (serq R (l ++ m.take k)) R) (fun i _ => len2 - (intOf i).toNat)
    case atStart => exact ⟨0, u, Nat.zero_le _, rfl, by simpa using C3.out⟩
    case round =>
      obtain ⟨k, u', hk, rfl, hin⟩ := hrel
      have HI := Lib.hid hin
      clear hin
      by_cases hlt : k < len2
      · obtain ⟨b, off, x, rfl, hx, hb, t0, t1⟩ := HS2.out.at_ hlt
        have hb2 : b < v2.heap.size := Nat.lt_of_lt_of_le hb E2.out.size
        have kt0 := (HI.out.2.2.1.cell (p := ⟨b, off + k * 2, none⟩) hb2).trans ((E2.out.cell (p := ⟨b, off + k * 2, none⟩) hb).trans t0)
        have kt1 := (HI.out.2.2.1.cell (p := ⟨b, off + k * 2 + 1, none⟩) hb2).trans ((E2.out.cell (p := ⟨b, off + k * 2 + 1, none⟩) hb).trans t1)
        have hki : (k : Int) < (len2 : Int) := by omega
        have HN := Lib.hid (serq_next2 (l := l) R hx)
        have I3 := Lib.hid (HI.out.call (w' := wr.alloc (.cells #[.int .i64 x.tick, .int .i64 x.value] 35)) ((Below.refl _ wr).alloc (Nat.le_refl _) _))
        clear hx hb hb2 t0 t1
        go_wp2_with (go_at_call 19; refine (series_Putv g2 u' _ R x _ I3.out.1 (srt_serq _ _) (HLn.out _) HR.out.1 (by have := HR.out.2; omega)).mono ?_; intro e w1 hp; obtain ⟨rfl, v', hi⟩ := I3.out.post hp; have I4 := Lib.hid hi; clear hi hp)
        go_roundw
        case rel => exact ⟨k + 1, v', by omega, by go_num, by rw [HN.out]; exact I4.out⟩
        case measure => simp [intOf]; omega
      · have hE : m.take k = m := List.take_of_length_le (by have := HL2.out; omega)
        rw [hE] at HI
        clear hE
        have E4 := Lib.hid (E2.out.trans (HI.out.2.2.1.mono E2.out.size))
        have SA := Lib.hid (I2.out.1.call HI.out.2.2.1)
        have HA := Lib.hid (Own.nil wr wr.heap.size 35 2 Smp.cells)
        have hl40 : ([] : List Smp).length + len < 1000000 := by simp; omega
        have hl41 : ([] ++ l : List Smp).length + len2 < 1000000 := by have := HL.out; simp; omega
        have hle4 : wr.heap.size ≤ wr.heap.size := Nat.le_refl _
        have HX := Lib.hid (And.intro hl40 hl41)
        clear hl40 hl41
        go_upto_region 19 with (first
          | (at_builtin; refine cat_smp _ rfl (.tmp 88) (.tmp 89) rfl wr.heap.size (.slice none 0 0) [] rfl HA.out A len cap l rfl (slice_keep HS.out E4.out) HX.out.1 hle4 ?_; intro v5 w5 ho5 hb5 hg5; have O5 := Lib.hid ho5; have B5 := Lib.hid hb5; have hle5 := hb5.size; clear ho5 hb5 hg5)
          | (at_builtin; refine cat_smp _ rfl (.tmp 90) (.tmp 91) rfl wr.heap.size v5 ([] ++ l) rfl O5.out B len2 cap2 m rfl (slice_keep HS2.out (E4.out.trans (B5.out.mono E4.out.size))) HX.out.2 hle5 ?_; intro v6 w6 ho6 hb6 hg6; have O6 := Lib.hid ho6; have B6 := Lib.hid hb6; clear ho6 hb6 hg6))
        have G6 := B5.out.trans B6.out
        have SA6 := Lib.hid (SA.out.call G6)
        have CI6 := Lib.hid (HI.out.1.call G6)
        have E6 := Lib.hid (E4.out.trans (G6.mono E4.out.size))
        have HM := Lib.hid HX.out.1
        rw [List.nil_append] at O6
        obtain ⟨A6, n6, c6, rfl, hn6, hs6⟩ := O6.out.shape smp_len
        have M6 := Lib.hid hs6
        have hn7 : n6 ≤ 80 := by rw [hn6, List.length_append]; have := HL.out; have := HL2.out; omega
        clear G6 hn6 hs6 O5 O6 B5 B6 hle5 HX hle4 E4 SA HI
        go_wp2_with fail
        refine (ref08_Of R A len cap l _ (slice_keep HS.out E6.out) (by omega) HR.out.1 HR.out.2).mono ?_
        rintro e w7 ⟨A7, n7, c7, rfl, hs7, hb7⟩
        have SA7 := Lib.hid (SA6.out.call hb7)
        have CI7 := Lib.hid (CI6.out.call hb7)
        have E7 := Lib.hid (E6.out.trans (hb7.mono E6.out.size))
        have M7 := Lib.hid (slice_keep M6.out hb7)
        have L7 := Lib.hid hs7
        clear hs7 hb7 SA6 CI6 M6
        go_wp2_with fail
        refine (told_true g v _ _ A7 n7 c7 _ SA7.out L7.out (by have := HLn.out l; have := HR.out.2; omega)).mono ?_
        rintro e w8 ⟨rfl, hb8⟩
        have CI8 := Lib.hid (CI7.out.call hb8)
        have E8 := Lib.hid (E7.out.trans (hb8.mono E7.out.size))
        have M8 := Lib.hid (slice_keep M7.out hb8)
        clear hb8 SA7 CI7 M7
        go_wp2_with fail
        refine (ref08_Of R A6 n6 c6 (l ++ m) _ M8.out (by omega) HR.out.1 HR.out.2).mono ?_
        rintro e w9 ⟨A9, n9, c9, rfl, hs9, hb9⟩
        have CI9 := Lib.hid (CI8.out.call hb9)
        have E9 := Lib.hid (E8.out.trans (hb9.mono E8.out.size))
        have L9 := Lib.hid hs9
        clear hs9 hb9 CI8
        go_wp2_with fail
        refine (told_true g2 _ _ _ A9 n9 c9 _ CI9.out L9.out (by have := HLn.out (l ++ m); have := HR.out.2; omega)).mono ?_
        rintro e w10 ⟨rfl, hb10⟩
        have E10 := Lib.hid (E9.out.trans (hb10.mono E9.out.size))
        clear hb10
        go_wp2
        go_ret
        exact ⟨rfl, E10.out⟩
end Go.Proofs.Ytjodpffdlggjgaa
