/- SeriesAnyOrder: the walk. -/
import Derived.Test.YtfeccjjheiillaaW08
import Derived.Test.YtfeccjjheiillaaSerO
import Derived.Test.YtfeccjjheiillaaSub
namespace Go.Proofs.Ytfeccjjheiillaa
open Go.RowKit
set_option linter.unusedSimpArgs false
set_option linter.unusedVariables false
set_option maxHeartbeats 8000000
set_option maxRecDepth 100000
theorem back_next {l : List Smp} {m : Nat} {x : Smp} (h : l[m]? = some x) : (l.drop m).reverse = (l.drop (m + 1)).reverse ++ [x] := by
  have hlt := (List.getElem?_eq_some_iff.1 h).1
  rw [List.drop_eq_getElem_cons hlt, List.reverse_cons, (List.getElem?_eq_some_iff.1 h).2]
theorem walk_SeriesAnyOrder (room : Int) (A : Option Addr) (len cap : Nat) (l : List Smp) (turn : Int) (w : World) (h0 : I64 room) (hs : SmpsAre w A len cap l) (hg : ∀ x ∈ l, x.good) (h2 : U8 turn) :
    Calls Try.prog 4 #[.int .i64 room, .slice A len cap, .int .u8 turn] w fun e w' => e = .returned (.bool true) ∧ Below w.heap.size w w' := by
  have HS := Lib.hid hs
  have HL := Lib.hid hs.1
  have hle : len ≤ cap := hs.2.1
  have hm : cap ≤ 9223372036854775807 := by have := hs.2.2.1; unfold maxLen at this; omega
  clear hs hg
  by_cases hr : room < 1 ∨ 256 < room
  · have hr2 : (decide (room < 1) = true) ∨ (decide (room < 1) = false ∧ decide (256 < room) = true) := by simp only [decide_eq_true_eq, decide_eq_false_iff_not]; omega
    clear hr
    rcases hr2 with r1 | ⟨r1, r2⟩
    all_goals
      go_enter Try.func4, Try.ntmps4
      go_wp2_with (go_at_call 17; refine (awake08 _).mono ?_; rintro e v1 ⟨rfl, hb1⟩; have E1 := Lib.hid hb1; clear hb1)
      go_ret
      exact ⟨rfl, E1.out⟩
  have r1 : decide (room < 1) = false := by simp; omega
  have r2 : decide (256 < room) = false := by simp; omega
  by_cases hl : 40 < len
  · have d0 : decide ((40 : Int) < (len : Int)) = true := by simp; omega
    go_enter Try.func4, Try.ntmps4
    go_wp2_with (go_at_call 17; refine (awake08 _).mono ?_; rintro e v1 ⟨rfl, hb1⟩; have E1 := Lib.hid hb1; clear hb1)
    go_ret
    exact ⟨rfl, E1.out⟩
  have d0 : decide ((40 : Int) < (len : Int)) = false := by simp; omega
  obtain ⟨R, rfl⟩ : ∃ R : Nat, room = R := ⟨room.toNat, by omega⟩
  have HR := Lib.hid (show 1 ≤ R ∧ R ≤ 256 by omega)
  obtain ⟨T, rfl⟩ : ∃ T : Nat, turn = T := ⟨turn.toNat, by have := h2.1; omega⟩
  have HT := Lib.hid h2
  clear hr h0 h2
  go_enter Try.func4, Try.ntmps4
  go_wp2_with (go_at_call 17; refine (awake08 _).mono ?_; rintro e v1 ⟨rfl, hb1⟩; have E1 := Lib.hid hb1; clear hb1)
  go_loopw [31] (fun i wr => ∃ k : Nat, k ≤ len ∧ i = .int .i64 k ∧ Unl l k ∧ Below w.heap.size w wr) (fun i _ => len - (intOf i).toNat)
  case atStart => exact ⟨0, Nat.zero_le _, rfl, unl_zero l, E1.out⟩
  case round =>
    obtain ⟨k, hk, rfl, hun, hbel⟩ := hrel
    have HU := Lib.hid hun
    have HB := Lib.hid hbel
    clear hun
    by_cases hlt : k < len
    · obtain ⟨b, off, x, rfl, hx, hb, t0, t1⟩ := HS.out.at_ hlt
      have kt0 := (hbel.cell (p := ⟨b, off + k * 2, none⟩) hb).trans t0
      have kt1 := (hbel.cell (p := ⟨b, off + k * 2 + 1, none⟩) hb).trans t1
      have hki : (k : Int) < (len : Int) := by omega
      have HN := Lib.hid (fun h => unl_next hx HU.out h)
      have N1 := Lib.hid (Blk.new wr 34 #[.int .i64 x.tick, .int .i64 x.value])
      have HB2 := Lib.hid (HB.out.alloc HB.out.size (.cells #[.int .i64 x.tick, .int .i64 x.value] 34))
      clear hx hb t0 t1 hbel E1
      go_wp2
      generalize wr.alloc (.cells #[.int .i64 x.tick, .int .i64 x.value] 34) = wo at *
      generalize wr.heap.size = gx at *
      go_loopw [40] (fun j wi => ∃ q : Nat, q ≤ k ∧ j = .int .i64 q ∧ (∀ a z, a < q → l[a]? = some z → z.tick ≠ x.tick) ∧ Below w.heap.size w wi ∧ Blk wi gx 34 #[.int .i64 x.tick, .int .i64 x.value]) (fun j _ => k - (intOf j).toNat)
      case atStart => exact ⟨0, Nat.zero_le _, rfl, fun a z h => by omega, HB2.out, N1.out⟩
      case round =>
        obtain ⟨q, hq, rfl, hne, hbi, hbx⟩ := hrel
        have HNE := Lib.hid hne
        have HBI := Lib.hid hbi
        have HBX := Lib.hid hbx
        clear hne
        by_cases hlt2 : q < k
        · obtain ⟨b2, off2, y, hab, hy, hb2, s0, s1⟩ := HS.out.at_ (show q < len by omega)
          cases hab
          have ks0 := (hbi.cell (p := ⟨b, off + q * 2, none⟩) hb2).trans s0
          have ks1 := (hbi.cell (p := ⟨b, off + q * 2 + 1, none⟩) hb2).trans s1
          have cx := (hbx.alloc (.cells #[.int .i64 y.tick, .int .i64 y.value] 34)).cellv (i := 0) (v := .int .i64 x.tick) rfl
          have hqi : (q : Int) < (k : Int) := by omega
          have HY := Lib.hid hy
          clear hy hb2 s0 s1 hbi hbx
          by_cases he : x.tick = y.tick
          · have de : (x.tick == y.tick) = true := by simpa using he
            clear he
            go_wp2
            go_ret
            exact ⟨rfl, HBI.out.alloc HBI.out.size _⟩
          · have de : (x.tick == y.tick) = false := by simpa using he
            have HE := Lib.hid he
            clear he
            go_wp2
            go_roundw
            case rel => exact ⟨q + 1, by omega, by go_num, fun a z ha hz => by
              by_cases haq : a = q
              · subst haq; have := HY.out; rw [this] at hz; cases hz; exact fun h => HE.out h.symm
              · exact HNE.out a z (by omega) hz, HBI.out.alloc HBI.out.size _, HBX.out.alloc _⟩
            case measure => simp [intOf]; omega
        · obtain rfl : q = k := by omega
          clear hbi hbx
          go_wp2
          go_roundw
          case rel => exact ⟨q + 1, by omega, by go_num, HN.out HNE.out, HBI.out⟩
          case measure => simp [intOf]; omega
    · have HD := Lib.hid (unl_dst (l := l) (by have e : k = len := by omega
                                               have h9 := HU.out
                                               rw [e] at h9; rw [HL.out]; exact h9))
      clear hbel E1
      have hT : (T : Int) ≤ 255 := HT.out.2
      have hmod : (T : Int) % ((len : Int) + 1) = ((T % (len + 1) : Nat) : Int) := by simp
      have hK := Nat.mod_lt T (show 0 < len + 1 by omega)
      generalize T % (len + 1) = K at *
      go_wp2
      rw [hmod]
      clear hmod
      have HO0 := Own.nil wr w.heap.size 34 2 Smp.cells
      have HDr := Lib.hid (show ([] : List Smp) = (l.drop len).reverse by rw [List.drop_eq_nil_of_le (by have := HL.out; omega)]; rfl)
      go_loopw [12, 13] (fun v i wq => ∃ m : Nat, ∃ A2 n2 c2, K ≤ m ∧ m ≤ len ∧ i = .int .i64 ((m : Int) - 1) ∧ v = .slice A2 n2 c2 ∧ OwnS wq w.heap.size (.slice A2 n2 c2) ((l.drop m).reverse) ∧ Below w.heap.size w wq) (fun _ i _ => (intOf i + 1).toNat)
      case atStart => exact ⟨len, none, 0, 0, by omega, Nat.le_refl _, rfl, rfl, by rw [← HDr.out]; exact HO0, HB.out⟩
      case round =>
        obtain ⟨m, A2, n2, c2, hm1, hm2, rfl, rfl, ho, hbel⟩ := hrel
        have HO := Lib.hid ho
        have HBq := Lib.hid hbel
        clear ho HO0
        by_cases hlt3 : K < m
        · obtain ⟨j, rfl⟩ : ∃ j, m = j + 1 := ⟨m - 1, by omega⟩
          have e9 : ((j + 1 : Nat) : Int) - 1 = (j : Int) := by omega
          rw [e9]
          clear e9
          obtain ⟨b, off, x, rfl, hx, hb, t0, t1⟩ := HS.out.at_ (show j < len by omega)
          have kt0 := (hbel.cell (p := ⟨b, off + j * 2, none⟩) hb).trans t0
          have kt1 := (hbel.cell (p := ⟨b, off + j * 2 + 1, none⟩) hb).trans t1
          have hji : (j : Int) < (len : Int) := by omega
          have hjk : (K : Int) ≤ (j : Int) := by omega
          have HN := Lib.hid (back_next hx)
          have HLo := Lib.hid (show ((l.drop (j + 1)).reverse).length < 1000000 by rw [List.length_reverse, List.length_drop]; have := HL.out; omega)
          clear hx hb t0 t1 hbel
          go_wp2_with (at_builtin; refine push_smp _ rfl _ _ rfl w.heap.size _ _ rfl (Own.alloc HO.out _) wr.heap.size _ 1 x rfl (Blk.new wr _ _) HLo.out (by have := HBq.out.size; simp; omega) ?_; intro v2 w2 ho2 hb2 hg2; obtain ⟨A3, n3, c3, rfl, -, -⟩ := ho2.shape smp_len; have O3 := Lib.hid ho2; have B3 := Lib.hid ((HBq.out.alloc HBq.out.size _).trans hb2); clear ho2 hb2 hg2)
          go_roundw
          case rel => exact ⟨j, A3, n3, c3, by omega, by omega, rfl, rfl, by rw [HN.out]; exact O3.out, B3.out⟩
          case measure => first | (simp [intOf]; done) | (simp [intOf]; omega)
        · obtain rfl : m = K := by omega
          clear hbel
          have HPm := Lib.hid (serq_perm HR.out.1 (turn_perm l m) HD.out)
          have HLc := Lib.hid (show ((l.drop m).reverse).length + m < 1000000 by rw [List.length_reverse, List.length_drop]; have := HL.out; omega)
          have HLt := Lib.hid (show ((l.drop m).reverse ++ l.take m).length = len by rw [List.length_append, List.length_reverse, List.length_drop, List.length_take]; have := HL.out; omega)
          have HLs := Lib.hid (len_serq HR.out.1 l)
          have HO1 := Lib.hid (fun W hW => series_Of R A len cap l W hW (by omega) HR.out.1 HR.out.2)
          have HO2 := Lib.hid (fun W A5 c5 hW => series_Of R A5 len c5 ((l.drop m).reverse ++ l.take m) W hW (by omega) HR.out.1 HR.out.2)
          rw [HPm.out] at HO2
          have HO3 := Lib.hid (fun W hW => ref08_Of R A len cap l W hW (by omega) HR.out.1 HR.out.2)
          generalize serq R l = X at *
          have hX : decide (X = X) = true := decide_eq_true rfl
          have HSm := Lib.hid (fun A1 B1 n1 c1 n2 c2 W h1 h2 => ref08_Same A1 B1 n1 c1 n2 c2 X X W h1 h2)
          rw [hX] at HSm
          clear hX HPm HU HD
          rcases A with _ | ad
          · obtain ⟨rfl, rfl⟩ := HS.out.2.2.2.1 rfl
            obtain rfl : m = 0 := by omega
            go_wp2_with (first
              | (at_builtin; refine cat_smp _ rfl (.tmp 72) (.tmp 75) rfl w.heap.size (.slice A2 n2 c2) _ rfl HO.out none _ _ (l.take _) rfl (slice_take (slice_keep HS.out HBq.out) hm2) HLc.out HBq.out.size ?_; intro v5 w5 ho5 hb5 hg5; obtain ⟨A5, n5, c5, rfl, hn5, hs5⟩ := ho5.shape smp_len; rw [HLt.out] at hn5; obtain rfl := hn5; have M5 := Lib.hid hs5; have E5 := Lib.hid (HBq.out.trans hb5); clear ho5 hb5 hg5 hs5)
              | (go_at_call 18; (with_reducible refine (HO1.out _ (slice_keep HS.out E5.out)).mono ?_); rintro e v6 ⟨g6, u6, rfl, hi6⟩; have I6 := Lib.hid hi6.1; have E6 := Lib.hid (E5.out.trans (hi6.2.2.1.mono E5.out.size)); have M6 := Lib.hid (slice_keep M5.out hi6.2.2.1); clear hi6)
              | (go_at_call 18; (with_reducible refine (HO2.out _ A5 c5 M6.out).mono ?_); rintro e v7 ⟨g7, u7, rfl, hi7⟩; have I7 := Lib.hid (I6.out.call hi7.2.2.1); have J7 := Lib.hid hi7.1; have E7 := Lib.hid (E6.out.trans (hi7.2.2.1.mono E6.out.size)); clear hi7))
            go_wp2_with fail
            refine (series_List g6 u6 X _ _ I7.out (by have := HLs.out; have := HR.out.2; omega)).mono ?_
            rintro e v8 ⟨A8, n8, c8, rfl, ho8, hb8⟩
            have L8 := Lib.hid (ho8.is smp_len)
            have I8 := Lib.hid (I7.out.call hb8)
            have J8 := Lib.hid (J7.out.call hb8)
            have E8 := Lib.hid (E7.out.trans (hb8.mono E7.out.size))
            clear ho8 hb8 I7 J7
            go_wp2_with fail
            refine (series_List g7 u7 X _ _ J8.out (by have := HLs.out; have := HR.out.2; omega)).mono ?_
            rintro e v9 ⟨A9, n9, c9, rfl, ho9, hb9⟩
            have L9 := Lib.hid (ho9.is smp_len)
            have K9 := Lib.hid (slice_keep L8.out hb9)
            have I9 := Lib.hid (I8.out.call hb9)
            have E9 := Lib.hid (E8.out.trans (hb9.mono E8.out.size))
            clear ho9 hb9 I8 J8 L8
            go_wp2_with fail
            refine (HSm.out A8 A9 n8 c8 n9 c9 _ K9.out L9.out).mono ?_
            rintro e v10 ⟨rfl, hb10⟩
            have I10 := Lib.hid (I9.out.call hb10)
            have E10 := Lib.hid (E9.out.trans (hb10.mono E9.out.size))
            clear hb10 I9 K9 L9
            go_wp2_with fail
            refine (series_List g6 u6 X _ _ I10.out (by have := HLs.out; have := HR.out.2; omega)).mono ?_
            rintro e v11 ⟨A11, n11, c11, rfl, ho11, hb11⟩
            have L11 := Lib.hid (ho11.is smp_len)
            have E11 := Lib.hid (E10.out.trans (hb11.mono E10.out.size))
            clear ho11 hb11
            go_wp2_with fail
            refine (HO3.out _ (slice_keep HS.out E11.out)).mono ?_
            rintro e v12 ⟨A12, n12, c12, rfl, hs12, hb12, -⟩
            have L12 := Lib.hid hs12
            have K12 := Lib.hid (slice_keep L11.out hb12)
            have E12 := Lib.hid (E11.out.trans (hb12.mono E11.out.size))
            clear hs12 hb12 L11
            go_wp2_with fail
            refine (HSm.out A11 A12 n11 c11 n12 c12 _ K12.out L12.out).mono ?_
            rintro e v13 ⟨rfl, hb13⟩
            go_wp2
            go_ret
            exact ⟨rfl, E12.out.trans (hb13.mono E12.out.size)⟩
          · go_wp2_with (first
              | (at_builtin; refine cat_smp _ rfl (.tmp 72) (.tmp 75) rfl w.heap.size (.slice A2 n2 c2) _ rfl HO.out (some ad) _ _ (l.take _) rfl (slice_take (slice_keep HS.out HBq.out) hm2) HLc.out HBq.out.size ?_; intro v5 w5 ho5 hb5 hg5; obtain ⟨A5, n5, c5, rfl, hn5, hs5⟩ := ho5.shape smp_len; rw [HLt.out] at hn5; obtain rfl := hn5; have M5 := Lib.hid hs5; have E5 := Lib.hid (HBq.out.trans hb5); clear ho5 hb5 hg5 hs5)
              | (go_at_call 18; (with_reducible refine (HO1.out _ (slice_keep HS.out E5.out)).mono ?_); rintro e v6 ⟨g6, u6, rfl, hi6⟩; have I6 := Lib.hid hi6.1; have E6 := Lib.hid (E5.out.trans (hi6.2.2.1.mono E5.out.size)); have M6 := Lib.hid (slice_keep M5.out hi6.2.2.1); clear hi6)
              | (go_at_call 18; (with_reducible refine (HO2.out _ A5 c5 M6.out).mono ?_); rintro e v7 ⟨g7, u7, rfl, hi7⟩; have I7 := Lib.hid (I6.out.call hi7.2.2.1); have J7 := Lib.hid hi7.1; have E7 := Lib.hid (E6.out.trans (hi7.2.2.1.mono E6.out.size)); clear hi7))
            go_wp2_with fail
            refine (series_List g6 u6 X _ _ I7.out (by have := HLs.out; have := HR.out.2; omega)).mono ?_
            rintro e v8 ⟨A8, n8, c8, rfl, ho8, hb8⟩
            have L8 := Lib.hid (ho8.is smp_len)
            have I8 := Lib.hid (I7.out.call hb8)
            have J8 := Lib.hid (J7.out.call hb8)
            have E8 := Lib.hid (E7.out.trans (hb8.mono E7.out.size))
            clear ho8 hb8 I7 J7
            go_wp2_with fail
            refine (series_List g7 u7 X _ _ J8.out (by have := HLs.out; have := HR.out.2; omega)).mono ?_
            rintro e v9 ⟨A9, n9, c9, rfl, ho9, hb9⟩
            have L9 := Lib.hid (ho9.is smp_len)
            have K9 := Lib.hid (slice_keep L8.out hb9)
            have I9 := Lib.hid (I8.out.call hb9)
            have E9 := Lib.hid (E8.out.trans (hb9.mono E8.out.size))
            clear ho9 hb9 I8 J8 L8
            go_wp2_with fail
            refine (HSm.out A8 A9 n8 c8 n9 c9 _ K9.out L9.out).mono ?_
            rintro e v10 ⟨rfl, hb10⟩
            have I10 := Lib.hid (I9.out.call hb10)
            have E10 := Lib.hid (E9.out.trans (hb10.mono E9.out.size))
            clear hb10 I9 K9 L9
            go_wp2_with fail
            refine (series_List g6 u6 X _ _ I10.out (by have := HLs.out; have := HR.out.2; omega)).mono ?_
            rintro e v11 ⟨A11, n11, c11, rfl, ho11, hb11⟩
            have L11 := Lib.hid (ho11.is smp_len)
            have E11 := Lib.hid (E10.out.trans (hb11.mono E10.out.size))
            clear ho11 hb11
            go_wp2_with fail
            refine (HO3.out _ (slice_keep HS.out E11.out)).mono ?_
            rintro e v12 ⟨A12, n12, c12, rfl, hs12, hb12, -⟩
            have L12 := Lib.hid hs12
            have K12 := Lib.hid (slice_keep L11.out hb12)
            have E12 := Lib.hid (E11.out.trans (hb12.mono E11.out.size))
            clear hs12 hb12 L11
            go_wp2_with fail
            refine (HSm.out A11 A12 n11 c11 n12 c12 _ K12.out L12.out).mono ?_
            rintro e v13 ⟨rfl, hb13⟩
            go_wp2
            go_ret
            exact ⟨rfl, E12.out.trans (hb13.mono E12.out.size)⟩
end Go.Proofs.Ytfeccjjheiillaa
