/- The reference's series: Put. -/
import Derived.Test.YtfeccjjheiillaaRef08
namespace Go.Proofs.Ytfeccjjheiillaa
open Go.RowKit
set_option linter.unusedSimpArgs false
set_option linter.unusedVariables false
set_option maxHeartbeats 4000000
set_option maxRecDepth 100000
theorem putq_cases (l : List Smp) (room : Nat) (x : Smp) : (room < (putL l x).length ∧ putq l room x = (putL l x).drop 1) ∨ (¬ room < (putL l x).length ∧ putq l room x = putL l x) := by
  unfold putq
  by_cases h : room < (putL l x).length
  · exact .inl ⟨h, if_pos h⟩
  · exact .inr ⟨h, if_neg h⟩
theorem putL_len (l : List Smp) (x : Smp) : (putL l x).length = (lows l x.tick).length + (highs l x.tick).length + 1 := by unfold putL; simp; omega
theorem putL_cons (l : List Smp) (x : Smp) : ∃ y T, putL l x = y :: T := by
  cases h : putL l x with
  | nil => have := putL_len l x; rw [h] at this; simp at this
  | cons y T => exact ⟨y, T, rfl⟩
theorem Own.some_ {α : Type} {w : World} {base e size : Nat} {cells : α → List Value} {v : Value} {l : List α} (h : Own w base e size cells v l) (hsz : ∀ x, (cells x).length = size) (hl : 0 < l.length) : ∃ g n c, v = .slice (some ⟨g, 0, none⟩) n c ∧ n = l.length := by
  rcases h.2 with ⟨rfl, hn⟩ | ⟨g, cap, cur, rfl, _⟩
  · omega
  · exact ⟨g, _, cap, rfl, rfl⟩
theorem ref08_Put (A : Option Addr) (len cap : Nat) (l : List Smp) (room : Nat) (x : Smp) (w : World) (hs : SmpsAre w A len cap l) (hn : len ≤ 10000) (hsrt : Srt l) (hroom : room ≤ 1000000) :
    Calls Try.prog 40 #[.slice A len cap, .int .i64 room, .agg #[.int .i64 x.tick, .int .i64 x.value]] w (PutS w (putq l room x)) := by
  have HS := Lib.hid hs
  have HL := Lib.hid hs.1
  have HSr := Lib.hid hsrt
  have HR := Lib.hid (show room ≤ 1000000 from hroom)
  have HQ := Lib.hid (putq_cases l room x)
  generalize putq l room x = Q at *
  clear hs hsrt
  go_enter Try.func40, Try.ntmps40
  go_wp2
  go_loopw [7, 8, 9] (fun v iv i wr => ∃ k : Nat, ∃ is : Bool, k ≤ len ∧ i = .int .i64 k ∧ iv = .bool is ∧ isIn l x.tick k = is ∧ OwnS wr (w.heap.size + 1) v (refOut l x k) ∧ RS w x wr) (fun _ _ i _ => len - (intOf i).toNat)
  case atStart => exact ⟨0, false, Nat.zero_le _, rfl, rfl, (out_zero l x).2, by rw [(out_zero l x).1]; exact Own.nil _ _ _ _ _, RS.start w x⟩
  case round =>
    obtain ⟨k, is, hk, rfl, rfl, hin, hown, hrs⟩ := hrel
    have HI := Lib.hid hin
    have HO := Lib.hid hown
    have R0 := Lib.hid hrs
    clear hin hown
    by_cases hlt : k < len
    · obtain ⟨b, off, y, rfl, hy, hb, t0, t1⟩ := HS.out.at_ hlt
      have HF := Lib.hid (fun wr (h : RS w x wr) => (⟨h.facts hb t0, h.facts hb t1, h.x0.1, h.x0.2⟩ : wr.cell? ⟨b, off + k * 2, none⟩ = some (.int .i64 y.tick) ∧ wr.cell? ⟨b, off + k * 2 + 1, none⟩ = some (.int .i64 y.value) ∧ wr.cell? ⟨w.heap.size, 0, none⟩ = some (.int .i64 x.tick) ∧ wr.cell? ⟨w.heap.size, 1, none⟩ = some (.int .i64 x.value)))
      have hle : (refOut l x k).length < 999999 := by
        have h1 := out_len l x k
        have h3 := HL.out
        omega
      have HLE := Lib.hid hle
      have hki : (k : Int) < (len : Int) := by omega
      have HX := Lib.hid hy
      have hsz := hrs.lt
      obtain ⟨k0, k1, k2, k3⟩ := HF.out wr hrs
      clear hy hb t0 t1 hrs hle
      cases is
      · by_cases c1 : y.tick < x.tick
        · have HN := Lib.hid (out_low HSr.out HX.out c1)
          have d1 : decide (x.tick ≤ y.tick) = false := by simp; omega
          have d2 : (y.tick != x.tick) = true := by simp; omega
          go_wp2
          go_quiet (fail)
          go_wp2
          go_quiet (fail)
          go_wp2_with (at_builtin; refine push_smp _ rfl _ _ rfl (w.heap.size + 1) _ _ rfl (Own.alloc (Own.drewN_ HO.out _) _) _ _ 1 y rfl (Blk.new _ _ _) (Nat.lt_succ_of_lt HLE.out) (by simp; omega) ?_; intro v2 w2 ho2 hb2 hg2; have E1 := Lib.hid ho2; have E2 := Lib.hid (RS.push (RS.drewN R0.out _) _ hb2); clear ho2 hb2 hg2)
          go_roundw
          case rel => exact ⟨k + 1, false, by omega, by go_num, rfl, HN.out.2.1, by rw [HN.out.2.2]; exact E1.out, E2.out⟩
          case measure => simp [intOf]; omega
        · by_cases c2 : y.tick = x.tick
          · have HN := Lib.hid (out_same HX.out c2 HI.out)
            have HN2 := Lib.hid (in_next HX.out (t := x.tick) (by omega))
            have d1 : decide (x.tick ≤ y.tick) = true := by simp; omega
            have d2 : (y.tick != x.tick) = false := by simp; omega
            clear c1 c2
            go_wp2
            go_quiet (fail)
            go_wp2_with (at_builtin; refine push_smp _ rfl _ _ rfl (w.heap.size + 1) _ _ rfl (Own.alloc (Own.drewN_ HO.out _) _) _ _ 1 x rfl (Blk.new _ _ _) (Nat.lt_succ_of_lt HLE.out) (by have := hsz; simp; omega) ?_; intro v2 w2 ho2 hb2 hg2; have E1 := Lib.hid ho2; have E2 := Lib.hid (RS.push (RS.drewN R0.out _) _ hb2); clear ho2 hb2 hg2)
            obtain ⟨m0, m1, m2, m3⟩ := HF.out _ E2.out
            clear k0 k1 k2 k3
            go_quiet (fail)
            go_wp2
            go_roundw
            case rel => exact ⟨k + 1, true, by omega, by go_num, rfl, HN2.out, by rw [HN.out]; exact Own.drewN_ E1.out _, RS.drewN E2.out _⟩
            case measure => simp [intOf]; omega
          · have c3 : x.tick < y.tick := by omega
            have HN := Lib.hid (out_over HX.out c3 HI.out)
            have HN2 := Lib.hid (in_next HX.out (t := x.tick) (by omega))
            have d1 : decide (x.tick ≤ y.tick) = true := by simp; omega
            have d2 : (y.tick != x.tick) = true := by simp; omega
            clear c1 c2 c3
            go_wp2
            go_quiet (fail)
            go_wp2_with (at_builtin; refine push_smp _ rfl _ _ rfl (w.heap.size + 1) _ _ rfl (Own.alloc (Own.drewN_ HO.out _) _) _ _ 1 x rfl (Blk.new _ _ _) (Nat.lt_succ_of_lt HLE.out) (by have := hsz; simp; omega) ?_; intro v2 w2 ho2 hb2 hg2; have E1 := Lib.hid ho2; have E2 := Lib.hid (RS.push (RS.drewN R0.out _) _ hb2); clear ho2 hb2 hg2)
            obtain ⟨m0, m1, m2, m3⟩ := HF.out _ E2.out
            clear k0 k1 k2 k3
            have hle2 : (refOut l x k ++ [x]).length < 1000000 := by rw [List.length_append]; have := HLE.out; simp; omega
            have HLE2 := Lib.hid hle2
            have hsz2 := E2.out.lt
            clear hle2
            go_quiet (fail)
            go_wp2_with (at_builtin; refine push_smp _ rfl _ _ rfl (w.heap.size + 1) _ _ rfl (Own.alloc (Own.drewN_ E1.out _) _) _ _ 1 y rfl (Blk.new _ _ _) (HLE2.out) (by have := hsz2; simp; omega) ?_; intro v3 w3 ho3 hb3 hg3; have F1 := Lib.hid ho3; have F2 := Lib.hid (RS.push (RS.drewN E2.out _) _ hb3); clear ho3 hb3 hg3)
            go_roundw
            case rel => exact ⟨k + 1, true, by omega, by go_num, rfl, HN2.out, by rw [HN.out]; exact F1.out, F2.out⟩
            case measure => simp [intOf]; omega
      · have HN := Lib.hid (out_more HSr.out HX.out HI.out)
        have d2 : (y.tick != x.tick) = true := by have := HN.out.1; simp; omega
        go_wp2
        go_quiet (fail)
        go_wp2
        go_quiet (fail)
        go_wp2_with (at_builtin; refine push_smp _ rfl _ _ rfl (w.heap.size + 1) _ _ rfl (Own.alloc (Own.drewN_ HO.out _) _) _ _ 1 y rfl (Blk.new _ _ _) (Nat.lt_succ_of_lt HLE.out) (by have := hsz; simp; omega) ?_; intro v2 w2 ho2 hb2 hg2; have E1 := Lib.hid ho2; have E2 := Lib.hid (RS.push (RS.drewN R0.out _) _ hb2); clear ho2 hb2 hg2)
        go_roundw
        case rel => exact ⟨k + 1, true, by omega, by go_num, rfl, HN.out.2.1, by rw [HN.out.2.2]; exact E1.out, E2.out⟩
        case measure => simp [intOf]; omega
    · have hE : k = l.length := by have := HL.out; omega
      have hsz := hrs.lt
      obtain ⟨m2, m3⟩ := hrs.x0
      clear hrs
      cases is
      · have HP := Lib.hid (out_end_no (by rw [← hE]; exact HI.out))
        have hle : (refOut l x k).length < 1000000 := by have := out_len l x k; have := HL.out; omega
        have HLE := Lib.hid hle
        rw [← hE] at HP
        clear hE hle
        go_upto_region 13 with (at_builtin; refine push_smp _ rfl _ _ rfl (w.heap.size + 1) _ _ rfl (Own.alloc HO.out _) _ _ 1 x rfl (Blk.new _ _ _) HLE.out (by have := hsz; simp; omega) ?_; intro v2 w2 ho2 hb2 hg2; have E1 := Lib.hid (HP.out ▸ ho2); have E2 := Lib.hid (RS.push R0.out _ hb2); clear ho2 hb2 hg2)
        obtain ⟨h2, n2, c2, rfl, hn2⟩ := Own.some_ E1.out smp_len (by rw [putL_len]; omega)
        have hc2 := (E1.out.is smp_len).2.1
        have hc3 : c2 ≤ 9223372036854775807 := by have := (E1.out.is smp_len).2.2.1; unfold maxLen at this; omega
        have hn4 : 1 ≤ n2 := by rw [hn2, putL_len]; omega
        have hn5 : n2 ≤ 20000 := by rw [hn2]; have := len_putL l x; have := HL.out; omega
        have HFr := Lib.hid (show w.heap.size ≤ h2 ∧ h2 < _ from ⟨by have := (World.ownsRow.lt E1.out h2 rfl).1; omega, (World.ownsRow.lt E1.out h2 rfl).2⟩)
        have HN2 := Lib.hid hn2
        obtain ⟨y, T, hyT⟩ := putL_cons l x
        have HT := Lib.hid hyT
        clear hn2 hyT
        rcases HQ.out with ⟨q1, q2⟩ | ⟨q1, q2⟩
        · have q3 : room < n2 := by rw [HN2.out]; exact q1
          have H2 := Lib.hid q2
          clear q1 q2
          by_cases hc : c2 = 1
          · have HC := Lib.hid hc
            subst hc
            go_wp2
            go_ret
            refine ⟨_, _, _, rfl, ?_, E2.out.1, fun a ha => by cases ha; exact HFr.out⟩
            rw [H2.out, HT.out]
            have E4 := HT.out ▸ E1.out
            have E5 := (slice_tail E4).1 rfl
            have h0 : n2 - 1 = 0 := by omega
            have E6 := (slice_tail E4).2.2 E5
            rw [h0] at E6
            exact E6
          · go_wp2
            go_ret
            refine ⟨_, _, _, rfl, ?_, E2.out.1, fun a ha => by cases ha; exact HFr.out⟩
            rw [H2.out, HT.out]
            exact (slice_tail (HT.out ▸ E1.out)).2.1 hc
        · have q3 : ¬ room < n2 := by rw [HN2.out]; exact q1
          have H2 := Lib.hid q2
          clear q1 q2
          go_wp2
          go_ret
          refine ⟨_, _, _, rfl, ?_, E2.out.1, fun a ha => by cases ha; exact HFr.out⟩
          rw [H2.out]
          exact E1.out.is smp_len
      · have HP := Lib.hid (out_end_in (by rw [← hE]; exact HI.out))
        rw [← hE] at HP
        clear hE
        have E1 := Lib.hid (HP.out ▸ HO.out)
        obtain ⟨h2, n2, c2, rfl, hn2⟩ := Own.some_ E1.out smp_len (by rw [putL_len]; omega)
        have hc2 := (E1.out.is smp_len).2.1
        have hc3 : c2 ≤ 9223372036854775807 := by have := (E1.out.is smp_len).2.2.1; unfold maxLen at this; omega
        have hn4 : 1 ≤ n2 := by rw [hn2, putL_len]; omega
        have hn5 : n2 ≤ 20000 := by rw [hn2]; have := len_putL l x; have := HL.out; omega
        have HFr := Lib.hid (show w.heap.size ≤ h2 ∧ h2 < _ from ⟨by have := (World.ownsRow.lt E1.out h2 rfl).1; omega, (World.ownsRow.lt E1.out h2 rfl).2⟩)
        have HN2 := Lib.hid hn2
        obtain ⟨y, T, hyT⟩ := putL_cons l x
        have HT := Lib.hid hyT
        clear hn2 hyT
        rcases HQ.out with ⟨q1, q2⟩ | ⟨q1, q2⟩
        · have q3 : room < n2 := by rw [HN2.out]; exact q1
          have H2 := Lib.hid q2
          clear q1 q2
          by_cases hc : c2 = 1
          · have HC := Lib.hid hc
            subst hc
            go_wp2
            go_ret
            refine ⟨_, _, _, rfl, ?_, R0.out.1, fun a ha => by cases ha; exact HFr.out⟩
            rw [H2.out, HT.out]
            have E4 := HT.out ▸ E1.out
            have E5 := (slice_tail E4).1 rfl
            have h0 : n2 - 1 = 0 := by omega
            have E6 := (slice_tail E4).2.2 E5
            rw [h0] at E6
            exact E6
          · go_wp2
            go_ret
            refine ⟨_, _, _, rfl, ?_, R0.out.1, fun a ha => by cases ha; exact HFr.out⟩
            rw [H2.out, HT.out]
            exact (slice_tail (HT.out ▸ E1.out)).2.1 hc
        · have q3 : ¬ room < n2 := by rw [HN2.out]; exact q1
          have H2 := Lib.hid q2
          clear q1 q2
          go_wp2
          go_ret
          refine ⟨_, _, _, rfl, ?_, R0.out.1, fun a ha => by cases ha; exact HFr.out⟩
          rw [H2.out]
          exact E1.out.is smp_len
end Go.Proofs.Ytfeccjjheiillaa
