/- The numbers from one to another one: the reference's Ladder. -/
import Derived.Test.YtlodmnohmlkjmaaLadder
namespace Go.Proofs.Ytlodmnohmlkjmaa
open Go.RowKit
set_option linter.unusedSimpArgs false
set_option linter.unusedVariables false
set_option maxHeartbeats 2000000

theorem ref_Ladder (f t n : Int) (w : World) (hf : I64 f) (ht : I64 t) (hn : I64 n) :
    Calls Try.prog 40 #[.int .i64 f, .int .i64 t, .int .i64 n] w fun e w' => ∃ v, e = .returned v ∧ OwnI w' w.heap.size v (ladderq f t n) ∧ Below w.heap.size w w' := by
  by_cases h0 : n < 1 ∨ 256 < n ∨ t < f
  · have HQ := Lib.hid (show ladderq f t n = [] by unfold ladderq; rw [if_pos h0])
    by_cases h1 : n < 1
    · go_enter Try.func40, Try.ntmps40
      go_wp2
      go_ret
      exact ⟨_, rfl, by rw [HQ.out]; exact Own.nil _ _ _ _ _, by go_grown⟩
    by_cases h2 : 256 < n
    · go_enter Try.func40, Try.ntmps40
      go_wp2
      go_ret
      exact ⟨_, rfl, by rw [HQ.out]; exact Own.nil _ _ _ _ _, by go_grown⟩
    · have h3 : t < f := by omega
      clear h0
      go_enter Try.func40, Try.ntmps40
      go_wp2
      go_ret
      exact ⟨_, rfl, by rw [HQ.out]; exact Own.nil _ _ _ _ _, by go_grown⟩
  · have HQ := Lib.hid (show ladderq f t n = ladq f t n n.toNat by unfold ladderq; rw [if_neg h0])
    have n3 : f ≤ t := by omega
    obtain ⟨N, rfl⟩ : ∃ N : Nat, n = (N : Int) := ⟨n.toNat, by omega⟩
    have n1 : 1 ≤ N := by omega
    have n2 : N ≤ 256 := by omega
    clear h0
    by_cases hN : 1 < N
    · obtain ⟨S, hS⟩ : ∃ S, S = stepq f t N := ⟨_, rfl⟩
      have hSI : I64 S := by rw [hS]; exact stepq_I64 _ _ _
      have hS2 : floorq (satq (t - f)) ((N : Int) - 1) = S := by rw [hS]; unfold stepq; rw [if_pos (by omega)]
      have HS := Lib.hid hS
      clear hS
      go_enter Try.func40, Try.ntmps40
      go_wp2_with (first | (go_at_call 70; refine (ref_Sub _ _ _ ht hf).mono ?_; rintro e w1 ⟨rfl, rfl⟩) | (go_at_call 69; refine (ref_Floor _ _ _ (satq_I64 _) (by unfold I64; omega)).mono ?_; rintro e w1 ⟨rfl, rfl⟩))
      go_loopw [8, 9] (fun v i wr => ∃ k : Nat, k ≤ N ∧ i = .int .i64 k ∧ OwnI wr w.heap.size v (ladq f t N k) ∧ Below w.heap.size w wr) (fun _ i _ => N - (intOf i).toNat)
      case atStart => exact ⟨0, Nat.zero_le _, rfl, Own.nil _ _ _ _ _, Below.refl _ _⟩
      case round =>
        obtain ⟨k, hk, rfl, hown, hbel⟩ := hrel
        by_cases hlt : k < N
        · have hlen := ladq_len f t N k
          have hsort := Lib.hid (ladq_sorted f t N k)
          have HP := Lib.hid (show ladq f t N (k + 1) = pushq (ladq f t N k) (itemq f t N k) from rfl)
          generalize ladq f t N k = l at *
          have hlen2 : l.length < 1000000 := by omega
          by_cases hB : k + 1 = N
          · have HX := Lib.hid (show itemq f t N k = t by unfold itemq; rw [if_pos (by omega)])
            have d1 : ((k : Int) == (N : Int) - 1) = true := by simp; omega
            clear hB
            obtain ⟨A, len, cap, rfl, hll, hsl⟩ := own_shape hown
            have hle : len < 1000000 := by omega
            go_wp2_with (first | (go_at_call 58; refine (ref_Mul _ _ _ (by first | assumption | (unfold I64; omega)) (by unfold I64; omega)).mono ?_; rintro e w1 ⟨rfl, rfl⟩) | (go_at_call 15; refine (ref_Add _ _ _ hf (satq_I64 _)).mono ?_; rintro e w1 ⟨rfl, rfl⟩))
            go_loopw [11, 12] (fun ab i wi => ∃ j : Nat, j ≤ len ∧ i = .int .i64 j ∧ ab = .bool ((l.take j).all (fun y => decide (y < t))) ∧ Below wr.heap.size wr wi) (fun _ i _ => len - (intOf i).toNat)
            case atStart => exact ⟨0, Nat.zero_le _, rfl, rfl, Below.refl _ _⟩
            case round =>
              obtain ⟨j, hj, rfl, rfl, hb3⟩ := hrel
              by_cases hjl : j < len
              · obtain ⟨b, off, y, rfl, hy, hb, hc⟩ := hsl.at_ hjl
                have hc2 := (hb3.cell (p := ⟨b, off + j, none⟩) hb).trans hc
                have HY := Lib.hid hy
                have hji : (j : Int) < (len : Int) := by omega
                clear hy hc hb
                by_cases hyx : t ≤ y
                · go_wp2
                  go_roundw
                  case rel => exact ⟨j + 1, by omega, by go_num, by rw [take_next HY.out, List.all_append]; simp; omega, hb3⟩
                  case measure => simp [intOf]; omega
                · go_wp2
                  go_roundw
                  case rel => exact ⟨j + 1, by omega, by go_num, by rw [take_next HY.out, List.all_append]; simp; omega, hb3⟩
                  case measure => simp [intOf]; omega
              · have hE : l.take j = l := List.take_of_length_le (by omega)
                have hob := hown.call hb3
                by_cases ha : l.all (fun y => decide (y < t)) = true
                · have HPQ := Lib.hid (show pushq l t = l ++ [t] by unfold pushq; rw [if_pos ha])
                  have he : (l.take j).all (fun y => decide (y < t)) = true := by rw [hE]; exact ha
                  rw [he]
                  clear hE ha he
                  go_wp2_with (at_builtin; refine push_int _ rfl _ _ rfl w.heap.size _ _ rfl (hob.alloc _) ⟨wr.heap.size, 0, none⟩ 1 t rfl (by simp) hlen2 (by have := hbel.size; have := hb3.size; simp; omega) ?_; intro v2 w2 ho2 hb2)
                  go_roundw
                  case rel => exact ⟨k + 1, by omega, by go_num, by rw [HP.out, HX.out, HPQ.out]; exact ho2, ((hbel.trans (hb3.mono hbel.size)).alloc (by have := hbel.size; have := hb3.size; omega) _).trans hb2⟩
                  case measure => simp [intOf]; omega
                · have HPQ := Lib.hid (show pushq l t = l by unfold pushq; rw [if_neg ha])
                  have he : (l.take j).all (fun y => decide (y < t)) = false := by rw [hE]; simpa using ha
                  rw [he]
                  clear hE ha he
                  go_wp2
                  go_roundw
                  case rel => exact ⟨k + 1, by omega, by go_num, by rw [HP.out, HX.out, HPQ.out]; exact hob, hbel.trans (hb3.mono hbel.size)⟩
                  case measure => simp [intOf]; omega
          · obtain ⟨x, hx⟩ : ∃ x, x = satq (f + satq (S * k)) := ⟨_, rfl⟩
            have HX := Lib.hid (show itemq f t N k = x by unfold itemq; rw [if_neg (by omega), hx, HS.out])
            have hx2 : satq (f + satq (S * k)) = x := hx.symm
            have d1 : ((k : Int) == (N : Int) - 1) = false := by simp; omega
            clear hx hB
            obtain ⟨A, len, cap, rfl, hll, hsl⟩ := own_shape hown
            have hle : len < 1000000 := by omega
            go_wp2_with (first | (go_at_call 58; refine (ref_Mul _ _ _ (by first | assumption | (unfold I64; omega)) (by unfold I64; omega)).mono ?_; rintro e w1 ⟨rfl, rfl⟩) | (go_at_call 15; refine (ref_Add _ _ _ hf (satq_I64 _)).mono ?_; rintro e w1 ⟨rfl, rfl⟩))
            go_loopw [11, 12] (fun ab i wi => ∃ j : Nat, j ≤ len ∧ i = .int .i64 j ∧ ab = .bool ((l.take j).all (fun y => decide (y < x))) ∧ Below wr.heap.size wr wi) (fun _ i _ => len - (intOf i).toNat)
            case atStart => exact ⟨0, Nat.zero_le _, rfl, rfl, Below.refl _ _⟩
            case round =>
              obtain ⟨j, hj, rfl, rfl, hb3⟩ := hrel
              by_cases hjl : j < len
              · obtain ⟨b, off, y, rfl, hy, hb, hc⟩ := hsl.at_ hjl
                have hc2 := (hb3.cell (p := ⟨b, off + j, none⟩) hb).trans hc
                have HY := Lib.hid hy
                have hji : (j : Int) < (len : Int) := by omega
                clear hy hc hb
                by_cases hyx : x ≤ y
                · go_wp2
                  go_roundw
                  case rel => exact ⟨j + 1, by omega, by go_num, by rw [take_next HY.out, List.all_append]; simp; omega, hb3⟩
                  case measure => simp [intOf]; omega
                · go_wp2
                  go_roundw
                  case rel => exact ⟨j + 1, by omega, by go_num, by rw [take_next HY.out, List.all_append]; simp; omega, hb3⟩
                  case measure => simp [intOf]; omega
              · have hE : l.take j = l := List.take_of_length_le (by omega)
                have hob := hown.call hb3
                by_cases ha : l.all (fun y => decide (y < x)) = true
                · have HPQ := Lib.hid (show pushq l x = l ++ [x] by unfold pushq; rw [if_pos ha])
                  have he : (l.take j).all (fun y => decide (y < x)) = true := by rw [hE]; exact ha
                  rw [he]
                  clear hE ha he
                  go_wp2_with (at_builtin; refine push_int _ rfl _ _ rfl w.heap.size _ _ rfl (hob.alloc _) ⟨wr.heap.size, 0, none⟩ 1 x rfl (by simp) hlen2 (by have := hbel.size; have := hb3.size; simp; omega) ?_; intro v2 w2 ho2 hb2)
                  go_roundw
                  case rel => exact ⟨k + 1, by omega, by go_num, by rw [HP.out, HX.out, HPQ.out]; exact ho2, ((hbel.trans (hb3.mono hbel.size)).alloc (by have := hbel.size; have := hb3.size; omega) _).trans hb2⟩
                  case measure => simp [intOf]; omega
                · have HPQ := Lib.hid (show pushq l x = l by unfold pushq; rw [if_neg ha])
                  have he : (l.take j).all (fun y => decide (y < x)) = false := by rw [hE]; simpa using ha
                  rw [he]
                  clear hE ha he
                  go_wp2
                  go_roundw
                  case rel => exact ⟨k + 1, by omega, by go_num, by rw [HP.out, HX.out, HPQ.out]; exact hob, hbel.trans (hb3.mono hbel.size)⟩
                  case measure => simp [intOf]; omega
        · have hkn : k = N := by omega
          subst hkn
          go_wp2
          go_ret
          exact ⟨_, rfl, by rw [HQ.out]; exact hown, hbel⟩
    · have dN : decide ((1 : Int) < (N : Int)) = false := decide_eq_false (by omega)
      go_enter Try.func40, Try.ntmps40
      go_wp2
      go_loopw [8, 9] (fun v i wr => ∃ k : Nat, k ≤ N ∧ i = .int .i64 k ∧ OwnI wr w.heap.size v (ladq f t N k) ∧ Below w.heap.size w wr) (fun _ i _ => N - (intOf i).toNat)
      case atStart => exact ⟨0, Nat.zero_le _, rfl, Own.nil _ _ _ _ _, Below.refl _ _⟩
      case round =>
        obtain ⟨k, hk, rfl, hown, hbel⟩ := hrel
        by_cases hlt : k < N
        · have hlen := ladq_len f t N k
          have hsort := Lib.hid (ladq_sorted f t N k)
          have HP := Lib.hid (show ladq f t N (k + 1) = pushq (ladq f t N k) (itemq f t N k) from rfl)
          generalize ladq f t N k = l at *
          have hlen2 : l.length < 1000000 := by omega
          obtain ⟨x, hx⟩ : ∃ x, x = satq f := ⟨_, rfl⟩
          have HX := Lib.hid (show itemq f t N k = x by rw [hx]; unfold itemq stepq; rw [if_neg (by omega), if_neg (by omega)]; simp [show satq 0 = 0 from rfl])
          have hx2 : satq f = x := hx.symm
          have h00 : satq 0 = 0 := rfl
          have d1 : ((k : Int) == (N : Int) - 1) = true := by simp; omega
          clear hx
          obtain ⟨A, len, cap, rfl, hll, hsl⟩ := own_shape hown
          have hle : len < 1000000 := by omega
          go_wp2_with (first | (go_at_call 58; refine (ref_Mul _ _ _ (by first | assumption | (unfold I64; omega)) (by unfold I64; omega)).mono ?_; rintro e w1 ⟨rfl, rfl⟩) | (go_at_call 15; refine (ref_Add _ _ _ hf (by unfold I64; omega)).mono ?_; rintro e w1 ⟨rfl, rfl⟩))
          go_loopw [11, 12] (fun ab i wi => ∃ j : Nat, j ≤ len ∧ i = .int .i64 j ∧ ab = .bool ((l.take j).all (fun y => decide (y < x))) ∧ Below wr.heap.size wr wi) (fun _ i _ => len - (intOf i).toNat)
          case atStart => exact ⟨0, Nat.zero_le _, rfl, rfl, Below.refl _ _⟩
          case round =>
            obtain ⟨j, hj, rfl, rfl, hb3⟩ := hrel
            by_cases hjl : j < len
            · obtain ⟨b, off, y, rfl, hy, hb, hc⟩ := hsl.at_ hjl
              have hc2 := (hb3.cell (p := ⟨b, off + j, none⟩) hb).trans hc
              have HY := Lib.hid hy
              have hji : (j : Int) < (len : Int) := by omega
              clear hy hc hb
              by_cases hyx : x ≤ y
              · go_wp2
                go_roundw
                case rel => exact ⟨j + 1, by omega, by go_num, by rw [take_next HY.out, List.all_append]; simp; omega, hb3⟩
                case measure => simp [intOf]; omega
              · go_wp2
                go_roundw
                case rel => exact ⟨j + 1, by omega, by go_num, by rw [take_next HY.out, List.all_append]; simp; omega, hb3⟩
                case measure => simp [intOf]; omega
            · have hE : l.take j = l := List.take_of_length_le (by omega)
              have hob := hown.call hb3
              by_cases ha : l.all (fun y => decide (y < x)) = true
              · have HPQ := Lib.hid (show pushq l x = l ++ [x] by unfold pushq; rw [if_pos ha])
                have he : (l.take j).all (fun y => decide (y < x)) = true := by rw [hE]; exact ha
                rw [he]
                clear hE ha he
                go_wp2_with (at_builtin; refine push_int _ rfl _ _ rfl w.heap.size _ _ rfl (hob.alloc _) ⟨wr.heap.size, 0, none⟩ 1 x rfl (by simp) hlen2 (by have := hbel.size; have := hb3.size; simp; omega) ?_; intro v2 w2 ho2 hb2)
                go_roundw
                case rel => first | exact ⟨k + 1, by omega, by go_num, by rw [HP.out, HX.out, HPQ.out]; exact ho2, ((hbel.trans (hb3.mono hbel.size)).alloc (by have := hbel.size; have := hb3.size; omega) _).trans hb2⟩ | ((repeat apply Exists.intro); exact ⟨⟨k + 1, by omega, by go_num, by rw [HP.out, HX.out, HPQ.out]; exact ho2, ((hbel.trans (hb3.mono hbel.size)).alloc (by have := hbel.size; have := hb3.size; omega) _).trans hb2⟩, rfl⟩)
                case measure => simp [intOf]; omega
              · have HPQ := Lib.hid (show pushq l x = l by unfold pushq; rw [if_neg ha])
                have he : (l.take j).all (fun y => decide (y < x)) = false := by rw [hE]; simpa using ha
                rw [he]
                clear hE ha he
                go_wp2
                go_roundw
                case rel => first | exact ⟨k + 1, by omega, by go_num, by rw [HP.out, HX.out, HPQ.out]; exact hob, hbel.trans (hb3.mono hbel.size)⟩ | ((repeat apply Exists.intro); exact ⟨⟨k + 1, by omega, by go_num, by rw [HP.out, HX.out, HPQ.out]; exact hob, hbel.trans (hb3.mono hbel.size)⟩, rfl⟩)
                case measure => simp [intOf]; omega
        · have hkn : k = N := by omega
          subst hkn
          go_wp2
          go_ret
          exact ⟨_, rfl, by rw [HQ.out]; exact hown, hbel⟩
end Go.Proofs.Ytlodmnohmlkjmaa
