/- The numbers from one to another one: tune.Ladder and its reference. -/
import Derived.Test.YtlodmnohmlkjmaaSame
namespace Go.Proofs.Ytlodmnohmlkjmaa
open Go.RowKit
set_option linter.unusedSimpArgs false
set_option linter.unusedVariables false
set_option maxHeartbeats 2000000

def stepq (f t n : Int) : Int := if 1 < n then floorq (satq (t - f)) (n - 1) else 0
def itemq (f t n : Int) (i : Nat) : Int := if 1 < n ∧ (i : Int) = n - 1 then t else satq (f + satq (stepq f t n * i))
def pushq (l : List Int) (x : Int) : List Int := if l.all (fun y => decide (y < x)) then l ++ [x] else l
def ladq (f t n : Int) : Nat → List Int
  | 0 => []
  | k + 1 => pushq (ladq f t n k) (itemq f t n k)
def ladderq (f t n : Int) : List Int := if n < 1 ∨ 256 < n ∨ t < f then [] else ladq f t n n.toNat
theorem pushq_len (l : List Int) (x : Int) : (pushq l x).length ≤ l.length + 1 := by
  unfold pushq; split <;> simp
theorem ladq_len (f t n : Int) (k : Nat) : (ladq f t n k).length ≤ k := by
  induction k with
  | zero => simp [ladq]
  | succ k ih => have := pushq_len (ladq f t n k) (itemq f t n k); unfold ladq; omega
theorem pushq_sorted {l : List Int} (h : l.Pairwise (· < ·)) (x : Int) : (pushq l x).Pairwise (· < ·) := by
  unfold pushq
  split
  · rename_i ha
    rw [List.pairwise_append]
    refine ⟨h, by simp, ?_⟩
    intro a ha1 b hb
    simp at hb; subst hb
    simpa using List.all_eq_true.1 ha a ha1
  · exact h
theorem ladq_sorted (f t n : Int) (k : Nat) : (ladq f t n k).Pairwise (· < ·) := by
  induction k with
  | zero => simp [ladq]
  | succ k ih => exact pushq_sorted ih _
theorem sorted_last {l : List Int} (h : l.Pairwise (· < ·)) {y : Int} (hy : l[l.length - 1]? = some y) (x : Int) : l.all (fun z => decide (z < x)) = decide (y < x) := by
  rw [Bool.eq_iff_iff]
  simp only [List.all_eq_true, decide_eq_true_eq]
  obtain ⟨hlt, rfl⟩ := List.getElem?_eq_some_iff.1 hy
  refine ⟨fun ha => ha _ (List.getElem_mem _), fun hx z hz => ?_⟩
  obtain ⟨i, hi, rfl⟩ := List.getElem_of_mem hz
  rcases Nat.lt_or_ge i (l.length - 1) with h1 | h1
  · have := (List.pairwise_iff_getElem.1 h) i (l.length - 1) hi hlt h1
    omega
  · have : i = l.length - 1 := by omega
    subst this; exact hx
theorem floor_I64 (s m : Int) (hs : I64 s) (hm : 1 ≤ m) : I64 (s / m) := by
  unfold I64 at *
  by_cases h0 : 0 ≤ s
  · have := Int.ediv_le_self m h0
    have := Int.ediv_nonneg h0 (show 0 ≤ m by omega)
    omega
  · have h1 := Int.ediv_neg_of_neg_of_pos (show s < 0 by omega) (show 0 < m by omega)
    have h2 : s ≤ s / m := by
      refine (Int.le_ediv_iff_mul_le (by omega)).2 ?_
      have := Int.mul_nonneg (show 0 ≤ -s by omega) (show 0 ≤ m - 1 by omega)
      rw [Int.neg_mul, Int.mul_sub, Int.mul_one] at this
      omega
    omega
theorem stepq_I64 (f t n : Int) : I64 (stepq f t n) := by
  unfold stepq
  split
  · unfold floorq
    rw [if_neg (by omega)]
    exact floor_I64 _ _ (satq_I64 _) (by omega)
  · unfold I64; omega
theorem pushq_nil (x : Int) : pushq [] x = [x] := rfl
theorem own_shape {w : World} {base : Nat} {v : Value} {l : List Int} (h : OwnI w base v l) : ∃ A len cap, v = .slice A len cap ∧ l.length = len ∧ IntsAre w A len cap l := by
  obtain ⟨A, cap, h1, h2⟩ := Own.slice h (fun _ => rfl)
  exact ⟨A, _, cap, h1, rfl, h2⟩
theorem OwnI.last {w : World} {m cap : Nat} {A : Option Addr} {l : List Int} (h : IntsAre w A (m + 1) cap l) (hs : l.Pairwise (· < ·)) :
    ∃ (b off : Nat) (y : Int), A = some ⟨b, off, none⟩ ∧ w.cell? ⟨b, off + m, none⟩ = some (.int .i64 y) ∧ ∀ x, (y < x → pushq l x = l ++ [x]) ∧ (¬ y < x → pushq l x = l) := by
  obtain ⟨b, off, y, h1, h2, h3, h4⟩ := h.at_ (k := m) (by omega)
  have hl := h.1
  have h2' : l[l.length - 1]? = some y := by rw [hl]; exact h2
  refine ⟨b, off, y, h1, h4, fun x => ⟨fun hx => ?_, fun hx => ?_⟩⟩
  · unfold pushq; rw [sorted_last hs h2', if_pos (by simpa using hx)]
  · unfold pushq; rw [sorted_last hs h2', if_neg (by simpa using hx)]
theorem tune_Ladder (f t n : Int) (w : World) (hf : I64 f) (ht : I64 t) (hn : I64 n) :
    Calls Try.prog 39 #[.int .i64 f, .int .i64 t, .int .i64 n] w fun e w' => ∃ v, e = .returned v ∧ OwnI w' w.heap.size v (ladderq f t n) ∧ Below w.heap.size w w' := by
  by_cases h0 : n < 1 ∨ 256 < n ∨ t < f
  · have HQ := Lib.hid (show ladderq f t n = [] by unfold ladderq; rw [if_pos h0])
    by_cases h1 : n < 1
    · go_enter Try.func39, Try.ntmps39
      go_wp2
      go_ret
      exact ⟨_, rfl, by rw [HQ.out]; exact Own.nil _ _ _ _ _, by go_grown⟩
    by_cases h2 : 256 < n
    · go_enter Try.func39, Try.ntmps39
      go_wp2
      go_ret
      exact ⟨_, rfl, by rw [HQ.out]; exact Own.nil _ _ _ _ _, by go_grown⟩
    · have h3 : t < f := by omega
      clear h0
      go_enter Try.func39, Try.ntmps39
      go_wp2
      go_ret
      exact ⟨_, rfl, by rw [HQ.out]; exact Own.nil _ _ _ _ _, by go_grown⟩
  · have HQ := Lib.hid (show ladderq f t n = ladq f t n n.toNat by unfold ladderq; rw [if_neg h0])
    have n3 : f ≤ t := by omega
    obtain ⟨N, rfl⟩ : ∃ N : Nat, n = (N : Int) := ⟨n.toNat, by omega⟩
    have n1 : 1 ≤ N := by omega
    have n2 : N ≤ 256 := by omega
    clear h0
    go_enter Try.func39, Try.ntmps39
    go_wp2_with (first | (go_at_call 65; refine (sat_Sub _ _ _ ht hf).mono ?_; rintro e w1 ⟨rfl, rfl⟩))
    go_loopw [7, 27] (fun v i wr => ∃ k : Nat, k ≤ N ∧ i = .int .i64 k ∧ OwnI wr w.heap.size v (ladq f t N k) ∧ Below w.heap.size w wr) (fun _ i _ => N - (intOf i).toNat)
    case atStart => exact ⟨0, Nat.zero_le _, rfl, Own.nil _ _ _ _ _, Below.refl _ _⟩
    case round =>
      obtain ⟨k, hk, rfl, hown, hbel⟩ := hrel
      by_cases hlt : k < N
      · have hlen := ladq_len f t N k
        have hsort := Lib.hid (ladq_sorted f t N k)
        have HP := Lib.hid (show ladq f t N (k + 1) = pushq (ladq f t N k) (itemq f t N k) from rfl)
        generalize ladq f t N k = l at *
        have hlen2 : l.length < 1000000 := by omega
        by_cases hN : 1 < N
        · by_cases hB : k + 1 = N
          · have HX := Lib.hid (show itemq f t N k = t by unfold itemq; rw [if_pos (by omega)])
            obtain ⟨S, hS⟩ : ∃ S, S = stepq f t N := ⟨_, rfl⟩
            have hSI : I64 S := by rw [hS]; exact stepq_I64 _ _ _
            have hS2 : floorq (satq (t - f)) ((N : Int) - 1) = S := by rw [hS]; unfold stepq; rw [if_pos (by omega)]
            have d1 : ((k : Int) == (N : Int) - 1) = true := by simp; omega
            clear hS hB
            obtain ⟨A, len, cap, rfl, hll, hsl⟩ := own_shape hown
            rcases len with _ | m
            · have hnil : l = [] := List.eq_nil_of_length_eq_zero hll
              subst hnil
              have HPx := Lib.hid (show pushq [] t = [t] from rfl)
              clear hsl hll
              go_wp2_with (first | (go_at_call 66; refine (sat_Floor _ _ _ (satq_I64 _) (by unfold I64; omega)).mono ?_; rintro e w1 ⟨rfl, rfl⟩) | (go_at_call 68; refine (sat_Mul _ _ _ (by first | assumption | (unfold I64; omega)) (by unfold I64; omega)).mono ?_; rintro e w1 ⟨rfl, rfl⟩) | (go_at_call 67; refine (sat_Add _ _ _ hf (satq_I64 _)).mono ?_; rintro e w1 ⟨rfl, rfl⟩) | (at_builtin; refine push_int _ rfl _ _ rfl w.heap.size _ _ rfl (hown.alloc _) ⟨wr.heap.size, 0, none⟩ 1 t rfl (by simp) hlen2 (by have := hbel.size; simp; omega) ?_; intro v2 w2 ho2 hb2))
              go_roundw
              case rel => exact ⟨k + 1, by omega, by go_num, by rw [HP.out, HX.out, HPx.out]; exact ho2, (hbel.alloc hbel.size _).trans hb2⟩
              case measure => simp [intOf]; omega
            · obtain ⟨b, off, y, rfl, hc, hpq⟩ := OwnI.last hsl hsort.out
              have hm2 : m < 1000000 := by omega
              have hm3 : ((m : Int) + 1 == 0) = false := by simp; omega
              have HPQ := Lib.hid (hpq t)
              clear hpq hsl hll
              by_cases hyx : y < t
              · go_wp2_with (first | (go_at_call 66; refine (sat_Floor _ _ _ (satq_I64 _) (by unfold I64; omega)).mono ?_; rintro e w1 ⟨rfl, rfl⟩) | (go_at_call 68; refine (sat_Mul _ _ _ (by first | assumption | (unfold I64; omega)) (by unfold I64; omega)).mono ?_; rintro e w1 ⟨rfl, rfl⟩) | (go_at_call 67; refine (sat_Add _ _ _ hf (satq_I64 _)).mono ?_; rintro e w1 ⟨rfl, rfl⟩) | (at_builtin; refine push_int _ rfl _ _ rfl w.heap.size _ _ rfl (hown.alloc _) ⟨wr.heap.size, 0, none⟩ 1 t rfl (by simp) hlen2 (by have := hbel.size; simp; omega) ?_; intro v2 w2 ho2 hb2))
                go_roundw
                case rel => exact ⟨k + 1, by omega, by go_num, by rw [HP.out, HX.out, HPQ.out.1 hyx]; exact ho2, (hbel.alloc hbel.size _).trans hb2⟩
                case measure => simp [intOf]; omega
              · go_wp2_with (first | (go_at_call 66; refine (sat_Floor _ _ _ (satq_I64 _) (by unfold I64; omega)).mono ?_; rintro e w1 ⟨rfl, rfl⟩) | (go_at_call 68; refine (sat_Mul _ _ _ (by first | assumption | (unfold I64; omega)) (by unfold I64; omega)).mono ?_; rintro e w1 ⟨rfl, rfl⟩) | (go_at_call 67; refine (sat_Add _ _ _ hf (satq_I64 _)).mono ?_; rintro e w1 ⟨rfl, rfl⟩) | (at_builtin; refine push_int _ rfl _ _ rfl w.heap.size _ _ rfl (hown.alloc _) ⟨wr.heap.size, 0, none⟩ 1 t rfl (by simp) hlen2 (by have := hbel.size; simp; omega) ?_; intro v2 w2 ho2 hb2))
                go_roundw
                case rel => exact ⟨k + 1, by omega, by go_num, by rw [HP.out, HX.out, HPQ.out.2 hyx]; exact hown, hbel⟩
                case measure => simp [intOf]; omega
          · obtain ⟨S, hS⟩ : ∃ S, S = stepq f t N := ⟨_, rfl⟩
            obtain ⟨x, hx⟩ : ∃ x, x = satq (f + satq (S * k)) := ⟨_, rfl⟩
            have HX := Lib.hid (show itemq f t N k = x by unfold itemq; rw [if_neg (by omega), hx, hS])
            have hx2 : satq (f + satq (S * k)) = x := hx.symm
            have hSI : I64 S := by rw [hS]; exact stepq_I64 _ _ _
            have hS2 : floorq (satq (t - f)) ((N : Int) - 1) = S := by rw [hS]; unfold stepq; rw [if_pos (by omega)]
            have d1 : ((k : Int) == (N : Int) - 1) = false := by simp; omega
            clear hx hS hB
            obtain ⟨A, len, cap, rfl, hll, hsl⟩ := own_shape hown
            rcases len with _ | m
            · have hnil : l = [] := List.eq_nil_of_length_eq_zero hll
              subst hnil
              have HPx := Lib.hid (show pushq [] x = [x] from rfl)
              clear hsl hll
              go_wp2_with (first | (go_at_call 66; refine (sat_Floor _ _ _ (satq_I64 _) (by unfold I64; omega)).mono ?_; rintro e w1 ⟨rfl, rfl⟩) | (go_at_call 68; refine (sat_Mul _ _ _ (by first | assumption | (unfold I64; omega)) (by unfold I64; omega)).mono ?_; rintro e w1 ⟨rfl, rfl⟩) | (go_at_call 67; refine (sat_Add _ _ _ hf (satq_I64 _)).mono ?_; rintro e w1 ⟨rfl, rfl⟩) | (at_builtin; refine push_int _ rfl _ _ rfl w.heap.size _ _ rfl (hown.alloc _) ⟨wr.heap.size, 0, none⟩ 1 x rfl (by simp) hlen2 (by have := hbel.size; simp; omega) ?_; intro v2 w2 ho2 hb2))
              go_roundw
              case rel => exact ⟨k + 1, by omega, by go_num, by rw [HP.out, HX.out, HPx.out]; exact ho2, (hbel.alloc hbel.size _).trans hb2⟩
              case measure => simp [intOf]; omega
            · obtain ⟨b, off, y, rfl, hc, hpq⟩ := OwnI.last hsl hsort.out
              have hm2 : m < 1000000 := by omega
              have hm3 : ((m : Int) + 1 == 0) = false := by simp; omega
              have HPQ := Lib.hid (hpq x)
              clear hpq hsl hll
              by_cases hyx : y < x
              · go_wp2_with (first | (go_at_call 66; refine (sat_Floor _ _ _ (satq_I64 _) (by unfold I64; omega)).mono ?_; rintro e w1 ⟨rfl, rfl⟩) | (go_at_call 68; refine (sat_Mul _ _ _ (by first | assumption | (unfold I64; omega)) (by unfold I64; omega)).mono ?_; rintro e w1 ⟨rfl, rfl⟩) | (go_at_call 67; refine (sat_Add _ _ _ hf (satq_I64 _)).mono ?_; rintro e w1 ⟨rfl, rfl⟩) | (at_builtin; refine push_int _ rfl _ _ rfl w.heap.size _ _ rfl (hown.alloc _) ⟨wr.heap.size, 0, none⟩ 1 x rfl (by simp) hlen2 (by have := hbel.size; simp; omega) ?_; intro v2 w2 ho2 hb2))
                go_roundw
                case rel => exact ⟨k + 1, by omega, by go_num, by rw [HP.out, HX.out, HPQ.out.1 hyx]; exact ho2, (hbel.alloc hbel.size _).trans hb2⟩
                case measure => simp [intOf]; omega
              · go_wp2_with (first | (go_at_call 66; refine (sat_Floor _ _ _ (satq_I64 _) (by unfold I64; omega)).mono ?_; rintro e w1 ⟨rfl, rfl⟩) | (go_at_call 68; refine (sat_Mul _ _ _ (by first | assumption | (unfold I64; omega)) (by unfold I64; omega)).mono ?_; rintro e w1 ⟨rfl, rfl⟩) | (go_at_call 67; refine (sat_Add _ _ _ hf (satq_I64 _)).mono ?_; rintro e w1 ⟨rfl, rfl⟩) | (at_builtin; refine push_int _ rfl _ _ rfl w.heap.size _ _ rfl (hown.alloc _) ⟨wr.heap.size, 0, none⟩ 1 x rfl (by simp) hlen2 (by have := hbel.size; simp; omega) ?_; intro v2 w2 ho2 hb2))
                go_roundw
                case rel => exact ⟨k + 1, by omega, by go_num, by rw [HP.out, HX.out, HPQ.out.2 hyx]; exact hown, hbel⟩
                case measure => simp [intOf]; omega
        · obtain ⟨x, hx⟩ : ∃ x, x = satq f := ⟨_, rfl⟩
          have HX := Lib.hid (show itemq f t N k = x by rw [hx]; unfold itemq stepq; rw [if_neg (by omega), if_neg (by omega)]; simp [show satq 0 = 0 from rfl])
          have hx2 : satq f = x := hx.symm
          have h00 : satq 0 = 0 := rfl
          have d1 : ((k : Int) == (N : Int) - 1) = true := by simp; omega
          clear hx
          obtain ⟨A, len, cap, rfl, hll, hsl⟩ := own_shape hown
          rcases len with _ | m
          · have hnil : l = [] := List.eq_nil_of_length_eq_zero hll
            subst hnil
            have HPx := Lib.hid (show pushq [] x = [x] from rfl)
            clear hsl hll
            go_wp2_with (first | (go_at_call 66; refine (sat_Floor _ _ _ (satq_I64 _) (by unfold I64; omega)).mono ?_; rintro e w1 ⟨rfl, rfl⟩) | (go_at_call 68; refine (sat_Mul _ _ _ (by first | assumption | (unfold I64; omega)) (by unfold I64; omega)).mono ?_; rintro e w1 ⟨rfl, rfl⟩) | (go_at_call 67; refine (sat_Add _ _ _ hf (by unfold I64; omega)).mono ?_; rintro e w1 ⟨rfl, rfl⟩) | (at_builtin; refine push_int _ rfl _ _ rfl w.heap.size _ _ rfl (hown.alloc _) ⟨wr.heap.size, 0, none⟩ 1 x rfl (by simp) hlen2 (by have := hbel.size; simp; omega) ?_; intro v2 w2 ho2 hb2))
            go_roundw
            case rel => exact ⟨k + 1, by omega, by go_num, by rw [HP.out, HX.out, HPx.out]; exact ho2, (hbel.alloc hbel.size _).trans hb2⟩
            case measure => simp [intOf]; omega
          · exfalso; omega
      · have hkn : k = N := by omega
        subst hkn
        go_wp2
        go_ret
        exact ⟨_, rfl, by rw [HQ.out]; exact hown, hbel⟩
end Go.Proofs.Ytlodmnohmlkjmaa
