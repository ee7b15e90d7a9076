/- flywheelref10.Sorted: the walk. (fast region) -/
import Derived.Test.YtkjmacdekfbfhaaRank3
import Derived.Test.YtkjmacdekfbfhaaSub
import Derived.Test.YtkjmacdekfbfhaaCat
import Derived.Test.YtkjmacdekfbfhaaPush2
import Derived.Deep.QuietTactic
import Derived.BigQuiet
namespace Go.Proofs.Ytkjmacdekfbfhaa
open Go.RowKit
set_option linter.unusedSimpArgs false
set_option linter.unusedVariables false
set_option maxHeartbeats 2000000
set_option maxRecDepth 100000
theorem int_one : ∀ x : Int, ∀ u ∈ [Value.int .i64 x], u.oneCell' = true := by intro x u hu; simp at hu; subst hu; rfl
/-- The first j are no greater than x. -/
def LeT (S : List Int) (x : Int) (j : Nat) : Prop := ∀ i y, i < j → S[i]? = some y → y ≤ x
theorem LeT.next {S : List Int} {x y : Int} {j : Nat} (h : LeT S x j) (hy : S[j]? = some y) (hyx : y ≤ x) : LeT S x (j + 1) := by
  intro i z hi hz
  rcases Nat.lt_or_ge i j with hlt | hge
  · exact h i z hlt hz
  · obtain rfl : i = j := by omega
    rw [hy] at hz; injection hz with hz; omega
theorem ins_split {x : Int} : ∀ {S : List Int} {j : Nat}, LeT S x j → j ≤ S.length → (∀ y, S[j]? = some y → ¬ y ≤ x) → insI x S = S.take j ++ [x] ++ S.drop j
  | [], j, _, hj, _ => by
    have : j = 0 := by simpa using hj
    subst this; rfl
  | y :: S, 0, _, _, h2 => by
    have hyx := h2 y rfl
    unfold insI
    rw [List.takeWhile_cons, List.dropWhile_cons]
    simp [hyx]
  | y :: S, j + 1, h1, hj, h2 => by
    have hyx := h1 0 y (by omega) rfl
    have ih := ins_split (x := x) (S := S) (j := j) (fun i z hi hz => h1 (i + 1) z (by omega) (by simpa using hz)) (by simpa using hj) (fun z hz => h2 z (by simpa using hz))
    unfold insI at *
    rw [List.takeWhile_cons, List.dropWhile_cons]
    simp only [hyx, decide_true, if_true]
    rw [List.cons_append, ih]
    simp
theorem isort_next {l : List Int} {k : Nat} {x : Int} (h : l[k]? = some x) : isortI (l.take (k + 1)) = insI x (isortI (l.take k)) := by
  rw [take_next h]; unfold isortI; rw [List.foldl_append]; rfl
theorem isort_len (l : List Int) : (isortI l).length = l.length := (isortI_both l).1.length_eq
theorem ownI_made (w : World) (base : Nat) (hb : base ≤ w.heap.size) : OwnI (w.alloc (.cells #[] 2)) base (.slice (some ⟨w.heap.size, 0, none⟩) 0 0) [] :=
  Own.mono (World.ownsRow_made w #[] 0 (Nat.le_refl _) (Nat.zero_le _) rfl) hb
theorem ref10_Sorted (A : Option Addr) (len cap : Nat) (l : List Smp) (w : World) (hs : SmpsAre w A len cap l) (hn : len ≤ 1000) :
    Calls Try.prog 28 #[.slice A len cap] w fun e w' => ∃ v, e = .returned v ∧ OwnI w' w.heap.size v (isortI (valq l)) ∧ Below w.heap.size w w' := by
  have HV := Lib.hid (ref09_Values A len cap l w hs hn)
  have hVl : (valq l).length = len := by rw [valq_len, hs.1]
  have HVl := Lib.hid hVl
  clear hs hVl
  generalize valq l = vs at *
  go_enter Try.func28, Try.ntmps28
  go_wp2_with (go_at_call 74; refine HV.out.mono ?_; rintro e w1 ⟨u, rfl, ho1, hb1⟩; obtain ⟨A1, n1, cv, rfl, hn1, hi1⟩ := ownI_is ho1; obtain rfl : len = n1 := (by rw [hn1]; exact HVl.out.symm); have I1 := Lib.hid hi1; have B1 := Lib.hid hb1; clear ho1 hb1 hi1 hn1)
  go_loopw [4, 5] (fun o i wr => ∃ (k : Nat) (Ao : Option Addr) (no co : Nat), k ≤ len ∧ i = .int .i64 k ∧ o = .slice Ao no co ∧ OwnI wr w1.heap.size (.slice Ao no co) (isortI (vs.take k)) ∧ Below w1.heap.size w1 wr) (fun _ i _ => len - (intOf i).toNat)
  case atStart => exact ⟨0, none, 0, 0, Nat.zero_le _, rfl, rfl, Own.nil _ _ _ _ _, Below.refl _ _⟩
  case round =>
    obtain ⟨k, Ao, no, co, hk, rfl, rfl, hown, hbel⟩ := hrel
    have HO := Lib.hid hown
    have HB := Lib.hid hbel
    by_cases hlt : k < len
    · obtain ⟨b, off, x, rfl, hx, hb, hc⟩ := IntsAre.at_ I1.out hlt
      have hki : (k : Int) < (len : Int) := by omega
      have HN := Lib.hid (isort_next hx)
      have HC := Lib.hid (fun (W : World) (h : Below w1.heap.size w1 W) => (h.cell (p := ⟨b, off + k, none⟩) hb).trans hc)
      have hSl : (isortI (vs.take k)).length ≤ 1000 := by rw [isort_len]; have : (vs.take k).length ≤ k := List.length_take_le _ _; omega
      have HSl := Lib.hid hSl
      clear hx hb hc
      generalize isortI (vs.take k) = S at *
      obtain ⟨wo, rfl⟩ : ∃ wo : World, wo = wr := ⟨_, rfl⟩
      rcases hown.2 with ⟨hv, hn0⟩ | ⟨g, capg, cur, hv, hbg, hg, hnc, hcm, hcs, htk⟩
      · cases hv
        have hS0 : S = [] := List.eq_nil_of_length_eq_zero hn0
        subst hS0
        have HN2 := Lib.hid (show insI x [] = [] ++ [x] ++ [] from rfl)
        have kx := HC.out wo HB.out
        clear hown hbel hn0 hSl
        go_wp2
        refine wp_loop_rounds 1 ?_
        rw [rounds_succ]
        go_wp2
        go_quiet (fail)
        have EB0 := Lib.hid (below_drewN HB.out nq)
        generalize wo.drewN nq = W0 at *
        have O5 := Lib.hid (ownI_made W0 w1.heap.size EB0.out.size)
        have E5 := Lib.hid (EB0.out.alloc EB0.out.size (.cells #[] 2))
        have kx5 := HC.out _ E5.out
        go_wp2_with (first
          | (at_builtin; refine push_int _ rfl (.tmp 38) (.tmp 43) rfl w1.heap.size (.slice (some ⟨W0.heap.size, 0, none⟩) 0 0) [] rfl (Own.alloc O5.out _) ⟨W0.heap.size + 1, 0, none⟩ 1 x rfl ((Blk.new2 W0 (.cells #[] 2) 2 #[.int .i64 x]).cellv (i := 0) (v := .int .i64 x) rfl) (by first | (simp; done) | (have := HSl.out; simp; omega)) ((E5.out.alloc E5.out.size _).size) ?_; intro v' w' ho hb2; obtain ⟨A6, n6, c6, rfl, -, -⟩ := ownI_is ho; have O6 := Lib.hid ho; have E6 := Lib.hid (Below.trans (E5.out.alloc E5.out.size (.cells #[.int .i64 x] 2)) hb2); clear ho hb2 kx5)
          | (at_builtin; refine wpList_cat _ rfl (.tmp 45) (.tmp 48) 52 rfl w1.heap.size 2 _ 1 8 (fun n : Int => [Value.int .i64 n]) Try.underlying52 info_i64 (by rfl) (by decide) (fun _ => rfl) int_one (.slice A6 n6 c6) _ rfl O6.out none 0 0 [] rfl (slice_nil _ _ _) (by first | (simp; done) | (have := HSl.out; simp; omega)) (by decide) (E6.out.size) ?_; intro v' w' ho hb2 hg2; obtain ⟨A7, n7, c7, rfl, -, -⟩ := ownI_is ho; have O7 := Lib.hid ho; have E7 := Lib.hid (E6.out.trans hb2); clear ho hb2 hg2))
        go_roundw
        case rel => exact ⟨k + 1, A7, n7, c7, by omega, by go_num, rfl, by rw [HN.out, HN2.out]; exact O7.out, E7.out⟩
        case measure => simp [intOf]; omega
      · cases hv
        have hSI := (ownI_is hown)
        obtain ⟨Aq, nq2, cq, hq, -, hSl2⟩ := hSI
        cases hq
        have HSI := Lib.hid hSl2
        have hno : S.length ≤ 1000 := hSl
        have hcap : co ≤ 9223372036854775807 := by unfold maxLen at hcm; omega
        clear hown hbel hg htk hcs hcm hSl hSl2
        generalize hnn : S.length = n at *
        have HSn := Lib.hid hnn
        clear hnn
        go_wp2
        go_loopw [6] (fun a wr2 => ∃ j : Nat, j ≤ n ∧ a = .int .i64 j ∧ LeT S x j ∧ Below wo.heap.size wo wr2) (fun a _ => n - (intOf a).toNat)
        case atStart => exact ⟨0, Nat.zero_le _, rfl, (fun i y hi => by omega), Below.refl _ _⟩
        case round =>
          obtain ⟨j, hj, rfl, hle, hb2⟩ := hrel
          have HLe := Lib.hid hle
          have HB2 := Lib.hid hb2
          have HJ := Lib.hid hj
          have kx := HC.out wr (HB.out.trans (HB2.out.mono HB.out.size))
          clear hle hb2
          by_cases hc : j < n
          · obtain ⟨bg, og, y, hA, hy, hgb, hcy⟩ := IntsAre.at_ (slice_keep HSI.out HB2.out) hc
            cases hA
            rw [Nat.zero_add] at hcy
            have hji : (j : Int) < (n : Int) := by omega
            have dj : decide ((j : Int) < (n : Int)) = true := by simpa using hc
            by_cases hyx : y ≤ x
            · have HLn := Lib.hid (HLe.out.next hy hyx)
              have dy : decide (y ≤ x) = true := by simpa using hyx
              clear hy hgb hyx
              go_wp2
              go_quiet (fail)
              go_wp2
              go_roundw
              case rel => exact ⟨j + 1, by omega, by go_num, HLn.out, below_drewN HB2.out nq⟩
              case measure => simp [intOf]; omega
            · have HSp := Lib.hid (ins_split HLe.out (by rw [HSn.out]; exact hj) (fun z hz => by rw [hy] at hz; injection hz with hz; omega))
              have dy : decide (y ≤ x) = false := by simpa using hyx
              clear hy hgb hyx
              go_wp2
              go_quiet (fail)
              have EB0 := Lib.hid (below_drewN (HB.out.trans (HB2.out.mono HB.out.size)) nq)
              have HS0 := Lib.hid (slice_keep HSI.out (below_drewN HB2.out nq))
              have kx0 := HC.out _ EB0.out
              generalize wr.drewN nq = W0 at *
              · have hjc2 : j < co := by omega
                go_wp2_with (first
                  | (at_builtin; refine wpList_cat _ rfl (.tmp 33) (.tmp 36) 52 rfl W0.heap.size 2 _ 1 8 (fun n : Int => [Value.int .i64 n]) Try.underlying52 info_i64 (by rfl) (by decide) (fun _ => rfl) int_one (.slice (some ⟨W0.heap.size, 0, none⟩) 0 0) [] rfl (ownI_made W0 W0.heap.size (Nat.le_refl _)) (some ⟨g, 0, none⟩) j co (S.take j) rfl (slice_take (slice_keep HS0.out (by go_grown)) HJ.out) (by first | (simp; done) | (have := HSl.out; have := HJ.out; simp; omega)) (by decide) (by simp) ?_; intro v' w' ho hb2 hg2; obtain ⟨A5, n5, c5, rfl, -, -⟩ := ownI_is ho; have O5 := Lib.hid ho; have F5 := Lib.hid (Below.trans ((Below.refl W0.heap.size W0).alloc (Nat.le_refl _) (.cells #[] 2)) hb2); have kx5 := HC.out _ (EB0.out.trans (F5.out.mono EB0.out.size)); clear ho hb2 hg2)
                  | (at_builtin; refine push_int _ rfl (.tmp 38) (.tmp 43) rfl W0.heap.size (.slice A5 n5 c5) _ rfl (Own.alloc O5.out _) ⟨_, 0, none⟩ 1 x rfl ((Blk.new _ 2 #[.int .i64 x]).cellv (i := 0) (v := .int .i64 x) rfl) (by first | (simp; done) | (have := HSl.out; have := HJ.out; simp; omega)) ((F5.out.alloc F5.out.size _).size) ?_; intro v' w' ho hb2; obtain ⟨A6, n6, c6, rfl, -, -⟩ := ownI_is ho; have O6 := Lib.hid ho; have F6 := Lib.hid (Below.trans (F5.out.alloc F5.out.size (.cells #[.int .i64 x] 2)) hb2); clear ho hb2 kx5)
                  | (at_builtin; refine wpList_cat _ rfl (.tmp 45) (.tmp 48) 52 rfl W0.heap.size 2 _ 1 8 (fun n : Int => [Value.int .i64 n]) Try.underlying52 info_i64 (by rfl) (by decide) (fun _ => rfl) int_one (.slice A6 n6 c6) _ rfl O6.out (some ⟨g, j, none⟩) (n - j) (co - j) (S.drop j) rfl (by have := slice_drop (slice_keep HS0.out F6.out) HJ.out; simpa using this) (by first | (simp; done) | (have := HSl.out; have := HJ.out; simp; omega)) (by decide) (F6.out.size) ?_; intro v' w' ho hb2 hg2; obtain ⟨A7, n7, c7, rfl, -, -⟩ := ownI_is ho; have O7 := Lib.hid ho; have F7 := Lib.hid (F6.out.trans hb2); clear ho hb2 hg2))
                go_roundw
                case rel => exact ⟨k + 1, A7, n7, c7, by omega, by go_num, rfl, by rw [HN.out, HSp.out]; exact O7.out.mono EB0.out.size, EB0.out.trans (F7.out.mono EB0.out.size)⟩
                case measure => simp [intOf]; omega
          · have HSp := Lib.hid (ins_split HLe.out (by rw [HSn.out]; exact hj) (fun z hz => absurd (List.getElem?_eq_some_iff.1 hz).1 (by rw [HSn.out]; exact hc)))
            obtain rfl : n = j := by omega
            have dj : decide ((n : Int) < (n : Int)) = false := by simp
            go_wp2
            go_quiet (fail)
            have EB0 := Lib.hid (below_drewN (HB.out.trans (HB2.out.mono HB.out.size)) nq)
            have HS0 := Lib.hid (slice_keep HSI.out (below_drewN HB2.out nq))
            have kx0 := HC.out _ EB0.out
            generalize wr.drewN nq = W0 at *
            by_cases hjc : co = n
            · subst hjc
              have HD0 := Lib.hid (show S.drop co = [] from List.drop_eq_nil_of_le (by rw [HSn.out]; omega))
              go_wp2_with (first
                | (at_builtin; refine wpList_cat _ rfl (.tmp 33) (.tmp 36) 52 rfl W0.heap.size 2 _ 1 8 (fun n : Int => [Value.int .i64 n]) Try.underlying52 info_i64 (by rfl) (by decide) (fun _ => rfl) int_one (.slice (some ⟨W0.heap.size, 0, none⟩) 0 0) [] rfl (ownI_made W0 W0.heap.size (Nat.le_refl _)) (some ⟨g, 0, none⟩) co co (S.take co) rfl (slice_take (slice_keep HS0.out (by go_grown)) HJ.out) (by first | (simp; done) | (have := HSl.out; have := HJ.out; simp; omega)) (by decide) (by simp) ?_; intro v' w' ho hb2 hg2; obtain ⟨A5, n5, c5, rfl, -, -⟩ := ownI_is ho; have O5 := Lib.hid ho; have F5 := Lib.hid (Below.trans ((Below.refl W0.heap.size W0).alloc (Nat.le_refl _) (.cells #[] 2)) hb2); have kx5 := HC.out _ (EB0.out.trans (F5.out.mono EB0.out.size)); clear ho hb2 hg2)
                | (at_builtin; refine push_int _ rfl (.tmp 38) (.tmp 43) rfl W0.heap.size (.slice A5 n5 c5) _ rfl (Own.alloc O5.out _) ⟨_, 0, none⟩ 1 x rfl ((Blk.new _ 2 #[.int .i64 x]).cellv (i := 0) (v := .int .i64 x) rfl) (by first | (simp; done) | (have := HSl.out; have := HJ.out; simp; omega)) ((F5.out.alloc F5.out.size _).size) ?_; intro v' w' ho hb2; obtain ⟨A6, n6, c6, rfl, -, -⟩ := ownI_is ho; have O6 := Lib.hid ho; have F6 := Lib.hid (Below.trans (F5.out.alloc F5.out.size (.cells #[.int .i64 x] 2)) hb2); clear ho hb2 kx5)
                | (at_builtin; refine wpList_cat _ rfl (.tmp 45) (.tmp 48) 52 rfl W0.heap.size 2 _ 1 8 (fun n : Int => [Value.int .i64 n]) Try.underlying52 info_i64 (by rfl) (by decide) (fun _ => rfl) int_one (.slice A6 n6 c6) _ rfl O6.out (some ⟨g, 0, none⟩) 0 0 (S.drop co) rfl (by rw [HD0.out]; exact ⟨rfl, Nat.le_refl _, Nat.zero_le _, (fun h => by cases h), fun a ha => ⟨fun i x hi => by simp at hi, fun h => absurd h (by omega)⟩⟩) (by first | (simp; done) | (have := HSl.out; have := HJ.out; simp; omega)) (by decide) (F6.out.size) ?_; intro v' w' ho hb2 hg2; obtain ⟨A7, n7, c7, rfl, -, -⟩ := ownI_is ho; have O7 := Lib.hid ho; have F7 := Lib.hid (F6.out.trans hb2); clear ho hb2 hg2))
              go_roundw
              case rel => exact ⟨k + 1, A7, n7, c7, by omega, by go_num, rfl, by rw [HN.out, HSp.out]; exact O7.out.mono EB0.out.size, EB0.out.trans (F7.out.mono EB0.out.size)⟩
              case measure => simp [intOf]; omega
            · have hjc2 : n < co := by omega
              go_wp2_with (first
                | (at_builtin; refine wpList_cat _ rfl (.tmp 33) (.tmp 36) 52 rfl W0.heap.size 2 _ 1 8 (fun n : Int => [Value.int .i64 n]) Try.underlying52 info_i64 (by rfl) (by decide) (fun _ => rfl) int_one (.slice (some ⟨W0.heap.size, 0, none⟩) 0 0) [] rfl (ownI_made W0 W0.heap.size (Nat.le_refl _)) (some ⟨g, 0, none⟩) n co (S.take n) rfl (slice_take (slice_keep HS0.out (by go_grown)) HJ.out) (by first | (simp; done) | (have := HSl.out; have := HJ.out; simp; omega)) (by decide) (by simp) ?_; intro v' w' ho hb2 hg2; obtain ⟨A5, n5, c5, rfl, -, -⟩ := ownI_is ho; have O5 := Lib.hid ho; have F5 := Lib.hid (Below.trans ((Below.refl W0.heap.size W0).alloc (Nat.le_refl _) (.cells #[] 2)) hb2); have kx5 := HC.out _ (EB0.out.trans (F5.out.mono EB0.out.size)); clear ho hb2 hg2)
                | (at_builtin; refine push_int _ rfl (.tmp 38) (.tmp 43) rfl W0.heap.size (.slice A5 n5 c5) _ rfl (Own.alloc O5.out _) ⟨_, 0, none⟩ 1 x rfl ((Blk.new _ 2 #[.int .i64 x]).cellv (i := 0) (v := .int .i64 x) rfl) (by first | (simp; done) | (have := HSl.out; have := HJ.out; simp; omega)) ((F5.out.alloc F5.out.size _).size) ?_; intro v' w' ho hb2; obtain ⟨A6, n6, c6, rfl, -, -⟩ := ownI_is ho; have O6 := Lib.hid ho; have F6 := Lib.hid (Below.trans (F5.out.alloc F5.out.size (.cells #[.int .i64 x] 2)) hb2); clear ho hb2 kx5)
                | (at_builtin; refine wpList_cat _ rfl (.tmp 45) (.tmp 48) 52 rfl W0.heap.size 2 _ 1 8 (fun n : Int => [Value.int .i64 n]) Try.underlying52 info_i64 (by rfl) (by decide) (fun _ => rfl) int_one (.slice A6 n6 c6) _ rfl O6.out (some ⟨g, n, none⟩) 0 (co - n) (S.drop n) rfl (by have := slice_drop (slice_keep HS0.out F6.out) HJ.out; simpa using this) (by first | (simp; done) | (have := HSl.out; have := HJ.out; simp; omega)) (by decide) (F6.out.size) ?_; intro v' w' ho hb2 hg2; obtain ⟨A7, n7, c7, rfl, -, -⟩ := ownI_is ho; have O7 := Lib.hid ho; have F7 := Lib.hid (F6.out.trans hb2); clear ho hb2 hg2))
              go_roundw
              case rel => exact ⟨k + 1, A7, n7, c7, by omega, by go_num, rfl, by rw [HN.out, HSp.out]; exact O7.out.mono EB0.out.size, EB0.out.trans (F7.out.mono EB0.out.size)⟩
              case measure => simp [intOf]; omega
    · have hE : vs.take k = vs := List.take_of_length_le (by have := HVl.out; omega)
      rw [hE] at HO
      clear hE hown hbel
      go_wp2
      go_ret
      exact ⟨_, rfl, HO.out.mono B1.out.size, B1.out.trans (HB.out.mono B1.out.size)⟩
end Go.Proofs.Ytkjmacdekfbfhaa
