/- flywheelref10.Top: the walk. (fast region) -/
import Derived.Test.YtkjmacdekfbfhaaStab11
import Derived.Test.YtkjmacdekfbfhaaCat
import Derived.Test.YtkjmacdekfbfhaaPush2
import Derived.Deep.QuietTactic
import Derived.BigQuiet
namespace Go.Proofs.Ytkjmacdekfbfhaa
open Go.RowKit
set_option linter.unusedSimpArgs false
set_option linter.unusedVariables false
set_option maxHeartbeats 2000000
set_option maxRecDepth 100000
theorem ownS_is {w : World} {base : Nat} {v : Value} {l : List Smp} (h : OwnS w base v l) : ∃ A n c, v = .slice A n c ∧ n = l.length ∧ SmpsAre w A n c l := h.shape (fun _ => rfl)
/-- The first j may stand ahead of x. -/
def GeT (S : List Smp) (x : Smp) (j : Nat) : Prop := ∀ i y, i < j → S[i]? = some y → geb y x = true
theorem GeT.next {S : List Smp} {x y : Smp} {j : Nat} (h : GeT S x j) (hy : S[j]? = some y) (hyx : geb y x = true) : GeT S x (j + 1) := by
  intro i z hi hz
  rcases Nat.lt_or_ge i j with hlt | hge
  · exact h i z hlt hz
  · obtain rfl : i = j := by omega
    rw [hy] at hz; injection hz with hz; rw [← hz]; exact hyx
theorem insS_split {x : Smp} : ∀ {S : List Smp} {j : Nat}, GeT S x j → j ≤ S.length → (∀ y, S[j]? = some y → ¬ geb y x = true) → insS geb x S = S.take j ++ [x] ++ S.drop j
  | [], j, _, hj, _ => by
    have : j = 0 := by simpa using hj
    subst this; rfl
  | y :: S, 0, _, _, h2 => by
    have hyx := h2 y rfl
    unfold insS
    rw [List.takeWhile_cons, List.dropWhile_cons]
    simp [hyx]
  | y :: S, j + 1, h1, hj, h2 => by
    have hyx := h1 0 y (by omega) rfl
    have ih := insS_split (x := x) (S := S) (j := j) (fun i z hi hz => h1 (i + 1) z (by omega) (by simpa using hz)) (by simpa using hj) (fun z hz => h2 z (by simpa using hz))
    unfold insS at *
    rw [List.takeWhile_cons, List.dropWhile_cons]
    simp only [hyx, if_true]
    rw [List.cons_append, ih]
    simp
theorem isrtS_next {l : List Smp} {k : Nat} {x : Smp} (h : l[k]? = some x) : isrtS geb (l.take (k + 1)) = insS geb x (isrtS geb (l.take k)) := by
  rw [take_snoc2 h, isrtS_snoc]
theorem ownS_made (w : World) (base : Nat) (hb : base ≤ w.heap.size) : OwnS (w.alloc (.cells #[] 65)) base (.slice (some ⟨w.heap.size, 0, none⟩) 0 0) [] :=
  Own.mono (World.ownsRow_made w #[] 0 (Nat.le_refl _) (Nat.zero_le _) rfl) hb
theorem ref10_Top (A : Option Addr) (len cap : Nat) (vs : List Smp) (w : World) (hs : SmpsAre w A len cap vs) (hn : len ≤ 1000) :
    Calls Try.prog 39 #[.slice A len cap] w fun e w' => ∃ v, e = .returned v ∧ OwnS w' w.heap.size v (isrtS geb vs) ∧ Below w.heap.size w w' := by
  have I1 := Lib.hid hs
  have HVl := Lib.hid hs.1
  have B1 := Lib.hid (Below.refl w.heap.size w)
  clear hs
  go_enter Try.func39, Try.ntmps39
  go_wp2
  go_loopw [3, 4] (fun o i wr => ∃ (k : Nat) (Ao : Option Addr) (no co : Nat), k ≤ len ∧ i = .int .i64 k ∧ o = .slice Ao no co ∧ OwnS wr w.heap.size (.slice Ao no co) (isrtS geb (vs.take k)) ∧ Below w.heap.size w wr) (fun _ i _ => len - (intOf i).toNat)
  case atStart => exact ⟨0, none, 0, 0, Nat.zero_le _, rfl, rfl, Own.nil _ _ _ _ _, Below.refl _ _⟩
  case round =>
    obtain ⟨k, Ao, no, co, hk, rfl, rfl, hown, hbel⟩ := hrel
    have HO := Lib.hid hown
    have HB := Lib.hid hbel
    by_cases hlt : k < len
    · obtain ⟨b, off, x, rfl, hx, hb, hc, hd⟩ := SmpsAre.at_ I1.out hlt
      have hki : (k : Int) < (len : Int) := by omega
      have HN := Lib.hid (isrtS_next hx)
      have HC := Lib.hid (fun (W : World) (h : Below w.heap.size w W) => And.intro ((h.cell (p := ⟨b, off + k * 2, none⟩) hb).trans hc) ((h.cell (p := ⟨b, off + k * 2 + 1, none⟩) hb).trans hd))
      have hSl : (isrtS geb (vs.take k)).length ≤ 1000 := by rw [isrtS_len]; have : (vs.take k).length ≤ k := List.length_take_le _ _; omega
      have HSl := Lib.hid hSl
      clear hx hb hc hd
      generalize isrtS geb (vs.take k) = S at *
      obtain ⟨wo, rfl⟩ : ∃ wo : World, wo = wr := ⟨_, rfl⟩
      rcases hown.2 with ⟨hv, hn0⟩ | ⟨g, capg, cur, hv, hbg, hg, hnc, hcm, hcs, htk⟩
      · cases hv
        have hS0 : S = [] := List.eq_nil_of_length_eq_zero hn0
        subst hS0
        have HN2 := Lib.hid (show insS geb x [] = [] ++ [x] ++ [] from rfl)
        obtain ⟨kx, ky⟩ := HC.out wo HB.out
        clear hown hbel hn0 hSl
        go_wp2
        refine wp_loop_rounds 1 ?_
        rw [rounds_succ]
        go_wp2
        go_quiet (fail)
        have EB0 := Lib.hid (below_drewN HB.out nq)
        generalize wo.drewN nq = W0 at *
        have O5 := Lib.hid (ownS_made W0 w.heap.size EB0.out.size)
        have E5 := Lib.hid (EB0.out.alloc EB0.out.size (.cells #[] 65))
        obtain ⟨kx5, ky5⟩ := HC.out _ E5.out
        go_wp2_with (first
          | (at_builtin; refine push_smp _ rfl (.tmp 37) (.tmp 42) rfl w.heap.size (.slice (some ⟨W0.heap.size, 0, none⟩) 0 0) [] rfl (Own.alloc O5.out _) (W0.heap.size + 1) 65 1 x rfl (Blk.new2 W0 (.cells #[] 65) 65 #[.int .i64 x.tick, .int .i64 x.value]) (by first | (simp; done) | (have := HSl.out; simp; omega)) ((E5.out.alloc E5.out.size _).size) ?_; intro v' w' ho hb2 hgx; obtain ⟨A6, n6, c6, rfl, -, -⟩ := ownS_is ho; have O6 := Lib.hid ho; have E6 := Lib.hid (Below.trans (E5.out.alloc E5.out.size (.cells #[.int .i64 x.tick, .int .i64 x.value] 65)) hb2); clear ho hb2 hgx kx5 ky5)
          | (at_builtin; refine cat_smp _ rfl (.tmp 44) (.tmp 47) rfl w.heap.size (.slice A6 n6 c6) _ rfl O6.out none 0 0 [] rfl (slice_nil _ _ _) (by first | (simp; done) | (have := HSl.out; simp; omega)) (E6.out.size) ?_; intro v' w' ho hb2 hg2; obtain ⟨A7, n7, c7, rfl, -, -⟩ := ownS_is ho; have O7 := Lib.hid ho; have E7 := Lib.hid (E6.out.trans hb2); clear ho hb2 hg2))
        go_roundw
        case rel => exact ⟨k + 1, A7, n7, c7, by omega, by go_num, rfl, by rw [HN.out, HN2.out]; exact O7.out, E7.out⟩
        case measure => simp [intOf]; omega
      · cases hv
        have hSI := (ownS_is hown)
        obtain ⟨Aq, nq2, cq, hq, -, hSl2⟩ := hSI
        cases hq
        have HSI := Lib.hid hSl2
        have hno : S.length ≤ 1000 := hSl
        have hcap : co ≤ 9223372036854775807 := by unfold maxLen at hcm; omega
        clear hown hbel hg htk hcs hcm hSl hSl2
        generalize hnn : S.length = n at *
        have HSn := Lib.hid hnn
        clear hnn
        go_wp2
        go_loopw [5] (fun a wr2 => ∃ j : Nat, j ≤ n ∧ a = .int .i64 j ∧ GeT S x j ∧ Below wo.heap.size wo wr2) (fun a _ => n - (intOf a).toNat)
        case atStart => exact ⟨0, Nat.zero_le _, rfl, (fun i y hi => by omega), Below.refl _ _⟩
        case round =>
          obtain ⟨j, hj, rfl, hle, hb2⟩ := hrel
          have HLe := Lib.hid hle
          have HB2 := Lib.hid hb2
          have HJ := Lib.hid hj
          obtain ⟨kx, ky⟩ := HC.out wr (HB.out.trans (HB2.out.mono HB.out.size))
          clear hle hb2
          by_cases hc : j < n
          · obtain ⟨bg, og, y, hA, hy, hgb, hcx, hcy⟩ := SmpsAre.at_ (slice_keep HSI.out HB2.out) hc
            cases hA
            rw [Nat.zero_add] at hcx hcy
            have hji : (j : Int) < (n : Int) := by omega
            have dj : decide ((j : Int) < (n : Int)) = true := by simpa using hc
            by_cases hyx : geb y x = true
            · have HLn := Lib.hid (HLe.out.next hy hyx)
              have dy : decide (x.value ≤ y.value) = true := hyx
              clear hy hgb hyx
              go_wp2
              go_quiet (fail)
              go_wp2
              go_roundw
              case rel => exact ⟨j + 1, by omega, by go_num, HLn.out, below_drewN HB2.out nq⟩
              case measure => simp [intOf]; omega
            · have HSp := Lib.hid (insS_split HLe.out (by rw [HSn.out]; exact hj) (fun z hz => by rw [hy] at hz; injection hz with hz; rw [← hz]; exact hyx))
              have dy : decide (x.value ≤ y.value) = false := by simpa [geb] using hyx
              clear hy hgb hyx
              go_wp2
              go_quiet (fail)
              have EB0 := Lib.hid (below_drewN (HB.out.trans (HB2.out.mono HB.out.size)) nq)
              have HS0 := Lib.hid (slice_keep HSI.out (below_drewN HB2.out nq))
              obtain ⟨kx0, ky0⟩ := HC.out _ EB0.out
              generalize wr.drewN nq = W0 at *
              · have hjc2 : j < co := by omega
                go_wp2_with (first
                  | (at_builtin; refine cat_smp _ rfl (.tmp 32) (.tmp 35) rfl W0.heap.size (.slice (some ⟨W0.heap.size, 0, none⟩) 0 0) [] rfl (ownS_made W0 W0.heap.size (Nat.le_refl _)) (some ⟨g, 0, none⟩) j co (S.take j) rfl (slice_take (slice_keep HS0.out (by go_grown)) HJ.out) (by first | (simp; done) | (have := HSl.out; have := HJ.out; simp; omega)) (by simp) ?_; intro v' w' ho hb2 hg2; obtain ⟨A5, n5, c5, rfl, -, -⟩ := ownS_is ho; have O5 := Lib.hid ho; have F5 := Lib.hid (Below.trans ((Below.refl W0.heap.size W0).alloc (Nat.le_refl _) (.cells #[] 65)) hb2); obtain ⟨kx5, ky5⟩ := HC.out _ (EB0.out.trans (F5.out.mono EB0.out.size)); clear ho hb2 hg2)
                  | (at_builtin; refine push_smp _ rfl (.tmp 37) (.tmp 42) rfl W0.heap.size (.slice A5 n5 c5) _ rfl (Own.alloc O5.out _) _ 65 1 x rfl (Blk.new _ 65 #[.int .i64 x.tick, .int .i64 x.value]) (by first | (simp; done) | (have := HSl.out; have := HJ.out; simp; omega)) ((F5.out.alloc F5.out.size _).size) ?_; intro v' w' ho hb2 hgx; obtain ⟨A6, n6, c6, rfl, -, -⟩ := ownS_is ho; have O6 := Lib.hid ho; have F6 := Lib.hid (Below.trans (F5.out.alloc F5.out.size (.cells #[.int .i64 x.tick, .int .i64 x.value] 65)) hb2); clear ho hb2 hgx kx5 ky5)
                  | (at_builtin; refine cat_smp _ rfl (.tmp 44) (.tmp 47) rfl W0.heap.size (.slice A6 n6 c6) _ rfl O6.out (some ⟨g, j * 2, none⟩) (n - j) (co - j) (S.drop j) rfl (by have := slice_drop (slice_keep HS0.out F6.out) HJ.out; simpa using this) (by first | (simp; done) | (have := HSl.out; have := HJ.out; simp; omega)) (F6.out.size) ?_; intro v' w' ho hb2 hg2; obtain ⟨A7, n7, c7, rfl, -, -⟩ := ownS_is ho; have O7 := Lib.hid ho; have F7 := Lib.hid (F6.out.trans hb2); clear ho hb2 hg2))
                go_roundw
                case rel => exact ⟨k + 1, A7, n7, c7, by omega, by go_num, rfl, by rw [HN.out, HSp.out]; exact O7.out.mono EB0.out.size, EB0.out.trans (F7.out.mono EB0.out.size)⟩
                case measure => simp [intOf]; omega
          · have HSp := Lib.hid (insS_split HLe.out (by rw [HSn.out]; exact hj) (fun z hz => absurd (List.getElem?_eq_some_iff.1 hz).1 (by rw [HSn.out]; exact hc)))
            obtain rfl : n = j := by omega
            have dj : decide ((n : Int) < (n : Int)) = false := by simp
            go_wp2
            go_quiet (fail)
            have EB0 := Lib.hid (below_drewN (HB.out.trans (HB2.out.mono HB.out.size)) nq)
            have HS0 := Lib.hid (slice_keep HSI.out (below_drewN HB2.out nq))
            obtain ⟨kx0, ky0⟩ := HC.out _ EB0.out
            generalize wr.drewN nq = W0 at *
            by_cases hjc : co = n
            · subst hjc
              have HD0 := Lib.hid (show S.drop co = [] from List.drop_eq_nil_of_le (by rw [HSn.out]; omega))
              go_wp2_with (first
                | (at_builtin; refine cat_smp _ rfl (.tmp 32) (.tmp 35) rfl W0.heap.size (.slice (some ⟨W0.heap.size, 0, none⟩) 0 0) [] rfl (ownS_made W0 W0.heap.size (Nat.le_refl _)) (some ⟨g, 0, none⟩) co co (S.take co) rfl (slice_take (slice_keep HS0.out (by go_grown)) HJ.out) (by first | (simp; done) | (have := HSl.out; have := HJ.out; simp; omega)) (by simp) ?_; intro v' w' ho hb2 hg2; obtain ⟨A5, n5, c5, rfl, -, -⟩ := ownS_is ho; have O5 := Lib.hid ho; have F5 := Lib.hid (Below.trans ((Below.refl W0.heap.size W0).alloc (Nat.le_refl _) (.cells #[] 65)) hb2); obtain ⟨kx5, ky5⟩ := HC.out _ (EB0.out.trans (F5.out.mono EB0.out.size)); clear ho hb2 hg2)
                | (at_builtin; refine push_smp _ rfl (.tmp 37) (.tmp 42) rfl W0.heap.size (.slice A5 n5 c5) _ rfl (Own.alloc O5.out _) _ 65 1 x rfl (Blk.new _ 65 #[.int .i64 x.tick, .int .i64 x.value]) (by first | (simp; done) | (have := HSl.out; have := HJ.out; simp; omega)) ((F5.out.alloc F5.out.size _).size) ?_; intro v' w' ho hb2 hgx; obtain ⟨A6, n6, c6, rfl, -, -⟩ := ownS_is ho; have O6 := Lib.hid ho; have F6 := Lib.hid (Below.trans (F5.out.alloc F5.out.size (.cells #[.int .i64 x.tick, .int .i64 x.value] 65)) hb2); clear ho hb2 hgx kx5 ky5)
                | (at_builtin; refine cat_smp _ rfl (.tmp 44) (.tmp 47) rfl W0.heap.size (.slice A6 n6 c6) _ rfl O6.out (some ⟨g, 0, none⟩) 0 0 (S.drop co) rfl (by rw [HD0.out]; exact ⟨rfl, Nat.le_refl _, Nat.zero_le _, (fun h => by cases h), fun a ha => ⟨fun i x hi => by simp at hi, fun h => absurd h (by omega)⟩⟩) (by first | (simp; done) | (have := HSl.out; have := HJ.out; simp; omega)) (F6.out.size) ?_; intro v' w' ho hb2 hg2; obtain ⟨A7, n7, c7, rfl, -, -⟩ := ownS_is ho; have O7 := Lib.hid ho; have F7 := Lib.hid (F6.out.trans hb2); clear ho hb2 hg2))
              go_roundw
              case rel => exact ⟨k + 1, A7, n7, c7, by omega, by go_num, rfl, by rw [HN.out, HSp.out]; exact O7.out.mono EB0.out.size, EB0.out.trans (F7.out.mono EB0.out.size)⟩
              case measure => simp [intOf]; omega
            · have hjc2 : n < co := by omega
              go_wp2_with (first
                | (at_builtin; refine cat_smp _ rfl (.tmp 32) (.tmp 35) rfl W0.heap.size (.slice (some ⟨W0.heap.size, 0, none⟩) 0 0) [] rfl (ownS_made W0 W0.heap.size (Nat.le_refl _)) (some ⟨g, 0, none⟩) n co (S.take n) rfl (slice_take (slice_keep HS0.out (by go_grown)) HJ.out) (by first | (simp; done) | (have := HSl.out; have := HJ.out; simp; omega)) (by simp) ?_; intro v' w' ho hb2 hg2; obtain ⟨A5, n5, c5, rfl, -, -⟩ := ownS_is ho; have O5 := Lib.hid ho; have F5 := Lib.hid (Below.trans ((Below.refl W0.heap.size W0).alloc (Nat.le_refl _) (.cells #[] 65)) hb2); obtain ⟨kx5, ky5⟩ := HC.out _ (EB0.out.trans (F5.out.mono EB0.out.size)); clear ho hb2 hg2)
                | (at_builtin; refine push_smp _ rfl (.tmp 37) (.tmp 42) rfl W0.heap.size (.slice A5 n5 c5) _ rfl (Own.alloc O5.out _) _ 65 1 x rfl (Blk.new _ 65 #[.int .i64 x.tick, .int .i64 x.value]) (by first | (simp; done) | (have := HSl.out; have := HJ.out; simp; omega)) ((F5.out.alloc F5.out.size _).size) ?_; intro v' w' ho hb2 hgx; obtain ⟨A6, n6, c6, rfl, -, -⟩ := ownS_is ho; have O6 := Lib.hid ho; have F6 := Lib.hid (Below.trans (F5.out.alloc F5.out.size (.cells #[.int .i64 x.tick, .int .i64 x.value] 65)) hb2); clear ho hb2 hgx kx5 ky5)
                | (at_builtin; refine cat_smp _ rfl (.tmp 44) (.tmp 47) rfl W0.heap.size (.slice A6 n6 c6) _ rfl O6.out (some ⟨g, n * 2, none⟩) 0 (co - n) (S.drop n) rfl (by have := slice_drop (slice_keep HS0.out F6.out) HJ.out; simpa using this) (by first | (simp; done) | (have := HSl.out; have := HJ.out; simp; omega)) (F6.out.size) ?_; intro v' w' ho hb2 hg2; obtain ⟨A7, n7, c7, rfl, -, -⟩ := ownS_is ho; have O7 := Lib.hid ho; have F7 := Lib.hid (F6.out.trans hb2); clear ho hb2 hg2))
              go_roundw
              case rel => exact ⟨k + 1, A7, n7, c7, by omega, by go_num, rfl, by rw [HN.out, HSp.out]; exact O7.out.mono EB0.out.size, EB0.out.trans (F7.out.mono EB0.out.size)⟩
              case measure => simp [intOf]; omega
    · have hE : vs.take k = vs := List.take_of_length_le (by have := HVl.out; omega)
      rw [hE] at HO
      clear hE hown hbel
      go_wp2
      go_ret
      exact ⟨_, rfl, HO.out.mono B1.out.size, B1.out.trans (HB.out.mono B1.out.size)⟩
end Go.Proofs.Ytkjmacdekfbfhaa
