/- flywheelref46.put. -/
import Derived.Test.YtkjmacdekfbfhaaBMerge
import Derived.Test.YtkjmacdekfbfhaaSub
import Derived.Test.YtkjmacdekfbfhaaCat
import Derived.Test.YtkjmacdekfbfhaaPush2
namespace Go.Proofs.Ytkjmacdekfbfhaa
open Go.RowKit
set_option linter.unusedSimpArgs false
set_option linter.unusedVariables false
set_option maxHeartbeats 4000000
set_option maxRecDepth 100000
theorem ownS_isB {w : World} {base : Nat} {v : Value} {l : List Smp} (h : OwnS w base v l) : ∃ A n c, v = .slice A n c ∧ n = l.length ∧ SmpsAre w A n c l := h.shape (fun _ => rfl)
theorem ownS_madeB (w : World) (base : Nat) (hb : base ≤ w.heap.size) : OwnS (w.alloc (.cells #[] 65)) base (.slice (some ⟨w.heap.size, 0, none⟩) 0 0) [] :=
  Own.mono (World.ownsRow_made w #[] 0 (Nat.le_refl _) (Nat.zero_le _) rfl) hb
/-- The first j have lesser ticks. -/
def LtT (l : List Smp) (t : Int) (j : Nat) : Prop := ∀ i y, i < j → l[i]? = some y → y.tick < t
theorem LtT.next {l : List Smp} {t : Int} {j : Nat} {y : Smp} (h : LtT l t j) (hy : l[j]? = some y) (hyt : y.tick < t) : LtT l t (j + 1) := by
  intro i z hi hz
  rcases Nat.lt_or_ge i j with hlt | hge
  · exact h i z hlt hz
  · obtain rfl : i = j := by omega
    rw [hy] at hz; injection hz with hz; rw [← hz]; exact hyt
theorem putM_lt (t v : Int) : ∀ {l : List Smp} {j : Nat}, LtT l t j → putM t v l = l.take j ++ putM t v (l.drop j)
  | [], j, _ => by simp
  | x :: l, 0, _ => by simp
  | x :: l, j + 1, h => by
    have h0 := h 0 x (by omega) rfl
    have ih := putM_lt t v (l := l) (j := j) (fun i y hi hy => h (i + 1) y (by omega) (by simpa using hy))
    rw [putM, if_pos h0, ih]; simp
theorem putM_eq {t v : Int} {l : List Smp} {j : Nat} {x : Smp} (h : LtT l t j) (hx : l[j]? = some x) (ht : x.tick = t) : putM t v l = l.take j ++ [⟨t, min mxI (x.value + v)⟩] ++ l.drop (j + 1) := by
  have hj := (List.getElem?_eq_some_iff.1 hx).1
  have hd : l.drop j = x :: l.drop (j + 1) := by rw [List.drop_eq_getElem_cons hj, (List.getElem?_eq_some_iff.1 hx).2]
  rw [putM_lt t v h, hd, putM, if_neg (by omega), if_pos ht]; simp
theorem putM_gt {t v : Int} {l : List Smp} {j : Nat} {x : Smp} (h : LtT l t j) (hx : l[j]? = some x) (ht : t < x.tick) : putM t v l = l.take j ++ [⟨t, v⟩] ++ l.drop j := by
  have hj := (List.getElem?_eq_some_iff.1 hx).1
  have hd : l.drop j = x :: l.drop (j + 1) := by rw [List.drop_eq_getElem_cons hj, (List.getElem?_eq_some_iff.1 hx).2]
  rw [putM_lt t v h, hd, putM, if_neg (by omega), if_neg (by omega)]; simp
theorem putM_end {t v : Int} {l : List Smp} (h : LtT l t l.length) : putM t v l = l.take l.length ++ [⟨t, v⟩] ++ l.drop l.length := by
  rw [putM_lt t v h, List.drop_length, putM]; simp
def PutP (w : World) (l : List Smp) (e : Ending) (w' : World) : Prop := ∃ A n c, e = .returned (.slice A n c) ∧ OwnS w' w.heap.size (.slice A n c) l ∧ Below w.heap.size w w'
theorem ref46_put_nil (t v : Int) (w : World) : Calls Try.prog 78 #[.slice none 0 0, .int .i64 t, .int .i64 v] w (PutP w [⟨t, v⟩]) := by
  have O5 := Lib.hid (ownS_madeB w w.heap.size (Nat.le_refl _))
  have E5 := Lib.hid ((Below.refl w.heap.size w).alloc (Nat.le_refl _) (.cells #[] 65))
  go_enter Try.func78, Try.ntmps78
  go_wp2
  refine wp_loop_rounds 1 ?_
  rw [rounds_succ]
  go_wp2_with (first
    | (at_builtin; refine push_smp _ rfl (.tmp 60) (.tmp 64) rfl w.heap.size (.slice (some ⟨w.heap.size, 0, none⟩) 0 0) [] rfl (Own.alloc O5.out _) (w.heap.size + 1) 65 1 ⟨t, v⟩ rfl (Blk.new2 w (.cells #[] 65) 65 #[.int .i64 t, .int .i64 v]) (by simp) ((E5.out.alloc E5.out.size _).size) ?_; intro v' w' ho hb2 hgx; obtain ⟨A6, n6, c6, rfl, -, -⟩ := ownS_isB ho; have O6 := Lib.hid ho; have E6 := Lib.hid (Below.trans (E5.out.alloc E5.out.size (.cells #[.int .i64 t, .int .i64 v] 65)) hb2); clear ho hb2 hgx)
    | (at_builtin; refine cat_smp _ rfl (.tmp 66) (.tmp 69) rfl w.heap.size (.slice A6 n6 c6) _ rfl O6.out none 0 0 [] rfl (slice_nil _ _ _) (by simp) (E6.out.size) ?_; intro v' w' ho hb2 hg2; obtain ⟨A7, n7, c7, rfl, -, -⟩ := ownS_isB ho; have O7 := Lib.hid ho; have E7 := Lib.hid (E6.out.trans hb2); clear ho hb2 hg2))
  go_ret
  exact ⟨_, _, _, rfl, by simpa using O7.out, E7.out⟩
end Go.Proofs.Ytkjmacdekfbfhaa
