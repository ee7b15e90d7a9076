/- slices.Sort at []int64 that a call owns; rank.Sorted. -/
import Derived.Test.YtkjmacdekfbfhaaWin
import Derived.Test.YtkjmacdekfbfhaaShelf
import Derived.Sort.OwnSortedInts
namespace Go.Proofs.Ytkjmacdekfbfhaa
open Go.RowKit
set_option linter.unusedSimpArgs false
set_option linter.unusedVariables false
set_option maxHeartbeats 2000000
set_option maxRecDepth 100000
def sortI (l : List Int) : List Int := l.mergeSort fun x y => decide (x ≤ y)
theorem sortI_len (l : List Int) : (sortI l).length = l.length := List.length_mergeSort _
theorem flat_one (l : List Int) : l.flatMap (fun n : Int => [Value.int .i64 n]) = l.map (Value.int .i64) := by
  induction l with
  | nil => rfl
  | cons x l ih => rw [List.flatMap_cons, ih]; rfl
theorem slices_SortI (v : Value) (l : List Int) (base : Nat) (w : World) (h : OwnI w base v l) (hb : base ≤ w.heap.size) (hl : l.length ≤ 1000000) :
    Calls Try.prog 73 #[v] w fun e w' => e = .returned (.tuple #[]) ∧ OwnI w' base v (sortI l) ∧ Below base w w' := by
  rcases h.2 with ⟨rfl, hn⟩ | ⟨g, cap, cur, rfl, hbg, hg, hnc, hcm, hcs, htk⟩
  · have hl0 : l = [] := List.eq_nil_of_length_eq_zero hn
    subst hl0
    refine (Try.slices_Sort_int_none_f73 none 0 w).mono ?_
    rintro e w' ⟨rfl, rfl⟩
    exact ⟨rfl, by rw [show sortI [] = [] from List.mergeSort_nil]; exact Own.nil _ _ _ _ _, Below.refl _ _⟩
  · have hg2 : g < w.heap.size := (Array.getElem?_eq_some_iff.1 hg).1
    rw [flat_one, Nat.mul_one] at htk
    refine (Try.slices_Sort_int_f73 g 0 cap l w (Go.holds_of_blockI hg htk) hg2 (by omega)).mono ?_
    rintro e w' ⟨rfl, n, os, rfl⟩
    refine ⟨rfl, ?_, (Below.refl base w).grown (Go.grownBy_sortedI _) hb (fun k e => by cases e; exact hbg)⟩
    have := Go.ownsRow_sortedI (n := n) (os := os) (e := 2) (ss := l) (ts := sortI l) (base := base) (sortI_len l) hbg hg hnc hcm hcs
    show World.ownsRow _ _ _ _ _ (sortI l).length ((sortI l).flatMap _)
    rw [flat_one, sortI_len]
    exact this
theorem rank_Sorted (A : Option Addr) (len cap : Nat) (l : List Smp) (w : World) (hs : SmpsAre w A len cap l) (hn : len ≤ 1000) :
    Calls Try.prog 27 #[.slice A len cap] w fun e w' => ∃ v, e = .returned v ∧ OwnI w' w.heap.size v (sortI (valq l)) ∧ Below w.heap.size w w' := by
  have HV := Lib.hid (window_Values A len cap l w hs hn)
  have HLn := Lib.hid (show (valq l).length ≤ 1000000 by rw [valq_len, hs.1]; omega)
  clear hs
  go_enter Try.func27, Try.ntmps27
  go_wp2_with (first
    | (go_at_call 72; refine HV.out.mono ?_; rintro e w1 ⟨v, rfl, ho1, hb1⟩; have O1 := Lib.hid ho1; have B1 := Lib.hid hb1; clear ho1 hb1)
    | (go_at_call 73; refine (slices_SortI v (valq l) w.heap.size _ O1.out B1.out.size HLn.out).mono ?_; rintro e w2 ⟨rfl, ho2, hb2⟩; have O2 := Lib.hid ho2; have B2 := Lib.hid (B1.out.trans hb2); clear ho2 hb2))
  go_ret
  exact ⟨_, rfl, O2.out, B2.out⟩
end Go.Proofs.Ytkjmacdekfbfhaa
