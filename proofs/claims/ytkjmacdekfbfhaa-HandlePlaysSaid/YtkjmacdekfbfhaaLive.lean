/- handle.Table.Live: maps.Keys and slices.Sorted. -/
import Derived.Test.YtkjmacdekfbfhaaIter
import Derived.Test.YtkjmacdekfbfhaaHand
import Derived.Shelf.AbstractIn
namespace Go.Proofs.Ytkjmacdekfbfhaa
open Go.RowKit Go.Maps Go.Sort Go.Shelf
set_option linter.unusedSimpArgs false
set_option linter.unusedVariables false
set_option maxHeartbeats 4000000
set_option maxRecDepth 100000
abbrev OwnL (w : World) (base : Nat) (v : Value) (l : List Int) : Prop := Own w base 3 1 (fun n : Int => [Value.int .i64 n]) v l
def srt (l : List Int) : List Int := l.mergeSort fun x y => decide (x ≤ y)
theorem flat_z (l : List Int) : l.flatMap (fun n : Int => [Value.int .i64 n]) = l.map encZ := by
  induction l with
  | nil => rfl
  | cons x l ih => rw [List.flatMap_cons, ih]; rfl
theorem view_perm {P : Program} {k : TypeId} {w : World} {b n : Nat} {D : DataW Value} {f : Int → Option Value} {ks ss : List Int} (hk : P.underlying k = some (.int .i64)) (hown : w.ownsMap P k rawR b n D) (hv : MapView D f ks) (hp : ss.Perm (intKeys D)) : ss.Perm ks := by
  refine hp.trans (CollectedI.perm (left := fun _ => false) ⟨hv.2.1, fun x => ?_⟩ hown (int_keyed hk) hk (fun _ => rfl)).symm
  cases hf : f x with
  | none => rw [hv.2.2.2.1 x hf, hv.2.2.1 x, hf]; simp
  | some u => rw [has_true_of_atKey (hv.2.2.2.2 x u hf), hv.2.2.1 x, hf]; simp
theorem live_sorts (m : Nat) : AnyZI.SortsIn Try.prog Try.sorted90_ren Fence.wide m :=
  ⟨fun blk off cap ss W hH hblk hsz => callsIn_wide.2 (AnyM.slices_Sort_int Try.sort132 blk off cap ss W hH hblk hsz),
   fun p cap W => callsIn_wide.2 (AnyM.slices_Sort_int_none Try.sort132 p cap W)⟩
theorem handle_Live (g b : Nat) (fp : Int → Option Nat) (ks : List Int) (next : Int) (w : World) (h : TabAt w g b fp ks next) (hl : ks.length ≤ 1000) :
    Calls Try.prog 47 #[.pointer (some ⟨g, 0, none⟩)] w fun e w' => ∃ v, e = .returned v ∧ OwnL w' w.heap.size v (srt ks) ∧ Below w.heap.size w w' := by
  refine (callsIn_wide (n := 6)).1 ?_
  obtain ⟨D, hown, hview⟩ := h.2.1
  have c0 := h.1.cellv (i := 0) (v := .map (some b)) rfl
  have hbl := hown.lt
  have hsz : Maps.size D = ks.length := hview.1
  have hseq : SeqGives Fence.wide 2 Try.prog 133 #[.pointer (some ⟨w.heap.size, 0, none⟩)] encZ (fun ss => ss.Perm (intKeys D)) (Maps.size D) (w.alloc (.cells #[.map (some b)] 122)) :=
    AnyZI.keys_gives (ρ := Try.keys91_ren) { Try.keys91 with } Fence.wide _ trivial rfl (by omega) w.heap.size b ks.length D _ (by simp) (by simp) (by
      obtain ⟨es, clock, hb, Ft, hs, hD⟩ := hown
      exact ⟨es, clock, (Below.heap_alloc _ _ b hbl).trans hb, Ft, hs, hD⟩)
  have cK : ∀ mb W, CallsIn Fence.wide 5 Try.prog 91 #[.map mb] W fun e w' => e = .returned (.func (.func 133) #[] #[.pointer (some ⟨W.heap.size, 0, none⟩)]) ∧ w' = W.alloc (.cells #[.map mb] 122) := fun mb W => AnyZI.keys_in Try.keys91 Fence.wide 5 trivial rfl mb W
  have cS := AnyZI.sorted_in Try.sorted90 Fence.wide 5 trivial trivial trivial trivial rfl (by omega) (live_sorts _) (enters_of Try.func132 (by kernel_rfl) rfl) 133 #[.pointer (some ⟨w.heap.size, 0, none⟩)] trivial (enters_of Try.func133 (by kernel_rfl) rfl) _ _ (by rw [hsz]; unfold maxLen; omega) (by rw [hsz]; omega) _ hseq
  change CallsIn _ _ Try.prog 90 _ _ _ at cS
  have HV := Lib.hid (fun (ss : List Int) (hp : ss.Perm (intKeys D)) => (show ss.mergeSort (fun x y => decide (x ≤ y)) = srt ks from mergeSort_of_perm_i (view_perm Try.underlying3 hown hview hp)))
  have HL := Lib.hid (fun (ss : List Int) (hp : ss.Perm (intKeys D)) => (show ss.length = (srt ks).length from by rw [(view_perm Try.underlying3 hown hview hp).length_eq]; exact (List.length_mergeSort _).symm))
  have hfK : Fence.wide.fn 91 := trivial
  have hfS : Fence.wide.fn 90 := trivial
  clear h hown hview hseq hsz hl
  refine callsIn_of_wp Try.func47 rfl trivial ?_ rfl
  simp only [Try.ntmps47, List.size_toArray, List.length_cons, List.length_nil, Nat.reduceAdd, Nat.reduceSub, Array.replicate_succ, Array.replicate_zero, List.push_toArray, List.append_toArray, List.nil_append, List.cons_append]
  gi_wp2_with (first
    | (gi_at_call 91; refine (cK _ _).mono ?_; rintro e w' ⟨rfl, rfl⟩)
    | (gi_at_call 90; refine cS.mono ?_; rintro e w' ⟨v, ss, rfl, hS, hrow, hnil, hb⟩))
  go_ret
  refine ⟨v, rfl, ?_, ((Below.refl _ w).alloc (Nat.le_refl _) _).trans (hb.mono (by simp))⟩
  have h1 := ownsRow_base_a hrow (show w.heap.size ≤ (w.alloc (.cells #[.map (some b)] 122)).heap.size by simp)
  show World.ownsRow _ _ _ _ _ (srt ks).length ((srt ks).flatMap _)
  rw [flat_z, ← HL.out ss hS, ← HV.out ss hS]
  exact h1
end Go.Proofs.Ytkjmacdekfbfhaa
