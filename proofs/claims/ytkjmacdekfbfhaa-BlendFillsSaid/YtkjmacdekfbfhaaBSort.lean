/- blend.sorted: maps.Keys and slices.Sorted over a map of whole numbers. -/
import Derived.Test.YtkjmacdekfbfhaaIter
import Derived.Test.YtkjmacdekfbfhaaMap
import Derived.Test.YtkjmacdekfbfhaaSmp
import Derived.Test.YtkjmacdekfbfhaaUpd
import Derived.Shelf.AbstractIn
namespace Go.Proofs.Ytkjmacdekfbfhaa
open Go.RowKit Go.Maps Go.Sort Go.Shelf
set_option linter.unusedSimpArgs false
set_option linter.unusedVariables false
set_option maxHeartbeats 4000000
set_option maxRecDepth 100000
def srtI (l : List Int) : List Int := l.mergeSort fun x y => decide (x ≤ y)
theorem flat_zB (l : List Int) : l.flatMap (fun n : Int => [Value.int .i64 n]) = l.map encZ := by
  induction l with
  | nil => rfl
  | cons x l ih => rw [List.flatMap_cons, ih]; rfl
theorem view_permB {P : Program} {k : TypeId} {w : World} {b n : Nat} {D : DataW Value} {f : Int → Option Value} {ks ss : List Int} (hk : P.underlying k = some (.int .i64)) (hown : w.ownsMap P k rawR b n D) (hv : MapView D f ks) (hp : ss.Perm (intKeys D)) : ss.Perm ks := by
  refine hp.trans (CollectedI.perm (left := fun _ => false) ⟨hv.2.1, fun x => ?_⟩ hown (int_keyed hk) hk (fun _ => rfl)).symm
  cases hf : f x with
  | none => rw [hv.2.2.2.1 x hf, hv.2.2.1 x, hf]; simp
  | some u => rw [has_true_of_atKey (hv.2.2.2.2 x u hf), hv.2.2.1 x, hf]; simp
theorem b_sorts (m : Nat) : AnyZI.SortsIn Try.prog Try.sorted115_ren Fence.wide m :=
  ⟨fun blk off cap ss W hH hblk hsz => callsIn_wide.2 (AnyM.slices_Sort_int Try.sort73 blk off cap ss W hH hblk hsz),
   fun p cap W => callsIn_wide.2 (AnyM.slices_Sort_int_none Try.sort73 p cap W)⟩
abbrev tI64 : TypeId := 2
/-- The map's keys in order. -/
theorem b_sortedKeys (b : Nat) (f : Int → Option Value) (ks : List Int) (w : World) (h : MapIs Try.prog w tI64 b f ks) (hl : ks.length ≤ 1000) :
    Calls Try.prog 115 #[.func (.func 149) #[] #[.pointer (some ⟨w.heap.size, 0, none⟩)]] (w.alloc (.cells #[.map (some b)] 112)) fun e w' => ∃ v, e = .returned v ∧ OwnI w' (w.heap.size + 1) v (srtI ks) ∧ Below w.heap.size w w' := by
  obtain ⟨D, hown, hview⟩ := h
  have hbl := hown.lt
  have hsz : Maps.size D = ks.length := hview.1
  have hseq : SeqGives Fence.wide 2 Try.prog 149 #[.pointer (some ⟨w.heap.size, 0, none⟩)] encZ (fun ss => ss.Perm (intKeys D)) (Maps.size D) (w.alloc (.cells #[.map (some b)] 112)) :=
    AnyZI.keys_gives (ρ := Try.keys116_ren) { Try.keys116 with } Fence.wide _ trivial rfl (by omega) w.heap.size b ks.length D _ (by simp) (by simp) (by
      obtain ⟨es, clock, hb, Ft, hs, hD⟩ := hown
      exact ⟨es, clock, (Below.heap_alloc _ _ b hbl).trans hb, Ft, hs, hD⟩)
  have cS := AnyZI.sorted_in Try.sorted115 Fence.wide 5 trivial trivial trivial trivial rfl (by omega) (b_sorts _) (enters_of Try.func73 (by kernel_rfl) rfl) 149 #[.pointer (some ⟨w.heap.size, 0, none⟩)] trivial (enters_of Try.func149 (by kernel_rfl) rfl) _ _ (by rw [hsz]; unfold maxLen; omega) (by rw [hsz]; omega) _ hseq
  refine ((callsIn_wide (n := 5)).1 cS).mono ?_
  rintro e w' ⟨v, ss, rfl, hS, hrow, hnil, hb⟩
  have HV : ss.mergeSort (fun x y => decide (x ≤ y)) = srtI ks := mergeSort_of_perm_i (view_permB Try.underlying2 hown hview hS)
  have HL : ss.length = (srtI ks).length := by rw [(view_permB Try.underlying2 hown hview hS).length_eq]; exact (List.length_mergeSort _).symm
  refine ⟨v, rfl, ?_, ((Below.refl _ w).alloc (Nat.le_refl _) _).trans (hb.mono (by simp))⟩
  have h1 := ownsRow_base_a hrow (show w.heap.size + 1 ≤ (w.alloc (.cells #[.map (some b)] 112)).heap.size by simp)
  show World.ownsRow _ _ _ _ _ (srtI ks).length ((srtI ks).flatMap _)
  rw [flat_zB, ← HL, ← HV]
  exact h1
theorem b_keys (b : Nat) (W : World) : Calls Try.prog 116 #[.map (some b)] W fun e w' => e = .returned (.func (.func 149) #[] #[.pointer (some ⟨W.heap.size, 0, none⟩)]) ∧ w' = W.alloc (.cells #[.map (some b)] 112) :=
  (callsIn_wide (n := 5)).1 (AnyZI.keys_in Try.keys116 Fence.wide 5 trivial rfl (some b) W)
theorem take_nx {α : Type} {l : List α} {k : Nat} {x : α} (h : l[k]? = some x) : l.take (k + 1) = l.take k ++ [x] := by
  rw [List.take_add_one, h]; rfl
/-- A map of whole numbers. -/
def tabI (f : Int → Option Int) : Int → Option Value := fun x => (f x).map fun v => .int .i64 v
def mapS (f : Int → Option Int) (ks : List Int) : List Smp := (srtI ks).map fun t => ⟨t, (f t).getD 0⟩
theorem zero_i64 (w : World) : (zeroValue 2).run Try.prog w = .ok (.int .i64 0) w := by kernel_rfl
theorem srtI_mem (ks : List Int) (x : Int) : x ∈ srtI ks ↔ x ∈ ks := by unfold srtI; exact (List.mergeSort_perm ks _).mem_iff
theorem srtI_len (ks : List Int) : (srtI ks).length = ks.length := List.length_mergeSort _
theorem blend_sorted (b : Nat) (f : Int → Option Int) (ks : List Int) (w : World) (h : MapIs Try.prog w tI64 b (tabI f) ks) (hl : ks.length ≤ 1000) (hk : ∀ x ∈ ks, I64 x) :
    Calls Try.prog 77 #[.map (some b)] w fun e w' => ∃ v, e = .returned v ∧ OwnS w' w.heap.size v (mapS f ks) ∧ Below w.heap.size w w' := by
  have HK := Lib.hid (b_keys b w)
  have HS := Lib.hid (b_sortedKeys b _ ks w h hl)
  have HM := Lib.hid h
  have H64 := Lib.hid hk
  have HL := Lib.hid hl
  clear h hk hl
  go_enter Try.func77, Try.ntmps77
  go_wp2_with (first
    | (go_at_call 116; refine HK.out.mono ?_; rintro e w' ⟨rfl, rfl⟩)
    | (go_at_call 115; refine HS.out.mono ?_; rintro e w1 ⟨v, rfl, ho1, hb1⟩; obtain ⟨A1, n1, c1, rfl, hn1, hi1⟩ := ho1.shape (fun _ => rfl); have I1 := Lib.hid hi1; have B1 := Lib.hid hb1; have N1 := Lib.hid hn1; clear ho1 hb1 hi1 hn1))
  have hn5 : n1 ≤ 1000 := by have := N1.out; rw [srtI_len] at this; have := HL.out; omega
  go_loopw [3, 10] (fun o i wr => ∃ (k : Nat) (Ao : Option Addr) (no co : Nat), k ≤ n1 ∧ i = .int .i64 k ∧ o = .slice Ao no co ∧ OwnS wr w1.heap.size (.slice Ao no co) ((mapS f ks).take k) ∧ Below w1.heap.size w1 wr) (fun _ i _ => n1 - (intOf i).toNat)
  case atStart => exact ⟨0, none, 0, 0, Nat.zero_le _, rfl, rfl, Own.nil _ _ _ _ _, Below.refl _ _⟩
  case round =>
    obtain ⟨k, Ao, no, co, hk, rfl, rfl, hown, hbel⟩ := hrel
    have HO := Lib.hid hown
    have HB := Lib.hid hbel
    clear hown hbel
    by_cases hlt : k < n1
    · obtain ⟨bb, off, x, rfl, hx, hb, hc⟩ := IntsAre.at_ I1.out hlt
      have kx := (HB.out.cell (p := ⟨bb, off + k, none⟩) hb).trans hc
      have hki : (k : Int) < (n1 : Int) := by omega
      have HMr := Lib.hid (HM.out.call (B1.out.trans (HB.out.mono B1.out.size)))
      have HX64 := Lib.hid (H64.out x ((srtI_mem ks x).1 (List.mem_of_getElem? hx)))
      obtain ⟨V, hV⟩ : ∃ V, V = (f x).getD 0 := ⟨_, rfl⟩
      have HLk := Lib.hid (show (tabI f x).getD (.int .i64 0) = .int .i64 V from by unfold tabI; rw [hV]; cases f x <;> rfl)
      have HN := Lib.hid (show (mapS f ks).take (k + 1) = (mapS f ks).take k ++ [⟨x, V⟩] from take_nx (by unfold mapS; rw [List.getElem?_map, hx, hV]; rfl))
      have HSl := Lib.hid (show ((mapS f ks).take k).length < 100000 from by rw [List.length_take]; unfold mapS; rw [List.length_map, srtI_len]; have := HL.out; omega)
      clear hx hb hc hV
      go_wp2_with (first
        | (at_lookup; refine wpList_map_look _ rfl _ _ 112 rfl 2 2 Try.underlying2 Try.underlying112 (.int .i64 0) (zero_i64 _) b _ _ rfl HMr.out x rfl HX64.out ?_; rw [HLk.out])
        | (at_builtin; refine push_smp _ rfl (.tmp 14) (.tmp 20) rfl w1.heap.size (.slice Ao no co) _ rfl (HO.out.alloc _) wr.heap.size 65 1 ⟨x, V⟩ rfl (Blk.new wr 65 #[.int .i64 x, .int .i64 V]) (by have := HSl.out; omega) (by have := HB.out.size; simp; omega) ?_; intro v' w' ho hb2 hgx; obtain ⟨A6, n6, c6, rfl, -, -⟩ := ho.shape (fun _ => rfl); have O6 := Lib.hid ho; have E6 := Lib.hid (Below.trans (HB.out.alloc HB.out.size (.cells #[.int .i64 x, .int .i64 V] 65)) hb2); clear ho hb2 hgx))
      go_roundw
      case rel => exact ⟨k + 1, A6, n6, c6, by omega, by go_num, rfl, by rw [HN.out]; exact O6.out, E6.out⟩
      case measure => simp [intOf]; omega
    · have hE : (mapS f ks).take k = mapS f ks := List.take_of_length_le (by unfold mapS; rw [List.length_map]; have := N1.out; omega)
      rw [hE] at HO
      have hki : (n1 : Int) ≤ (k : Int) := by omega
      clear hE
      go_wp2
      go_ret
      exact ⟨_, rfl, HO.out.mono B1.out.size, B1.out.trans (HB.out.mono B1.out.size)⟩
end Go.Proofs.Ytkjmacdekfbfhaa
