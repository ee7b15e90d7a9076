/- The library's slices.Delete, Insert and Clone, at []api.Sample that a call owns. -/
import Derived.Test.YtfeccjjheiillaaSlib
import Derived.Test.YtfeccjjheiillaaPush2
import Derived.Test.YtfeccjjheiillaaSerP
namespace Go.Proofs.Ytfeccjjheiillaa
open Go.RowKit
set_option linter.unusedSimpArgs false
set_option linter.unusedVariables false
set_option maxHeartbeats 4000000
set_option maxRecDepth 100000
theorem smps_one (l : List Smp) : ∀ u ∈ l.flatMap Smp.cells, u.oneCell' = true := fun u hu => by obtain ⟨y, _, hy⟩ := List.mem_flatMap.1 hu; exact smp_one y u hy
theorem smp_len (x : Smp) : x.cells.length = 2 := rfl
/-- Two parts of a row written over: what the row then begins with. -/
theorem spl_take {cs : Array Value} {o : Nat} {vs : List Value} (h : o + vs.length ≤ cs.size) (m : Nat) (hm : m = o + vs.length) : (spl cs o vs).toList.take m = cs.toList.take o ++ vs := by
  subst hm
  unfold spl
  rw [List.toList_toArray, ← List.append_assoc, List.take_append_of_le_length (by simp; omega), List.take_of_length_le (by simp; omega)]
theorem spl_take_le {cs : Array Value} {o : Nat} {vs : List Value} (h : o + vs.length ≤ cs.size) {m : Nat} (hm : m ≤ o) : (spl cs o vs).toList.take m = cs.toList.take m := by
  unfold spl
  rw [List.toList_toArray, List.take_append_of_le_length (by simp; omega), List.take_take, Nat.min_eq_left hm]
theorem slices_Delete {base : Nat} (v : Value) (l : List Smp) (j : Nat) (w : World) (h : OwnS w base v l) (hl : l.length ≤ 100000) (hj : j ≤ l.length) :
    Calls Try.prog 85 #[v, .int .i64 0, .int .i64 j] w fun e w' => ∃ v', e = .returned v' ∧ OwnS w' base v' (l.drop j) ∧ v'.ownBlock = v.ownBlock ∧ Upd (fun k => v.ownBlock = some k) w w' := by
  by_cases h0 : j = 0
  · subst h0
    have key : ∀ A n c, n ≤ c → c ≤ 9223372036854775807 → Calls Try.prog 85 #[.slice A n c, .int .i64 0, .int .i64 (0 : Nat)] w fun e w' => e = .returned (.slice A n c) ∧ w = w' := by
      intro A n c h1 h2
      clear h hl hj
      go_enter Try.func85, Try.ntmps85
      go_wp2
      all_goals (go_ret; exact ⟨rfl, rfl⟩)
    obtain ⟨A, n, c, rfl, rfl, hs⟩ := h.shape smp_len
    refine (key A _ c hs.2.1 (by have := hs.2.2.1; unfold maxLen at this; omega)).mono ?_
    rintro e w' ⟨rfl, rfl⟩
    exact ⟨_, rfl, h, rfl, Upd.refl _ _⟩
  · rcases h.2 with ⟨rfl, hn⟩ | ⟨g, cap, cur, rfl, hbg, hg, hnc, hcm, hcs, htake⟩
    · omega
    · have hb : Blk w g 34 cur := hg
      have hlenF := flatMap_len smp_len l
      have hnews : (l.drop j).flatMap Smp.cells = (cur.toList.drop (j * 2)).take ((l.length - j) * 2) := by
        rw [← flat_drop smp_len, ← htake, List.drop_take, Nat.sub_mul]
      have hlen : ((l.drop j).flatMap Smp.cells).length = (l.length - j) * 2 := by rw [flatMap_len smp_len, List.length_drop]
      refine (slices_Delete_at g l.length cap j cur w hb hcs hnc (by unfold maxLen at hcm; omega) (by omega) hj _ hnews (smps_one _)).mono ?_
      rintro e w' ⟨rfl, rfl⟩
      obtain ⟨b1, g1⟩ := Blk.setCells hb.drew (o := 0) (vs := (l.drop j).flatMap Smp.cells) (by rw [hlen]; omega)
      have hz : (l.length - j) * 2 + (zSmps j).length ≤ (spl cur 0 ((l.drop j).flatMap Smp.cells)).size := by
        rw [spl_size (by rw [hlen]; omega), zSmps_len]; omega
      obtain ⟨b2, g2⟩ := Blk.setCells b1 (o := (l.length - j) * 2) (vs := zSmps j) hz
      refine ⟨_, rfl, ⟨by simp [flatMap_len smp_len], .inr ⟨g, cap, _, by rw [List.length_drop], hbg, b2, by rw [List.length_drop]; omega, hcm, by rw [spl_size hz, spl_size (by rw [hlen]; omega), hcs], ?_⟩⟩, rfl, ?_⟩
      · rw [List.length_drop, spl_take_le hz (Nat.le_refl _), spl_take (by rw [hlen]; omega) _ (by rw [hlen]; omega)]
        simp
      · exact ((Upd.refl _ w).drew.grown g1 (fun k e => by cases e; exact .inl rfl)).grown g2 (fun k e => by cases e; exact .inl rfl)
theorem slices_Clone_none (w : World) (n c : Nat) :
    Calls Try.prog 49 #[.slice none n c] w fun e w' => e = .returned (.slice none 0 0) ∧ w = w' := by
  have q := fun (W : World) => Lib.run_eql_slice_nil (P := Try.prog) W 32 34 none n c 0 0 Try.underlying32
  go_enter Try.func49, Try.ntmps49
  go_wp2
  go_ret
  exact ⟨rfl, rfl⟩
end Go.Proofs.Ytfeccjjheiillaa
