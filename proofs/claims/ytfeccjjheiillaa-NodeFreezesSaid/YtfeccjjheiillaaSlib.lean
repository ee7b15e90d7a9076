/- The library's slices.Delete (from the first one on), at []api.Sample that a call owns. -/
import Derived.Test.YtfeccjjheiillaaUpd
import Derived.Test.YtfeccjjheiillaaSmp
import Derived.Deep.RegionLaw
import Derived.Laws.IdiomCopy
import Derived.Lib.AppendZerosOnto
import Derived.Lib.Overlaps
import Derived.Laws.Externs
namespace Go.Proofs.Ytfeccjjheiillaa
open Go.RowKit
set_option linter.unusedSimpArgs false
set_option linter.unusedVariables false
set_option maxHeartbeats 4000000
set_option maxRecDepth 100000
theorem run_copy_blk {P : Program} (w : World) (dT sT ty elem : TypeId) (sz g o dLen dCap : Nat) (a : Addr) (sLen sCap : Nat) (cs : List Value) {t : TypeId} {cur : Array Value}
    (hu : P.underlying dT = some (.slice elem)) (hs : (P.info? elem).map (·.size) = some sz) (hn : cs.length = Nat.min sLen dLen * sz)
    (hsrc : ∀ j v, cs[j]? = some v → w.cell? (a.add j) = some v) (hb : Blk w g t cur) (hfit : o + cs.length ≤ cur.size) (h1 : ∀ v ∈ cs, v.oneCell' = true) :
    (Builtin.copy_ #[dT, sT] ty #[.slice (some ⟨g, o, none⟩) dLen dCap, .slice (some a) sLen sCap]).run P w = .ok (goInt (Nat.min sLen dLen)) (w.setCells g o cs) := by
  have hl := run_loadCells_list (P := P) w a cs hsrc
  have hst := run_storeCells_cells (P := P) g o cs 0 w (fun j hj => by rw [hb.cell, Array.getElem?_eq_getElem (by omega)]; rfl) (fun j hj => hb.frozen _) h1
  cases hq : P.info? elem with
  | none => simp [hq] at hs
  | some i =>
    have hi : i.size = sz := by simpa [hq] using hs
    simp [Builtin.copy_, run_underlying hu, Builtin.lenOf, Builtin.firstCells, sizeOf, typeInfo, hq, hi, ← hn, hl, hst]
theorem run_clear_blk {P : Program} (w : World) (t e ty : TypeId) (z : Value) (ht : P.underlying t = some (.slice e)) (hv : ∀ w, (zeroValue e).run P w = .ok z w) (g o n c : Nat) (hn : 0 < n) {t' : TypeId} {cur : Array Value}
    (hb : Blk w g t' cur) (zs : List Value) (hz : (Builtin.zeroCells z.cells n).toList = zs) (hfit : o + zs.length ≤ cur.size) (h1 : ∀ u ∈ zs, u.oneCell' = true) :
    (Builtin.clear_ #[t] ty #[.slice (some ⟨g, o, none⟩) n c]).run P w = .ok (.tuple #[]) (w.setCells g o zs) := by
  have hst := run_storeCells_cells (P := P) g o zs 0 w (fun j hj => by rw [hb.cell, Array.getElem?_eq_getElem (by omega)]; rfl) (fun j hj => hb.frozen _) h1
  simp only [Nat.add_zero] at hst
  obtain ⟨m, rfl⟩ : ∃ m, n = m + 1 := ⟨n - 1, by omega⟩
  simp [Builtin.clear_, run_underlying ht, hv, hz, hst]
def zSmps (n : Nat) : List Value := (Builtin.zeroCells (Value.agg #[.int .i64 0, .int .i64 0]).cells n).toList
theorem zSmps_len (n : Nat) : (zSmps n).length = n * 2 := by simp [zSmps, Builtin.zeroCells, Value.cells]
theorem zSmps_one (n : Nat) : ∀ u ∈ zSmps n, u.oneCell' = true := by
  intro u hu
  simp only [zSmps, Builtin.zeroCells, Value.cells, Array.toList_map, List.mem_map] at hu
  obtain ⟨i, _, rfl⟩ := hu
  have h : i % (#[Value.int .i64 0, Value.int .i64 0] : Array Value).size < 2 := Nat.mod_lt _ (by decide)
  generalize i % (#[Value.int .i64 0, Value.int .i64 0] : Array Value).size = q at *
  match q, h with
  | 0, _ => rfl
  | 1, _ => rfl
theorem zero_smp (w : World) : (zeroValue 34).run Try.prog w = .ok (.agg #[.int .i64 0, .int .i64 0]) w := by kernel_rfl
theorem slices_Delete_at (g n cap j : Nat) (cur : Array Value) (w : World) (hb : Blk w g 34 cur) (hc : cur.size = cap * 2) (hn : n ≤ cap) (hm : cap ≤ 9223372036854775807) (h0 : 0 < j) (hj : j ≤ n)
    (news : List Value) (hnews : news = (cur.toList.drop (j * 2)).take ((n - j) * 2)) (h1 : ∀ u ∈ news, u.oneCell' = true) :
    Calls Try.prog 85 #[.slice (some ⟨g, 0, none⟩) n cap, .int .i64 0, .int .i64 j] w fun e w' =>
      e = .returned (.slice (some ⟨g, 0, none⟩) (n - j) cap) ∧ w' = (w.drew.setCells g 0 news).setCells g ((n - j) * 2) (zSmps j) := by
  obtain ⟨i0, hi0, hz0, hz1, hz2⟩ := info_parts info_smp
  have hlen : news.length = (n - j) * 2 := by rw [hnews, List.length_take, List.length_drop, Array.length_toList]; omega
  obtain ⟨A, hA, hsrc⟩ : ∃ A : Addr, (if cap = j then some (⟨g, 0, none⟩ : Addr) else some ⟨g, j * 2, none⟩) = some A ∧ Hid (∀ t u, news[t]? = some u → w.drew.cell? (A.add t) = some u) := by
    by_cases h : cap = j
    · refine ⟨⟨g, 0, none⟩, by simp [h], fun t u hu => ?_⟩
      have h0 : news.length = 0 := by rw [hlen]; omega
      rw [List.length_eq_zero_iff.1 h0] at hu
      simp at hu
    · refine ⟨⟨g, j * 2, none⟩, by simp [h], fun t u hu => ?_⟩
      have ht : t < (n - j) * 2 := by
        have := (List.getElem?_eq_some_iff.1 hu).1
        rwa [hlen] at this
      rw [hnews, List.getElem?_take, if_pos ht, List.getElem?_drop] at hu
      rw [Addr.add_lit]
      exact (hb.cell (j * 2 + t)).trans (by rw [← Array.getElem?_toList]; exact hu)
  have s1 : Hid (news.length = (n - j) * 2) := hlen
  have s2 : Hid (∀ u ∈ news, u.oneCell' = true) := h1
  have s3 : Hid (∀ t, t < news.length → (w.drew.cell? ⟨g, 0 + 0 * 2 + t, none⟩).isSome = true ∧ w.drew.frozen? ⟨g, 0 + 0 * 2 + t, none⟩ = false) := by
    intro t ht
    rw [hlen] at ht
    refine ⟨?_, hb.frozen _⟩
    show (w.cell? _).isSome = true
    rw [hb.cell, Array.getElem?_eq_getElem (by omega)]; rfl
  obtain ⟨W1, hW1⟩ : ∃ W1, W1 = w.drew.setCells g (0 + 0 * 2) news := ⟨_, rfl⟩
  have hb1 : Blk W1 g 34 (spl cur 0 news) := by
    rw [hW1]; exact (Blk.setCells hb.drew (o := 0) (by rw [hlen]; omega)).1
  have hcl : ∀ ty, (Builtin.clear_ #[32] ty #[.slice (some ⟨g, (n - j) * 2, none⟩) (n - (n - j)) (cap - (n - j))]).run Try.prog W1 = .ok (.tuple #[]) (W1.setCells g ((n - j) * 2) (zSmps j)) :=
    fun ty => run_clear_blk W1 _ _ ty _ Try.underlying32 zero_smp g ((n - j) * 2) _ _ (by omega) hb1 _ (by rw [show n - (n - j) = j by omega]; rfl) (by rw [spl_size (by rw [hlen]; omega), zSmps_len]; omega) (zSmps_one j)
  have hW : Hid (W1 = w.drew.setCells g (0 + 0 * 2) news) := hW1
  have hjc : j ≤ cap := by omega
  have hz : ¬ ((0 : Int) = (j : Int)) := by omega
  have hz3 : ¬ (cap = n - j) := by omega
  have d1 : ((0 : Int) == (j : Int)) = false := by simp; omega
  clear hW1 hb1 hb hnews hlen h1 hc
  go_enter Try.func85, Try.ntmps85
  go_wp2_with fail
  go_region_law (refine step_append_room rfl (.tmp 22) (.tmp 25) 32 rfl 34 i0 2 Try.underlying32 hi0 hz1 g 0 0 cap (by simp [Act.eval, Act.put]) A (n - j) (cap - j) news (by simp [Act.eval, Act.put]) s1.out hsrc.out s2.out (by omega) s3.out ?_; rw [← hW.out])
  go_wp2
  go_ret
  exact ⟨rfl, by rw [hW.out]⟩
end Go.Proofs.Ytfeccjjheiillaa
