/- The library's slices.Clone and Insert, at []api.Sample. -/
import Derived.Test.YtfeccjjheiillaaSlib2
import Derived.Shelf.Spec.SlicesInsert
namespace Go.Proofs.Ytfeccjjheiillaa
open Go.RowKit
set_option linter.unusedSimpArgs false
set_option linter.unusedVariables false
set_option maxHeartbeats 4000000
set_option maxRecDepth 100000
def CloneS (w : World) (l : List Smp) (e : Ending) (w' : World) : Prop := ∃ A n c, e = .returned (.slice A n c) ∧ OwnS w' w.heap.size (.slice A n c) l ∧ Below w.heap.size w w'
theorem CloneS.mk {w w' : World} {l : List Smp} {v : Value} (h : OwnS w' w.heap.size v l) (hb : Below w.heap.size w w') : CloneS w l (.returned v) w' := by
  obtain ⟨A, n, c, rfl, _, _⟩ := h.shape (fun _ => rfl)
  exact ⟨A, n, c, rfl, h, hb⟩
theorem Own.is {α : Type} {w : World} {base e size : Nat} {cells : α → List Value} {A : Option Addr} {n c : Nat} {l : List α} (h : Own w base e size cells (.slice A n c) l) (hsz : ∀ x, (cells x).length = size) : SliceIs w size cells A n c l := by
  obtain ⟨A', n', c', he, _, hs⟩ := h.shape hsz
  cases he; exact hs
theorem slices_Clone (A : Option Addr) (n c : Nat) (l : List Smp) (w : World) (hs : SmpsAre w A n c l) (hn : n ≤ 100000) :
    Calls Try.prog 49 #[.slice A n c] w (CloneS w l) := by
  cases A with
  | none =>
    obtain ⟨rfl, rfl⟩ := hs.2.2.2.1 rfl
    have hl : l = [] := List.eq_nil_of_length_eq_zero hs.1
    subst hl
    refine (slices_Clone_none w 0 0).mono ?_
    rintro e w' ⟨rfl, rfl⟩
    exact CloneS.mk (Own.nil _ _ _ _ _) (Below.refl _ _)
  | some a =>
    have q := fun (W : World) => Lib.run_eql_slice_nil (P := Try.prog) W 32 34 (some a) n c 0 0 Try.underlying32
    have HS := Lib.hid (slice_keep hs (show Below w.heap.size w (w.alloc (.cells #[] 34)) by go_grown))
    have HO := Lib.hid (show OwnS (w.alloc (.cells #[] 34)) w.heap.size (.slice (some ⟨w.heap.size, 0, none⟩) 0 0) [] from World.ownsRow_made w #[] 0 (Nat.le_refl _) (Nat.zero_le _) rfl)
    clear hs
    go_enter Try.func49, Try.ntmps49
    go_wp2_with (at_builtin; refine cat_smp _ rfl (.tmp 5) (.tmp 6) rfl w.heap.size (.slice (some ⟨w.heap.size, 0, none⟩) 0 0) [] rfl HO.out (some a) n c l rfl HS.out (by simp; omega) (by simp) ?_; intro v' w1 ho hbel hgr; have HV := Lib.hid ho; have HB := Lib.hid (Below.trans (show Below w.heap.size w (w.alloc (.cells #[] 34)) by go_grown) hbel); clear ho hbel hgr)
    go_ret
    exact CloneS.mk HV.out HB.out
theorem blk_shape {w : World} {g : Nat} {t : TypeId} {cs : Array Value} (h : Blk w g t cs) : w.shape? g = some (t, cs.size) := by
  unfold Blk at h; simp [World.shape?, h]
theorem slices_Insert_shift (g n c i vb : Nat) (cur : Array Value) (l : List Smp) (x : Smp) (w : World) (hi : i < n) (hroom : n + 1 ≤ c) (hc63 : c ≤ 9223372036854775807) (hvb : vb ≠ g)
    (hb : Blk w g 34 cur) (hcs : cur.size = c * 2) (hl : l.length = n) (htake : cur.toList.take (n * 2) = l.flatMap Smp.cells) (hv : Blk w vb 34 #[.int .i64 x.tick, .int .i64 x.value]) :
    Calls Try.prog 84 #[.slice (some ⟨g, 0, none⟩) n c, .int .i64 i, .slice (some ⟨vb, 0, none⟩) 1 1] w fun e w' =>
      e = .returned (.slice (some ⟨g, 0, none⟩) (n + 1) c) ∧ w' = (w.drew.setCells g ((i + 1) * 2) ((l.drop i).flatMap Smp.cells)).setCells g (i * 2) x.cells := by
  have hz2 : ((i : Int) == (n : Int)) = false := by simp; omega
  have hdl : ((l.drop i).flatMap Smp.cells).length = (n - i) * 2 := by rw [flatMap_len smp_len, List.length_drop, hl]
  have hdr : (l.drop i).flatMap Smp.cells = (cur.toList.drop (i * 2)).take ((n - i) * 2) := by
    rw [← flat_drop smp_len, ← htake, List.drop_take, Nat.sub_mul]
  have hov : ∀ lb cb, (callFunc 108 #[.slice (some ⟨vb, 0, none⟩) 1 1, .slice (some ⟨g, (i + 1) * 2, none⟩) lb cb]).run Try.prog w = .ok (.value (.bool false)) w := fun lb cb => by
    rw [run_callFunc_extern (show Try.prog.funcs[108]? = some Try.f108 by kernel_rfl) (by kernel_rfl) (by kernel_rfl) (by kernel_rfl) (e := Extern.SlicesOverlaps.overlaps #[32, 32] #[4]) (by kernel_rfl),
      Lib.run_overlaps_apart w 32 4 34 Try.underlying32 2 (fun _ => by kernel_rfl) ⟨vb, 0, none⟩ ⟨g, (i + 1) * 2, none⟩ 1 1 lb cb hvb _ _ _ _ (blk_shape hv) (blk_shape hb) (by omega) (hv.frozen _) (hv.frozen _)]
    rfl
  have hw1 : IntKind.i64.wrap ((i : Int) + 1) = (i : Int) + 1 := by rw [IntKind.wrap_i64]; omega
  have hb1 : (0 : Int) ≤ (i : Int) + 1 := by omega
  have hin : i ≤ n := by omega
  have htn : ((i : Int) + 1).toNat = i + 1 := by omega
  have hb2 : ¬ (c = i + 1) := by omega
  have hb3 : (i : Int) ≤ (n : Int) + 1 := by omega
  have hb4 : ¬ (c = i) := by omega
  have hlt2 : (n : Int) + 1 ≤ (c : Int) := by omega
  have hsz : (Try.prog.info? 34).map (·.size) = some 2 := by kernel_rfl
  have hfit1 : (i + 1) * 2 + ((l.drop i).flatMap Smp.cells).length ≤ cur.size := by rw [hdl, hcs]; omega
  have hcp1 : ∀ ty dc sc, (Builtin.copy_ #[32, 32] ty #[.slice (some ⟨g, (i + 1) * 2, none⟩) (n - i) dc, .slice (some ⟨g, i * 2, none⟩) (n + 1 - i) sc]).run Try.prog w.drew = .ok (goInt (Nat.min (n + 1 - i) (n - i))) (w.drew.setCells g ((i + 1) * 2) ((l.drop i).flatMap Smp.cells)) := fun ty dc sc =>
    run_copy_blk w.drew _ _ ty 34 2 g ((i + 1) * 2) (n - i) dc ⟨g, i * 2, none⟩ (n + 1 - i) sc _ Try.underlying32 hsz (by rw [hdl]; simp only [Nat.min_def]; split <;> omega)
      (fun j v hj => by
        have hlt := (List.getElem?_eq_some_iff.1 hj).1
        rw [hdr, List.getElem?_take, if_pos (by omega), List.getElem?_drop] at hj
        rw [Addr.add_lit]
        exact (hb.drew.cell _).trans (by rw [← Array.getElem?_toList]; exact hj)) hb.drew hfit1 (smps_one _)
  obtain ⟨W1, hW1⟩ : ∃ W1, W1 = w.drew.setCells g ((i + 1) * 2) ((l.drop i).flatMap Smp.cells) := ⟨_, rfl⟩
  obtain ⟨b1, g1⟩ := Blk.setCells hb.drew hfit1
  rw [← hW1] at b1 g1
  have hv1 : Blk W1 vb 34 #[.int .i64 x.tick, .int .i64 x.value] := hv.drew.grown g1 (fun e => hvb (Option.some.inj e))
  have hcp2 : ∀ ty dc, (Builtin.copy_ #[32, 32] ty #[.slice (some ⟨g, i * 2, none⟩) (n + 1 - i) dc, .slice (some ⟨vb, 0, none⟩) 1 1]).run Try.prog W1 = .ok (goInt (Nat.min 1 (n + 1 - i))) (W1.setCells g (i * 2) x.cells) := fun ty dc =>
    run_copy_blk W1 _ _ ty 34 2 g (i * 2) (n + 1 - i) dc ⟨vb, 0, none⟩ 1 1 x.cells Try.underlying32 hsz (by rw [smp_len]; simp only [Nat.min_def]; split <;> omega)
      (fun j v hj => by rw [Addr.add_lit, Nat.zero_add]; exact (hv1.cell j).trans (by rw [show (#[.int .i64 x.tick, .int .i64 x.value] : Array Value) = x.cells.toArray from rfl]; simpa using hj)) b1 (by rw [spl_size hfit1, smp_len, hcs]; omega) (smp_one x)
  rw [← hW1] at hcp1
  have HW := Lib.hid hW1
  have HL := Lib.hid hl
  clear hW1 b1 g1 hv1 hb hv hdl hdr htake hcs hl hfit1
  go_enter Try.func84, Try.ntmps84
  go_wp2_with (simp only [hov])
  go_region_law (refine Go.Proofs.step_copy_runI rfl _ _ 32 32 rfl _ _ (by simp [Act.eval, Act.put]) (by simp [Act.eval, Act.put]) (hcp1 _ _ _) ?_)
  go_wp2_with (at_builtin; refine Go.Proofs.wpList_copy_runI _ rfl _ _ 32 32 rfl _ _ rfl rfl (hcp2 _ _) ?_)
  go_ret
  exact ⟨rfl, by rw [HW.out]⟩
end Go.Proofs.Ytfeccjjheiillaa
