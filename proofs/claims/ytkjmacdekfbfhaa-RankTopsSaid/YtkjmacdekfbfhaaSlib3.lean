/- The library's slices.Clone and Insert, at []api.Sample. -/
import Derived.Test.YtkjmacdekfbfhaaSlib2
import Derived.Shelf.Spec.SlicesInsert
namespace Go.Proofs.Ytkjmacdekfbfhaa
open Go.RowKit
set_option linter.unusedSimpArgs false
set_option linter.unusedVariables false
set_option maxHeartbeats 4000000
set_option maxRecDepth 100000
def CloneS (w : World) (l : List Smp) (e : Ending) (w' : World) : Prop := ∃ A n c, e = .returned (.slice A n c) ∧ OwnS w' w.heap.size (.slice A n c) l ∧ Below w.heap.size w w'
theorem CloneS.mk {w w' : World} {l : List Smp} {v : Value} (h : OwnS w' w.heap.size v l) (hb : Below w.heap.size w w') : CloneS w l (.returned v) w' := by
  obtain ⟨A, n, c, rfl, _, _⟩ := h.shape (fun _ => rfl)
  exact ⟨A, n, c, rfl, h, hb⟩
theorem Own.is {α : Type} {w : World} {base e size : Nat} {cells : α → List Value} {A : Option Addr} {n c : Nat} {l : List α} (h : Own w base e size cells (.slice A n c) l) (hsz : ∀ x, (cells x).length = size) : SliceIs w size cells A n c l := by
  obtain ⟨A', n', c', he, _, hs⟩ := h.shape hsz
  cases he; exact hs
theorem slices_Clone (A : Option Addr) (n c : Nat) (l : List Smp) (w : World) (hs : SmpsAre w A n c l) (hn : n ≤ 100000) :
    Calls Try.prog 84 #[.slice A n c] w (CloneS w l) := by
  cases A with
  | none =>
    obtain ⟨rfl, rfl⟩ := hs.2.2.2.1 rfl
    have hl : l = [] := List.eq_nil_of_length_eq_zero hs.1
    subst hl
    refine (slices_Clone_none w 0 0).mono ?_
    rintro e w' ⟨rfl, rfl⟩
    exact CloneS.mk (Own.nil _ _ _ _ _) (Below.refl _ _)
  | some a =>
    have q := fun (W : World) => Lib.run_eql_slice_nil (P := Try.prog) W 48 65 (some a) n c 0 0 Try.underlying48
    have HS := Lib.hid (slice_keep hs (show Below w.heap.size w (w.alloc (.cells #[] 65)) by go_grown))
    have HO := Lib.hid (show OwnS (w.alloc (.cells #[] 65)) w.heap.size (.slice (some ⟨w.heap.size, 0, none⟩) 0 0) [] from World.ownsRow_made w #[] 0 (Nat.le_refl _) (Nat.zero_le _) rfl)
    clear hs
    go_enter Try.func84, Try.ntmps84
    go_wp2_with (at_builtin; refine cat_smp _ rfl (.tmp 5) (.tmp 6) rfl w.heap.size (.slice (some ⟨w.heap.size, 0, none⟩) 0 0) [] rfl HO.out (some a) n c l rfl HS.out (by simp; omega) (by simp) ?_; intro v' w1 ho hbel hgr; have HV := Lib.hid ho; have HB := Lib.hid (Below.trans (show Below w.heap.size w (w.alloc (.cells #[] 65)) by go_grown) hbel); clear ho hbel hgr)
    go_ret
    exact CloneS.mk HV.out HB.out
theorem blk_shape {w : World} {g : Nat} {t : TypeId} {cs : Array Value} (h : Blk w g t cs) : w.shape? g = some (t, cs.size) := by
  unfold Blk at h; simp [World.shape?, h]
end Go.Proofs.Ytkjmacdekfbfhaa
