/- The library's slices.Delete, Insert and Clone, at []api.Sample that a call owns. -/
import Derived.Test.YtkjmacdekfbfhaaSlib
import Derived.Test.YtkjmacdekfbfhaaPush2
import Derived.Test.YtkjmacdekfbfhaaSerP
namespace Go.Proofs.Ytkjmacdekfbfhaa
open Go.RowKit
set_option linter.unusedSimpArgs false
set_option linter.unusedVariables false
set_option maxHeartbeats 4000000
set_option maxRecDepth 100000
theorem smps_one (l : List Smp) : ∀ u ∈ l.flatMap Smp.cells, u.oneCell' = true := fun u hu => by obtain ⟨y, _, hy⟩ := List.mem_flatMap.1 hu; exact smp_one y u hy
theorem smp_len (x : Smp) : x.cells.length = 2 := rfl
/-- Two parts of a row written over: what the row then begins with. -/
theorem spl_take {cs : Array Value} {o : Nat} {vs : List Value} (h : o + vs.length ≤ cs.size) (m : Nat) (hm : m = o + vs.length) : (spl cs o vs).toList.take m = cs.toList.take o ++ vs := by
  subst hm
  unfold spl
  rw [List.toList_toArray, ← List.append_assoc, List.take_append_of_le_length (by simp; omega), List.take_of_length_le (by simp; omega)]
theorem spl_take_le {cs : Array Value} {o : Nat} {vs : List Value} (h : o + vs.length ≤ cs.size) {m : Nat} (hm : m ≤ o) : (spl cs o vs).toList.take m = cs.toList.take m := by
  unfold spl
  rw [List.toList_toArray, List.take_append_of_le_length (by simp; omega), List.take_take, Nat.min_eq_left hm]
theorem slices_Clone_none (w : World) (n c : Nat) :
    Calls Try.prog 84 #[.slice none n c] w fun e w' => e = .returned (.slice none 0 0) ∧ w = w' := by
  have q := fun (W : World) => Lib.run_eql_slice_nil (P := Try.prog) W 48 65 none n c 0 0 Try.underlying48
  go_enter Try.func84, Try.ntmps84
  go_wp2
  go_ret
  exact ⟨rfl, rfl⟩
end Go.Proofs.Ytkjmacdekfbfhaa
