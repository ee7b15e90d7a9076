/- Small plain words that all texts of this claim use: ranges of the integer kinds, endings with equal values. -/
import Derived.Test.YtkjmacdekfbfhaaRows
import Derived.WalkKit
import Derived.WalkSpells
import Derived.WalkLawsBesides
import Derived.Lib.Hide
import Derived.OpenShut
namespace Go.Proofs.Ytkjmacdekfbfhaa
open Go.RowKit

theorem ret_int {k : IntKind} {a b : Int} (h : a = b) : Ending.returned (.int k a) = .returned (.int k b) := by rw [h]
theorem ret_bool {a b : Bool} (h : a = b) : Ending.returned (.bool a) = .returned (.bool b) := by rw [h]
theorem ret_int_bool {k : IntKind} {a b : Int} {c d : Bool} (h : a = b) (h2 : c = d) : Ending.returned (.tuple #[.int k a, .bool c]) = .returned (.tuple #[.int k b, .bool d]) := by rw [h, h2]
def I64 (a : Int) : Prop := -9223372036854775808 ≤ a ∧ a ≤ 9223372036854775807
def U64 (a : Int) : Prop := 0 ≤ a ∧ a ≤ 18446744073709551615
def U8 (a : Int) : Prop := 0 ≤ a ∧ a ≤ 255
theorem I64_of_wf {a : Int} (h : (Lit.int .i64 a).wf = true) : I64 a := bounds_i64 h
theorem U64_of_wf {a : Int} (h : (Lit.int .u64 a).wf = true) : U64 a := bounds_u64 h
theorem U8_of_wf {a : Int} (h : (Lit.int .u8 a).wf = true) : U8 a := bounds_u8 h
theorem I64_wrap (a : Int) : I64 (wrap64 a) := by unfold I64 wrap64; omega
theorem wrap64_id {a : Int} (h : I64 a) : wrap64 a = a := by unfold I64 at h; unfold wrap64; omega
theorem wrap64_64 (a : Int) : wrap64 (a + 18446744073709551616) = wrap64 a := by unfold wrap64; omega
end Go.Proofs.Ytkjmacdekfbfhaa
