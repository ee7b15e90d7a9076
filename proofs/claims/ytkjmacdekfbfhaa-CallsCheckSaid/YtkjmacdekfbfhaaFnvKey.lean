/- The sum of a key: its sixteen bytes, the highest one first. -/
import Derived.Test.YtkjmacdekfbfhaaFnvBytes
namespace Go.Proofs.Ytkjmacdekfbfhaa
open Go.RowKit
set_option linter.unusedSimpArgs false
set_option linter.unusedVariables false
set_option maxHeartbeats 400000
set_option maxRecDepth 100000

/-- Bytes that lie in the newest block, as a string. -/
theorem run_bytes_new {P : Program} (w : World) (src e t : TypeId) (hs : P.underlying src = some (.slice e)) (he : P.underlying e = some (.int .u8)) (cap : Nat) (ns : List Nat)
    (dst : TypeId) (hd : P.underlying dst = some .string) (cs : Array Value) (hcs : cs = (ns.map fun n : Nat => Value.int .u8 (n : Int)).toArray) (len : Nat) (hlen : ns.length = len) :
    (convert src dst (.slice (some ⟨w.heap.size, 0, none⟩) len cap)).run P (w.alloc (.cells cs t)) = .ok (.string (strOfNums (ns.map fun n : Nat => (n : Int)))) (w.alloc (.cells cs t)) := by
  subst hcs
  refine run_convert_bytes_arg _ src e hs he w.heap.size 0 len cap _ (by simpa using hlen) (fun i hi => ?_) dst hd
  rw [cell_of_row _ _ _ _ t (0, 0) (heap_alloc_new w _)]
  simp [List.getD, hlen, hi]
theorem codes_strOfNums (ns : List Nat) (h : ∀ n ∈ ns, n < 256) : codes (strOfNums (ns.map fun n : Nat => (n : Int))).data.toList = ns := by
  rw [strOfNums_data]
  unfold codes
  rw [List.map_map, List.map_map]
  conv => rhs; rw [← List.map_id ns]
  refine List.map_congr_left fun n hn => ?_
  have := h n hn
  simp
  omega
set_option maxHeartbeats 1000000 in
theorem fnv_Key (hi lo : Nat) (w : World) (h1 : hi < 18446744073709551616) (h2 : lo < 18446744073709551616) :
    Calls Try.prog 108 #[.agg #[.int .u64 hi, .int .u64 lo]] w fun e w' => e = .returned (.int .u64 ((keySum hi lo : Nat) : Int)) ∧ Below w.heap.size w w' := by
  go_enter Try.func108, Try.ntmps108
  go_wp2_with fail
  refine (fnv_bytes hi lo _ h1 h2).mono ?_
  rintro e w1 ⟨c0, c1, c2, c3, c4, c5, c6, c7, c8, c9, c10, c11, c12, c13, c14, c15, rfl, ⟨k0, k1, k2, k3, k4, k5, k6, k7, k8, k9, k10, k11, k12, k13, k14, k15⟩, hb, hbel⟩
  have HB := Lib.hid hb
  clear hb
  go_wp2_with fail
  rw [run_bytes_new w1 177 5 _ Try.underlying177 Try.underlying5 16 [c0, c1, c2, c3, c4, c5, c6, c7, c8, c9, c10, c11, c12, c13, c14, c15] 9 Try.underlying9 #[.int .u8 (c0 : Int), .int .u8 (c1 : Int), .int .u8 (c2 : Int), .int .u8 (c3 : Int), .int .u8 (c4 : Int), .int .u8 (c5 : Int), .int .u8 (c6 : Int), .int .u8 (c7 : Int), .int .u8 (c8 : Int), .int .u8 (c9 : Int), .int .u8 (c10 : Int), .int .u8 (c11 : Int), .int .u8 (c12 : Int), .int .u8 (c13 : Int), .int .u8 (c14 : Int), .int .u8 (c15 : Int)] rfl 16 rfl]
  go_wp2_with fail
  refine (fnv_Sum64 _ _ (by rw [strOfNums_size]; unfold maxLen; simp)).mono ?_
  rintro e w2 ⟨rfl, rfl⟩
  go_wp2
  go_ret
  refine ⟨ret_int ?_, ?_⟩
  · show ((sum64N (codes (strOfNums ([c0, c1, c2, c3, c4, c5, c6, c7, c8, c9, c10, c11, c12, c13, c14, c15].map fun n : Nat => (n : Int))).data.toList) : Nat) : Int) = _
    rw [codes_strOfNums _ (by simp; omega), ← HB.out]; rfl
  · exact (((Below.refl _ _).alloc (Nat.le_refl _) _).trans (hbel.mono (by simp))).alloc (by have := hbel.size; simp at this; omega) _
end Go.Proofs.Ytkjmacdekfbfhaa
