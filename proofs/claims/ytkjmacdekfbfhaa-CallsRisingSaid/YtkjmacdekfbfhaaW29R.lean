/- Chapter 29's law: CallsRising. -/
import Derived.Test.YtkjmacdekfbfhaaW29
import Derived.Test.YtkjmacdekfbfhaaRisR
namespace Go.Proofs.Ytkjmacdekfbfhaa
open Go.RowKit
set_option linter.unusedSimpArgs false
set_option linter.unusedVariables false
set_option maxHeartbeats 8000000
set_option maxRecDepth 100000
theorem walk_CallsRising (A : Option Addr) (len cap : Nat) (l : List COp) (w : World) (hs : COpsAre w A len cap l) (hg : ∀ x ∈ l, x.good) :
    Calls Try.prog 4 #[.slice A len cap] w fun e w' => e = .returned (.bool true) ∧ Below w.heap.size w w' := by
  have HS := Lib.hid hs
  have HLl := Lib.hid hs.1
  have HG := Lib.hid hg
  have hm : cap ≤ 9223372036854775807 := by have := hs.2.2.1; unfold maxLen at this; omega
  have hle : len ≤ cap := hs.2.1
  by_cases hl : 60 < len
  · have d0 : decide ((60 : Int) < (len : Int)) = true := by simp; omega
    clear hs hg hl
    go_enter Try.func4, Try.ntmps4
    go_wp2_with (go_at_call 14; refine (awake29 _).mono ?_; rintro e v1 ⟨rfl, hb1⟩; have D1 := Lib.hid hb1; clear hb1)
    go_ret
    exact ⟨rfl, D1.out⟩
  have d0 : decide ((60 : Int) < (len : Int)) = false := by simp; omega
  have hn60 : len ≤ 60 := by omega
  have HR1 := Lib.hid (fun B n c W (h : COpsAre W B n c l) => calls_Rising B n c l W h hg (by have := h.1; have := hs.1; omega))
  have HR2 := Lib.hid (fun W h => ref29_Rising A len cap l W h (by omega))
  have db : (ris l [] == ris l []) = true := by simp
  generalize ris l [] = R at *
  clear hs hg hl
  go_enter Try.func4, Try.ntmps4
  go_wp2_with (go_at_call 14; refine (awake29 _).mono ?_; rintro e v1 ⟨rfl, hb1⟩; have D1 := Lib.hid hb1; clear hb1)
  go_loopw [3, 13] (fun vv i wr => ∃ k : Nat, k ≤ len ∧ i = .int .i64 k ∧ (∃ B m cc, vv = .slice B m cc) ∧ OwnC wr w.heap.size vv (l.take k) ∧ Below w.heap.size w wr) (fun _ i _ => len - (intOf i).toNat)
  case atStart => exact ⟨0, Nat.zero_le _, rfl, ⟨_, _, _, rfl⟩, Own.nil _ _ _ _ _, D1.out⟩
  case round =>
    obtain ⟨k, hk, rfl, ⟨B, m, cc, rfl⟩, ho, hbel⟩ := hrel
    have HO := Lib.hid ho
    have HB := Lib.hid hbel
    have hbs := hbel.size
    clear ho hbel
    by_cases hlt : k < len
    · have hki : (k : Int) < (len : Int) := by omega
      obtain ⟨b, off, x, rfl, hx, hb, t0, t1⟩ := COpsAre.at_ (slice_keep HS.out HB.out) hlt
      have HT := Lib.hid (show l.take (k + 1) = l.take k ++ [x] from by rw [List.take_add_one, hx]; rfl)
      have HLn := Lib.hid (show (l.take k).length < 1000000 from by have := List.length_take_le k l; omega)
      clear hx
      go_wp2_with (at_builtin; refine push_c _ rfl (.tmp 17) (.tmp 23) rfl w.heap.size (.slice B m cc) _ rfl ((HO.out.alloc _).alloc _) (wr.heap.size + 1) 35 1 x rfl (Blk.new2 _ _ _ _) HLn.out (by simp; omega) ?_; intro v' w1 ho hb2 hg2; obtain ⟨A2, n2, c2, rfl, -, -⟩ := ho.shape cop_len; have O2 := Lib.hid ho; have B2 := Lib.hid (((HB.out.alloc HB.out.size _).alloc (by have := HB.out.size; simp; omega) _).trans hb2); clear ho hb2 hg2)
      go_roundw
      case rel => exact ⟨k + 1, by omega, by go_num, ⟨_, _, _, rfl⟩, by rw [HT.out]; exact O2.out, B2.out⟩
      case measure => simp [intOf]; omega
    · have hO := HO.out
      rw [List.take_of_length_le (by rw [HLl.out]; omega)] at hO
      obtain ⟨_, _, _, e0, -, hsl⟩ := hO.shape cop_len
      cases e0
      have HSl := Lib.hid hsl
      clear hO hsl
      go_wp2_with (first
        | (go_at_call 19; refine (HR1.out _ _ _ _ HSl.out).mono ?_; rintro e v8 ⟨rfl, hb8⟩; have D8 := Lib.hid (HB.out.trans (hb8.mono HB.out.size)); clear hb8)
        | (go_at_call 20; refine (HR2.out _ (slice_keep HS.out D8.out)).mono ?_; rintro e v9 ⟨rfl, hb9⟩; have D9 := Lib.hid (D8.out.trans (hb9.mono D8.out.size)); clear hb9))
      go_ret
      exact ⟨rfl, D9.out⟩
end Go.Proofs.Ytkjmacdekfbfhaa
