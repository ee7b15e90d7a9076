/- ident.Pack and its reference: a key's two words: the walks. (fast region) -/
import Derived.Test.YtkjmacdekfbfhaaIdent
import Derived.Test.YtkjmacdekfbfhaaKeep
import Derived.Test.YtkjmacdekfbfhaaRegT
import Derived.Test.YtkjmacdekfbfhaaRegL
import Derived.Laws.BitsAllLaws
namespace Go.Proofs.Ytkjmacdekfbfhaa
open Go.RowKit
set_option linter.unusedSimpArgs false
set_option linter.unusedVariables false
set_option maxHeartbeats 4000000
set_option maxRecDepth 100000
def keyHi (s : ByteArray) : Nat := if idOk s then kHi (codesI s) else 0
def keyLo (s : ByteArray) : Nat := if idOk s then kLo (codesI s) else 0
theorem keyHi_lt (s : ByteArray) : keyHi s < 1152921504606846976 := by
  unfold keyHi; split
  · exact kHi_lt (codesI_lt s)
  · decide
theorem keyLo_lt (s : ByteArray) : keyLo s < 1152921504606846976 := by
  unfold keyLo
  cases h : idOk s
  · simp
  · rw [if_pos rfl]; exact kLo_lt (by rw [codesI_len]; exact (idOk_at h).1.2) (codesI_lt s)
theorem iter_set {w : World} {s : ByteArray} {k n i : Nat} (hn : n < w.heap.size) (u : Value) : (w.iter s k).setCell ⟨n, i, none⟩ u = (w.setCell ⟨n, i, none⟩ u).iter s k := World.setCell_alloc_past _ _ _ _ hn
theorem iter_drew (w : World) (s : ByteArray) (k : Nat) : (w.iter s k).drew = w.drew.iter s k := rfl
theorem ref03_Key (s : ByteArray) (w : World) (hs : s.size ≤ maxLen) :
    Calls Try.prog 69 #[.string s] w fun e w' => e = .returned (.agg #[.int .u64 (keyHi s : Nat), .int .u64 (keyLo s : Nat)]) ∧ Below w.heap.size w w' := by
  unfold maxLen at hs
  have HI := Lib.hid (fun W => ref03_Id s W (by unfold maxLen; exact hs))
  cases hi : idOk s
  · rw [hi] at HI
    have h1 : keyHi s = 0 := by unfold keyHi; rw [hi]; rfl
    have h2 : keyLo s = 0 := by unfold keyLo; rw [hi]; rfl
    rw [h1, h2]
    clear hi h1 h2
    go_enter Try.func69, Try.ntmps69
    go_wp2_with (go_at_call 67; refine (HI.out _).mono ?_; rintro e w1 ⟨rfl, rfl⟩)
    go_returns
    exact ⟨rfl, by go_grown⟩
  · obtain ⟨⟨h1, h2⟩, h3⟩ := idOk_at hi
    have eh : keyHi s = kHi (codesI s) := by unfold keyHi; rw [hi]; rfl
    have el : keyLo s = kLo (codesI s) := by unfold keyLo; rw [hi]; rfl
    rw [eh, el, ← rHi_end (by rw [codesI_len]; exact h2), ← rLo_end (by rw [codesI_len]; exact h2)]
    rw [hi] at HI
    have HR := Lib.hid (fun i hi => r_lt (l := codesI s) (by rw [codesI_len]; exact h2) (codesI_lt s) i hi)
    have HP := Lib.hid (fun i (hi : i < s.size) => padq_in (codesI_at hi))
    have HQ := Lib.hid (fun i (h : s.size ≤ i) (hi : i < 20) => padq_out (l := codesI s) (by rw [codesI_len]; exact h) hi)
    have HB := Lib.hid (fun i c hc hi => rHi_snoc (l := codesI s) (i := i) (c := c) hc hi)
    have HL := Lib.hid (fun i c hc hi => rLo_snoc (l := codesI s) (i := i) (c := c) hc hi)
    have HH := Lib.hid (fun i hi => rHi_high (l := codesI s) (i := i) hi)
    have HW := Lib.hid (fun i hi => rLo_low (l := codesI s) (i := i) hi)
    have HN := Lib.hid h3
    have r0 : rHi (codesI s) 0 = 0 := rfl
    have r1 : rLo (codesI s) 0 = 0 := rfl
    have R0 := Lib.hid r0
    have R1 := Lib.hid r1
    clear hi h1 h3 eh el r0 r1
    generalize rHi (codesI s) = rh at *
    generalize rLo (codesI s) = rl at *
    generalize padq (codesI s) = pd at *
    go_enter Try.func69, Try.ntmps69
    go_wp2_with (go_at_call 67; refine (HI.out _).mono ?_; rintro e w1 ⟨rfl, rfl⟩)
    go_loopw [4] (fun i wr => ∃ k : Nat, k ≤ 20 ∧ i = .int .i64 k ∧ Blk wr (w.heap.size + 1) 103 #[.int .u64 (rh k : Nat), .int .u64 (rl k : Nat)] ∧ Blk wr w.heap.size 103 #[.int .u64 0, .int .u64 0] ∧ Below w.heap.size w wr) (fun i _ => 20 - (intOf i).toNat)
    case atStart => exact ⟨0, by omega, rfl, by rw [R0.out, R1.out]; exact Blk.new2 _ _ _ _, (Blk.new _ _ _).alloc _, by go_grown⟩
    case round =>
      obtain ⟨k, hk, rfl, hb, hb0, hbel⟩ := hrel
      have HBl := Lib.hid hb
      have HB0 := Lib.hid hb0
      have HBe := Lib.hid hbel
      have c0 := hb.cellv (i := 0) (v := .int .u64 (rh k : Nat)) rfl
      have c1 := hb.cellv (i := 1) (v := .int .u64 (rl k : Nat)) rfl
      have f0 := hb.frozen 0
      have f1 := hb.frozen 1
      have z0 := hb.lt
      obtain ⟨q1, q2⟩ := HR.out k hk
      clear hb hb0 hbel
      by_cases hlt : k < 20
      · have hki : (k : Int) < 20 := by omega
        by_cases hs1 : k < s.size
        · have hb8 : (s[k]'hs1).toNat < 256 := (s[k]'hs1).toNat_lt
          obtain ⟨b1, b2⟩ := codeq_bd ((s[k]'hs1).toNat : Int)
          have hP := HP.out k hs1
          have HPl := Lib.hid (fun W => ref_place (s[k]'hs1).toNat W hb8)
          have hsi : (k : Int) < (s.size : Int) := by omega
          generalize codeq ((s[k]'hs1).toNat : Int) = C at *
          by_cases h10 : k < 10
          · have HX := Lib.hid (show ((rh (k + 1) : Nat) : Int) = (rh k : Int) * 64 + C from by rw [HB.out k _ hP h10]; omega)
            have HY := Lib.hid (show rl (k + 1) = rl k from by rw [HW.out (k + 1) (by omega), HW.out k (by omega)])
            have d10 : decide ((k : Int) < 10) = true := by simp; omega
            have hb1 := (HR.out (k + 1) (by omega)).1
            have hx1 := HX.out
            have w1 : IntKind.u64.wrap ((rh k : Int) * 64) = (rh k : Int) * 64 := by rw [IntKind.wrap_u64]; omega
            have w3 : IntKind.u64.wrap ((rh k : Int) * 64 + C) = (rh k : Int) * 64 + C := by rw [IntKind.wrap_u64]; omega
            clear hb1 hx1
            clear hP
            go_wp2_with (go_at_call 110; refine (HPl.out _).mono ?_; rintro e w1 ⟨rfl, rfl⟩)
            go_roundw
            case rel => exact ⟨k + 1, by omega, by go_num, by rw [HX.out, HY.out]; exact HBl.out.set_ 0 _, HB0.out.far (by simp) _, HBe.out.setCell (by simp) _⟩
            case measure => simp [intOf]; omega
          · have HX := Lib.hid (show ((rl (k + 1) : Nat) : Int) = (rl k : Int) * 64 + C from by rw [HL.out k _ hP (by omega)]; omega)
            have HY := Lib.hid (show rh (k + 1) = rh k from by rw [HH.out (k + 1) (by omega), HH.out k (by omega)])
            have d10 : decide ((k : Int) < 10) = false := by simp; omega
            have hb1 := (HR.out (k + 1) (by omega)).2
            have hx1 := HX.out
            have w1 : IntKind.u64.wrap ((rl k : Int) * 64) = (rl k : Int) * 64 := by rw [IntKind.wrap_u64]; omega
            have w3 : IntKind.u64.wrap ((rl k : Int) * 64 + C) = (rl k : Int) * 64 + C := by rw [IntKind.wrap_u64]; omega
            clear hb1 hx1
            clear hP
            go_wp2_with (go_at_call 110; refine (HPl.out _).mono ?_; rintro e w1 ⟨rfl, rfl⟩)
            go_roundw
            case rel => exact ⟨k + 1, by omega, by go_num, by rw [HX.out, HY.out]; exact HBl.out.set_ 1 _, HB0.out.far (by simp) _, HBe.out.setCell (by simp) _⟩
            case measure => simp [intOf]; omega
        · have hP := HQ.out k (by omega) hlt
          have hsi : decide ((k : Int) < (s.size : Int)) = false := by simp; omega
          by_cases h10 : k < 10
          · have HX := Lib.hid (show ((rh (k + 1) : Nat) : Int) = (rh k : Int) * 64 from by rw [HB.out k _ hP h10]; omega)
            have HY := Lib.hid (show rl (k + 1) = rl k from by rw [HW.out (k + 1) (by omega), HW.out k (by omega)])
            have d10 : decide ((k : Int) < 10) = true := by simp; omega
            have hb1 := (HR.out (k + 1) (by omega)).1
            have hx1 := HX.out
            have w1 : IntKind.u64.wrap ((rh k : Int) * 64) = (rh k : Int) * 64 := by rw [IntKind.wrap_u64]; omega
            clear hb1 hx1
            clear hP
            go_wp2
            go_roundw
            case rel => exact ⟨k + 1, by omega, by go_num, by rw [HX.out, HY.out]; first | exact HBl.out.set_ 0 _ | (have := HBl.out.set_ 0 (.int .u64 ((rh k : Int) * 64)); simpa using this), HB0.out.far (by simp) _, HBe.out.setCell (by simp) _⟩
            case measure => simp [intOf]; omega
          · have HX := Lib.hid (show ((rl (k + 1) : Nat) : Int) = (rl k : Int) * 64 from by rw [HL.out k _ hP (by omega)]; omega)
            have HY := Lib.hid (show rh (k + 1) = rh k from by rw [HH.out (k + 1) (by omega), HH.out k (by omega)])
            have d10 : decide ((k : Int) < 10) = false := by simp; omega
            have hb1 := (HR.out (k + 1) (by omega)).2
            have hx1 := HX.out
            have w1 : IntKind.u64.wrap ((rl k : Int) * 64) = (rl k : Int) * 64 := by rw [IntKind.wrap_u64]; omega
            clear hb1 hx1
            clear hP
            go_wp2
            go_roundw
            case rel => exact ⟨k + 1, by omega, by go_num, by rw [HX.out, HY.out]; first | exact HBl.out.set_ 1 _ | (have := HBl.out.set_ 1 (.int .u64 ((rl k : Int) * 64)); simpa using this), HB0.out.far (by simp) _, HBe.out.setCell (by simp) _⟩
            case measure => simp [intOf]; omega
      · obtain rfl : k = 20 := by omega
        have e0 := HB0.out.cellv (i := 0) (v := .int .u64 0) rfl
        have e1 := HB0.out.cellv (i := 1) (v := .int .u64 0) rfl
        have g0 := HB0.out.frozen 0
        have g1 := HB0.out.frozen 1
        go_wp2
        have hb9 : Blk ((wr.setCell ⟨w.heap.size, 0, none⟩ (.int .u64 (rh 20 : Nat))).setCell ⟨w.heap.size, 1, none⟩ (.int .u64 (rl 20 : Nat))) w.heap.size 103 #[.int .u64 (rh 20 : Nat), .int .u64 (rl 20 : Nat)] := (HB0.out.set_ 0 _).set_ 1 _
        refine bodyPost_ret (results_row rfl _ _ w.heap.size _ _ _ rfl hb9 Try.underlying103 rfl (by kernel_rfl)) rfl ⟨rfl, (HBe.out.setCell (by simp) _).setCell (by simp) _⟩
end Go.Proofs.Ytkjmacdekfbfhaa
