/- Chapter 08's laws: told, awake. -/
import Derived.Test.YtjodpffdlggjgaaSer6
namespace Go.Proofs.Ytjodpffdlggjgaa
open Go.RowKit
set_option linter.unusedSimpArgs false
set_option linter.unusedVariables false
set_option maxHeartbeats 4000000
set_option maxRecDepth 100000
theorem told_none (g : Nat) (v : Value) (room : Int) (A : Option Addr) (n c : Nat) (w : World) (h : SerAt w g v [] room) (hs : SmpsAre w A n c []) :
    Calls Try.prog 22 #[.pointer (some ⟨g, 0, none⟩), .slice A n c] w fun e w' => e = .returned (.bool true) ∧ Below w.heap.size w w' := by
  have HA := Lib.hid h
  have HB := Lib.hid hs
  have hn0 : n = 0 := hs.1.symm
  subst hn0
  obtain ⟨q1, q2, q3⟩ := eq_smp ⟨0, 0⟩ ⟨0, 0⟩
  rw [show smpEq ⟨0, 0⟩ ⟨0, 0⟩ = true by decide] at q2 q3
  clear q2
  have HL := Lib.hid (fun w h => series_Last_none g v room w h)
  have HLen := Lib.hid (fun w h => series_Len g v [] room w h (by simp))
  have HLi := Lib.hid (fun w h => series_List g v [] room w h (by simp))
  clear h hs
  go_enter Try.func22, Try.ntmps22
  go_wp2_with fail
  refine (HL.out _ HA.out).mono ?_
  rintro e w1 ⟨rfl, hb1⟩
  have B1 := Lib.hid (hb1.alloc hb1.size (.cells #[.int .i64 0, .int .i64 0] 35))
  have X1 := Blk.new w1 35 #[.int .i64 0, .int .i64 0]
  have x0 := X1.cellv (i := 0) (v := .int .i64 0) rfl
  have x1 := X1.cellv (i := 1) (v := .int .i64 0) rfl
  clear hb1 X1
  go_wp2
  go_quiet (fail)
  go_wp2_with fail
  refine (HLen.out _ (HA.out.call (below_drewN B1.out _))).mono ?_
  rintro e w2 ⟨rfl, rfl⟩
  go_wp2_with fail
  refine (HLi.out _ (HA.out.call (below_drewN B1.out _))).mono ?_
  rintro e w2 ⟨A2, n2, c2, rfl, ho, hb⟩
  have B2 := Lib.hid ((below_drewN B1.out _).trans (hb.mono B1.out.size))
  have H2 := Lib.hid (ho.is smp_len)
  clear ho hb
  go_wp2_with fail
  refine (ref08_Same A2 A n2 c2 0 c [] [] _ H2.out (slice_keep HB.out B2.out)).mono ?_
  rintro e w3 ⟨rfl, hb⟩
  have B3 := Lib.hid (B2.out.trans (hb.mono B2.out.size))
  clear hb
  go_wp2
  go_ret
  exact ⟨rfl, B3.out⟩
theorem told_some (g : Nat) (v : Value) (l : List Smp) (y : Smp) (room : Int) (A : Option Addr) (n c : Nat) (w : World) (h : SerAt w g v (l ++ [y]) room) (hs : SmpsAre w A n c (l ++ [y])) (hl : l.length ≤ 9999) :
    Calls Try.prog 22 #[.pointer (some ⟨g, 0, none⟩), .slice A n c] w fun e w' => e = .returned (.bool true) ∧ Below w.heap.size w w' := by
  have HA := Lib.hid h
  have HB := Lib.hid hs
  have hn0 : n = l.length + 1 := by have := hs.1; simp at this; omega
  subst hn0
  obtain ⟨b, off, y', rfl, hy, hb, t0, t1⟩ := SmpsAre.at_ hs (show l.length < l.length + 1 by omega)
  rw [List.getElem?_append_right (Nat.le_refl _), Nat.sub_self] at hy
  simp at hy
  subst hy
  obtain ⟨q1, q2, q3⟩ := eq_smp y y
  rw [show smpEq y y = true by simp [smpEq]] at q2 q3
  clear q2
  have HL := Lib.hid (fun w h => series_Last g v l y room w h (by omega))
  have HLen := Lib.hid (fun w h => series_Len g v (l ++ [y]) room w h (by simp; omega))
  have HLi := Lib.hid (fun w h => series_List g v (l ++ [y]) room w h (by simp; omega))
  have HT := Lib.hid (And.intro hb (And.intro t0 t1))
  rw [show (l ++ [y]).length = l.length + 1 by simp] at HLen
  have e1 : ((l.length + 1 : Nat) : Int) - 1 = (l.length : Int) := by omega
  have d1 : decide ((0 : Int) < ((l.length + 1 : Nat) : Int)) = true := by simp
  generalize hm : l.length = m at *
  have HM := Lib.hid hm
  clear h hs hm hb t0 t1
  generalize l ++ [y] = L at *
  go_enter Try.func22, Try.ntmps22
  go_wp2_with fail
  refine (HL.out _ HA.out).mono ?_
  rintro e w1 ⟨rfl, hb1⟩
  have B1 := Lib.hid (hb1.alloc hb1.size (.cells #[.int .i64 y.tick, .int .i64 y.value] 35))
  have X1 := Blk.new w1 35 #[.int .i64 y.tick, .int .i64 y.value]
  have x0 := X1.cellv (i := 0) (v := .int .i64 y.tick) rfl
  have x1 := X1.cellv (i := 1) (v := .int .i64 y.value) rfl
  have k0 := (B1.out.cell (p := ⟨b, off + m * 2, none⟩) HT.out.1).trans HT.out.2.1
  have k1 := (B1.out.cell (p := ⟨b, off + m * 2 + 1, none⟩) HT.out.1).trans HT.out.2.2
  have hmi : (m : Int) < ((m + 1 : Nat) : Int) := by omega
  clear hb1 X1
  go_wp2
  go_quiet (fail)
  go_wp2_with fail
  refine (HLen.out _ (HA.out.call (below_drewN B1.out _))).mono ?_
  rintro e w2 ⟨rfl, rfl⟩
  go_wp2_with fail
  refine (HLi.out _ (HA.out.call (below_drewN B1.out _))).mono ?_
  rintro e w2 ⟨A2, n2, c2, rfl, ho, hb⟩
  have B2 := Lib.hid ((below_drewN B1.out _).trans (hb.mono B1.out.size))
  have H2 := Lib.hid (ho.is smp_len)
  clear ho hb k0 k1 x0 x1
  go_wp2_with fail
  refine (ref08_Same A2 _ n2 c2 _ c L L _ H2.out (slice_keep HB.out B2.out)).mono ?_
  rw [show decide (L = L) = true by simp]
  rintro e w3 ⟨rfl, hb⟩
  have B3 := Lib.hid (B2.out.trans (hb.mono B2.out.size))
  clear hb
  go_wp2
  go_ret
  exact ⟨rfl, B3.out⟩
theorem told_true (g : Nat) (v : Value) (l : List Smp) (room : Int) (A : Option Addr) (n c : Nat) (w : World) (h : SerAt w g v l room) (hs : SmpsAre w A n c l) (hl : l.length ≤ 9999) :
    Calls Try.prog 22 #[.pointer (some ⟨g, 0, none⟩), .slice A n c] w fun e w' => e = .returned (.bool true) ∧ Below w.heap.size w w' := by
  rcases List.eq_nil_or_concat l with rfl | ⟨l', y, rfl⟩
  · exact told_none g v room A n c w h hs
  · rw [List.concat_eq_append] at *
    exact told_some g v l' y room A n c w h hs (by simp at hl; omega)
theorem of08 (w : World) (A : Option Addr) (hs : SmpsAre w A 3 3 [⟨5, 0⟩, ⟨7, 0⟩, ⟨6, 1⟩]) : Calls Try.prog 23 #[.int .i64 2, .slice A 3 3] w (OfS w [⟨6, 1⟩, ⟨7, 0⟩] 2) := by
  have h := series_Of 2 A 3 3 _ w hs (by omega) (by omega) (by omega)
  rw [show serq 2 [⟨5, 0⟩, ⟨7, 0⟩, ⟨6, 1⟩] = [⟨6, 1⟩, ⟨7, 0⟩] by decide +kernel] at h
  exact h
theorem awake08 (w : World) : Calls Try.prog 14 #[] w fun e w' => e = .returned (.bool true) ∧ Below w.heap.size w w' := by
  have HP := Lib.hid (fun p W => series_Put_bad p (-1) (-1) 3 W (by omega) (by decide))
  go_enter Try.func14, Try.ntmps14
  go_wp2_with fail
  refine (of08 _ _ (slice_blk (l := ([⟨5, 0⟩, ⟨7, 0⟩, ⟨6, 1⟩] : List Smp)) (fun _ => rfl) (Blk.new w _ _) rfl (by decide))).mono ?_
  rintro e w1 ⟨g, v, rfl, hi⟩
  have I1 := Lib.hid hi
  have E1 := Lib.hid (show Below w.heap.size w w1 from Below.trans (by go_grown) (hi.2.2.1.mono (by simp)))
  clear hi
  go_wp2_with fail
  refine (series_List g v _ _ _ I1.out.1 (by simp)).mono ?_
  rintro e w2 ⟨A2, n2, c2, rfl, ho, hb⟩
  have I2 := Lib.hid (I1.out.1.call hb)
  have E2 := Lib.hid (E1.out.trans (hb.mono E1.out.size))
  have H2 := Lib.hid (ho.is smp_len)
  clear ho hb
  go_wp2_with fail
  refine (ref08_Same A2 _ n2 c2 2 2 [⟨6, 1⟩, ⟨7, 0⟩] [⟨6, 1⟩, ⟨7, 0⟩] _ (slice_keep H2.out ((Below.refl _ _).alloc (Nat.le_refl _) _)) (slice_blk (l := ([⟨6, 1⟩, ⟨7, 0⟩] : List Smp)) (fun _ => rfl) (Blk.new w2 _ _) rfl (by decide))).mono ?_
  rintro e w3 ⟨rfl, hb⟩
  have E3 := Lib.hid ((E2.out.alloc E2.out.size (.cells #[.int .i64 6, .int .i64 1, .int .i64 7, .int .i64 0] 35)).trans (hb.mono (E2.out.alloc E2.out.size _).size))
  clear hb
  rw [show decide ([(⟨6, 1⟩ : Smp), ⟨7, 0⟩] = [⟨6, 1⟩, ⟨7, 0⟩]) = true by decide]
  go_wp2_with (go_at_call 19; refine (HP.out _ _).mono ?_; rintro e w4 ⟨rfl, rfl⟩)
  go_ret
  exact ⟨rfl, E3.out⟩
end Go.Proofs.Ytjodpffdlggjgaa
