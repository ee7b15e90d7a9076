/- An id's stripe: both texts. (fast region) -/
import Derived.Test.YtkjmacdekfbfhaaIdent3
import Derived.Test.YtkjmacdekfbfhaaStoreC
namespace Go.Proofs.Ytkjmacdekfbfhaa
open Go.RowKit
set_option linter.unusedSimpArgs false
set_option linter.unusedVariables false
set_option maxHeartbeats 4000000
set_option maxRecDepth 100000
def homeq (c : Cfg) (s : ByteArray) : Int := if idOk s then ofq (keyHi s) (keyLo s) c.str else -1
theorem homeq_bd (c : Cfg) (s : ByteArray) : -1 ≤ homeq c s ∧ homeq c s < 64 := by
  unfold homeq
  have := ofq_bd (keyHi s) (keyLo s) c.str
  split <;> omega
theorem calls_Home (c : Cfg) (s : ByteArray) (w : World) (hs : s.size ≤ maxLen) (hc : c.fit) :
    Calls Try.prog 17 #[.agg c.row, .string s] w fun e w' => e = .returned (.int .i64 (homeq c s)) ∧ Below w.heap.size w w' := by
  have HP := Lib.hid (fun W => ident_Pack s W hs)
  have hk1 := keyHi_lt s
  have hk2 := keyLo_lt s
  have HO := Lib.hid (fun W => route_Of (keyHi s) (keyLo s) c.str W hc.1 (by omega) (by omega))
  have X := Lib.hid (And.intro (Blk.new w 23 c.row) (show Below w.heap.size w (w.alloc (.cells c.row 23)) by go_grown))
  clear hk1 hk2
  cases hi : idOk s
  · have HE := Lib.hid (show homeq c s = -1 from by unfold homeq; rw [hi]; rfl)
    have he : idErr s = 2 := by unfold idErr; rw [hi]; rfl
    rw [he] at HP
    clear hi he hc
    go_enter Try.func17, Try.ntmps17
    go_wp2_with (go_at_call 65; refine (HP.out _).mono ?_; rintro e w1 ⟨rfl, hb1⟩; have D1 := Lib.hid (X.out.2.trans (hb1.mono X.out.2.size)); have B1 := Lib.hid (X.out.1.call hb1); have z1 := B1.out.lt; clear hb1)
    go_ret
    exact ⟨ret_int HE.out.symm, by have := D1.out.alloc D1.out.size; exact this _⟩
  · have HE := Lib.hid (show homeq c s = ofq (keyHi s) (keyLo s) c.str from by unfold homeq; rw [hi]; rfl)
    have he : idErr s = 0 := by unfold idErr; rw [hi]; rfl
    rw [he] at HP
    clear hi he hc
    generalize ofq (keyHi s) (keyLo s) c.str = R at *
    go_enter Try.func17, Try.ntmps17
    go_wp2_with (first
      | (go_at_call 65; refine (HP.out _).mono ?_; rintro e w1 ⟨rfl, hb1⟩; have D1 := Lib.hid (X.out.2.trans (hb1.mono X.out.2.size)); have B1 := Lib.hid (X.out.1.call hb1); have z1 := B1.out.lt; have c0 := B1.out.cellv (i := 0) (v := .int .i64 c.str) rfl; clear hb1)
      | (go_at_call 66; refine (HO.out _).mono ?_; rintro e w2 ⟨rfl, hb2⟩; have D2 := Lib.hid ((D1.out.alloc D1.out.size _).trans (hb2.mono (D1.out.alloc D1.out.size _).size)); clear hb2))
    go_ret
    exact ⟨ret_int HE.out.symm, D2.out⟩
theorem ref29_Home (c : Cfg) (s : ByteArray) (w : World) (hs : s.size ≤ maxLen) (hc : c.fit) :
    Calls Try.prog 18 #[.agg c.row, .string s] w fun e w' => e = .returned (.int .i64 (homeq c s)) ∧ Below w.heap.size w w' := by
  have HI := Lib.hid (fun W => ref03_Id s W hs)
  have HK := Lib.hid (fun W => ref03_Key s W hs)
  have hk1 := keyHi_lt s
  have hk2 := keyLo_lt s
  have HO := Lib.hid (fun W => ref_Of (keyHi s) (keyLo s) c.str W hc.1 (by omega) (by omega))
  have X := Lib.hid (And.intro (Blk.new w 23 c.row) (show Below w.heap.size w (w.alloc (.cells c.row 23)) by go_grown))
  clear hk1 hk2
  cases hi : idOk s
  · have HE := Lib.hid (show homeq c s = -1 from by unfold homeq; rw [hi]; rfl)
    rw [hi] at HI
    clear hi hc
    go_enter Try.func18, Try.ntmps18
    go_wp2_with (go_at_call 67; refine (HI.out _).mono ?_; rintro e w1 ⟨rfl, rfl⟩)
    go_ret
    exact ⟨ret_int HE.out.symm, X.out.2⟩
  · have HE := Lib.hid (show homeq c s = ofq (keyHi s) (keyLo s) c.str from by unfold homeq; rw [hi]; rfl)
    rw [hi] at HI
    clear hi hc
    generalize ofq (keyHi s) (keyLo s) c.str = R at *
    go_enter Try.func18, Try.ntmps18
    focus (go_upto_region 3 with (go_at_call 67; refine (HI.out _).mono ?_; rintro e w1 ⟨rfl, rfl⟩))
    obtain ⟨w0, hw0⟩ : ∃ w0, w0 = w.alloc (.cells c.row 23) := ⟨_, rfl⟩
    rw [← hw0] at X ⊢
    clear hw0
    refine wp_region_any (by kernel_rfl) ?_; change wpAny _ _ _ _ _ _ _ (World.drew w0); refine any_of_anyG (late := fun _ => false) (S := fun wS => Below w0.heap.size w0 wS) _ _ _ _ ?_
    have S0 := (Below.refl w0.heap.size w0).drew
    refine anyG_takes (is := [0, 2, 3]) (vs := [_, _, .int .i64 c.str]) (m := 3) (listed2 := #[true, false, true, true, false, false]) (a2 := ⟨#[_, _, _, _, _, _, _, _, _, _, _, _, _], _⟩) (by kernel_rfl) (fun j hj => by simp at hj) (by kernel_rfl) (fun _ _ _ _ _ h => h) (Ys.cons rfl (Or.inl ⟨by rfl, fun W1 hW1 => by first | rfl | (go_simp; done) | (go_simp; with_reducible rfl)⟩) (Ys.cons rfl (Or.inl ⟨by rfl, fun W1 hW1 => by first | rfl | (go_simp; done) | (go_simp; with_reducible rfl)⟩) (Ys.cons rfl (Or.inl ⟨by rfl, fun W1 hW1 => by have c := (X.out.1.call hW1).cellv (i := 0) (v := .int .i64 c.str) rfl; go_simp⟩) (Ys.nil)))) (S0) (by rfl) (by rfl) ?_
    refine anyG_one (k := 1) (by kernel_rfl) rfl (by rfl) (fun Q2 hQ2 => ?_); go_wp2_with (go_at_call 69; refine (HK.out _).mono ?_; rintro e v1 ⟨rfl, hb1⟩); refine hQ2 _ _ (fun _ => S0.trans (hb1.mono S0.size)) ?_; clear hQ2 Q2
    have S1 := S0.trans (hb1.mono S0.size)
    refine anyG_one (k := 4) (by kernel_rfl) rfl (by rfl) (fun Q2 hQ2 => ?_); go_wp2_with (go_at_call 68; refine (HO.out _).mono ?_; rintro e v2 ⟨rfl, hb2⟩); refine hQ2 _ _ (fun _ => S1.trans (hb2.mono S1.size)) ?_; clear hQ2 Q2
    have S2 := S1.trans (hb2.mono S1.size)
    refine anyG_takes (is := [5]) (vs := [.int .i64 R]) (m := 0) (listed2 := #[true, true, true, true, true, true]) (a2 := ⟨#[_, _, _, _, _, _, _, _, _, _, _, _, _], _⟩) (by kernel_rfl) (fun j hj => by simp at hj) (by kernel_rfl) (fun _ _ _ _ _ h => h) (Ys.cons rfl (Or.inl ⟨by rfl, fun W1 hW1 => by rfl⟩) (Ys.nil)) (S2) (by rfl) (by rfl) ?_
    refine anyG_done (by kernel_rfl) ?_ _
    have E := Lib.hid (X.out.2.trans (S2.mono X.out.2.size))
    go_wp2
    go_ret
    exact ⟨ret_int HE.out.symm, E.out⟩
end Go.Proofs.Ytkjmacdekfbfhaa
