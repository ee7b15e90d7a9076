/- slices.rotateCmpFunc at samples. -/
import Derived.Test.YtkjmacdekfbfhaaStab1
namespace Go.Proofs.Ytkjmacdekfbfhaa
open Go.RowKit
set_option linter.unusedSimpArgs false
set_option linter.unusedVariables false
set_option maxHeartbeats 4000000
set_option maxRecDepth 100000
theorem slices_swapRange2 (g n c a b k : Nat) (A U B V C L : List Smp) (fv : Value) (w : World) (ha : a = A.length) (hk : k = U.length) (hb : b = a + k + B.length) (hl : U.length = V.length) (hn : A.length + U.length + B.length + V.length + C.length = n) (hm : n ≤ 100000)
    (hL : A ++ V ++ B ++ U ++ C = L) (h : Arr w g (A ++ U ++ B ++ V ++ C)) :
    Calls Try.prog 187 #[.slice (some ⟨g, 0, none⟩) n c, .int .i64 a, .int .i64 b, .int .i64 k, fv] w (SrtP w g L) := by
  subst ha hk hb hL
  exact slices_swapRange g n c A U B V C fv w hl hn hm h
structure RotI (w wr : World) (g n m : Nat) (G : List Smp) (p i j : Nat) (P U V S : List Smp) : Prop where
  lp : p = P.length
  lu : i = U.length
  lv : j = V.length
  pu : 0 < i
  pv : 0 < j
  hm : m = p + i
  hn : p + i + j + S.length = n
  hG : P ++ V ++ U ++ S = G
  arr : Arr wr g (P ++ U ++ V ++ S)
  upd : Upd (fun k => k = g) w wr
theorem RotI.gt {w wr : World} {g n m : Nat} {G : List Smp} {p i j : Nat} {P U V S : List Smp} (h : RotI w wr g n m G p i j P U V S) (hij : j < i) (hn : n ≤ 100000) (c : Nat) (fv : Value) :
    ∃ U1 U2, (∀ W, Upd (fun k => k = g) wr W → Arr W g (P ++ V ++ U2 ++ U1 ++ S) → RotI w W g n m G (p + j) (i - j) j (P ++ V) U2 U1 S) ∧ Calls Try.prog 187 #[.slice (some ⟨g, 0, none⟩) n c, .int .i64 p, .int .i64 m, .int .i64 j, fv] wr (SrtP wr g (P ++ V ++ U2 ++ U1 ++ S)) := by
  obtain ⟨lp, lu, lv, pu, pv, hm, hn2, hG, arr, upd⟩ := h
  have e : U.take j ++ U.drop j = U := List.take_append_drop j U
  have l1 : (U.take j).length = j := by rw [List.length_take]; omega
  have l2 : (U.drop j).length = i - j := by rw [List.length_drop]; omega
  generalize U.take j = U1 at *
  generalize U.drop j = U2 at *
  subst e
  refine ⟨U1, U2, fun W hu ha => ⟨by simp; omega, l2.symm, l1.symm, by omega, pv, by omega, by omega, by rw [← hG]; simp, ha, upd.trans hu (fun k hk => .inl hk)⟩, ?_⟩
  exact slices_swapRange2 g n c p m j P U1 U2 V S _ fv wr lp l1.symm (by omega) (by omega) (by omega) hn rfl (by simpa using arr)
theorem RotI.le {w wr : World} {g n m : Nat} {G : List Smp} {p i j : Nat} {P U V S : List Smp} (h : RotI w wr g n m G p i j P U V S) (hij : i < j) (hn : n ≤ 100000) (c : Nat) (fv : Value) :
    ∃ V1 V2, (∀ W, Upd (fun k => k = g) wr W → Arr W g (P ++ V2 ++ V1 ++ U ++ S) → RotI w W g n m G p i (j - i) P V2 V1 (U ++ S)) ∧ Calls Try.prog 187 #[.slice (some ⟨g, 0, none⟩) n c, .int .i64 p, .int .i64 ((m + j - i : Nat) : Int), .int .i64 i, fv] wr (SrtP wr g (P ++ V2 ++ V1 ++ U ++ S)) := by
  obtain ⟨lp, lu, lv, pu, pv, hm, hn2, hG, arr, upd⟩ := h
  have e : V.take (j - i) ++ V.drop (j - i) = V := List.take_append_drop _ V
  have l1 : (V.take (j - i)).length = j - i := by rw [List.length_take]; omega
  have l2 : (V.drop (j - i)).length = i := by rw [List.length_drop]; omega
  generalize V.take (j - i) = V1 at *
  generalize V.drop (j - i) = V2 at *
  subst e
  refine ⟨V1, V2, fun W hu ha => ⟨lp, l2.symm, l1.symm, pu, by omega, hm, by simp; omega, by rw [← hG]; simp, by simpa using ha, upd.trans hu (fun k hk => .inl hk)⟩, ?_⟩
  exact slices_swapRange2 g n c p (m + j - i) i P U V1 V2 S _ fv wr lp lu (by omega) (by omega) (by omega) hn rfl (by simpa using arr)
theorem slices_rotate (g n c a m b : Nat) (P U V Q G : List Smp) (fv : Value) (w : World) (ha : a = P.length) (hm : m = a + U.length) (hb : b = m + V.length) (hn : b + Q.length = n) (hn2 : n ≤ 100000) (hU : 0 < U.length) (hV : 0 < V.length) (hG : P ++ V ++ U ++ Q = G) (h : Arr w g (P ++ U ++ V ++ Q)) :
    Calls Try.prog 174 #[.slice (some ⟨g, 0, none⟩) n c, .int .i64 a, .int .i64 m, .int .i64 b, fv] w (SrtP w g G) := by
  obtain ⟨u, hu⟩ : ∃ u, u = U.length := ⟨_, rfl⟩
  obtain ⟨v, hv⟩ : ∃ v, v = V.length := ⟨_, rfl⟩
  have R0 := Lib.hid (show RotI w w g n m G a u v P U V Q from ⟨ha, hu, hv, by omega, by omega, by omega, by omega, hG, h, Upd.refl _ _⟩)
  have z1 : IntKind.i64.wrap ((m : Int) - (a : Int)) = (u : Int) := by rw [IntKind.wrap_i64]; omega
  have z2 : IntKind.i64.wrap ((b : Int) - (m : Int)) = (v : Int) := by rw [IntKind.wrap_i64]; omega
  have hmn : m ≤ n := by omega
  clear ha hm hb hn hU hV hG h hu hv
  go_enter Try.func174, Try.ntmps174
  go_wp2
  clear z1 z2
  go_loopw [10, 11] (fun i j wr => ∃ (p x y : Nat) (P U V S : List Smp), i = .int .i64 x ∧ j = .int .i64 y ∧ RotI w wr g n m G p x y P U V S) (fun i j _ => (intOf i).toNat + (intOf j).toNat)
  case atStart => exact ⟨_, _, _, _, _, _, _, rfl, rfl, R0.out⟩
  case round =>
    obtain ⟨p, i, j, P, U, V, S, rfl, rfl, hin⟩ := hrel
    have HI := Lib.hid hin
    have h1 := hin.pu
    have h2 := hin.pv
    have h3 := hin.hm
    have h4 := hin.hn
    have z1 : IntKind.i64.wrap ((m : Int) - (i : Int)) = (p : Int) := by rw [IntKind.wrap_i64]; omega
    by_cases he : i = j
    · subst he
      have hd : ((i : Int) != (i : Int)) = false := by simp
      have HC := Lib.hid (slices_swapRange2 g n c p m i P U [] V S G fv wr hin.lp hin.lu (by simp; omega) (by have := hin.lu; have := hin.lv; omega) (by have := hin.lu; have := hin.lv; have := hin.lp; simp; omega) hn2 (by rw [← hin.hG]; simp) (by simpa using hin.arr))
      clear hin h1 h2 h3 h4
      go_wp2_with fail
      with_reducible (refine Calls.mono HC.out ?_)
      rintro e w4 ⟨rfl, ha4, hu4⟩
      have A4 := Lib.hid ha4
      have U4 := Lib.hid (HI.out.upd.trans hu4 (fun k hk => .inl hk))
      clear ha4 hu4
      go_wp2
      go_returns
      exact ⟨rfl, A4.out, U4.out⟩
    · have hd : ((i : Int) != (j : Int)) = true := by simp; omega
      by_cases hlt : j < i
      · obtain ⟨U1, U2, hnext, hc⟩ := hin.gt hlt hn2 c fv
        have HN := Lib.hid hnext
        have HC := Lib.hid hc
        have hd2 : decide ((j : Int) < (i : Int)) = true := by simp; omega
        have z2 : IntKind.i64.wrap ((i : Int) - (j : Int)) = ((i - j : Nat) : Int) := by rw [IntKind.wrap_i64]; omega
        clear hin hc hnext he h3 h4
        go_wp2_with fail
        with_reducible (refine Calls.mono HC.out ?_)
        rintro e w4 ⟨rfl, ha4, hu4⟩
        have R4 := Lib.hid (HN.out w4 hu4 ha4)
        clear ha4 hu4
        go_wp2
        go_roundw
        case rel => exact ⟨_, _, _, _, _, _, _, by first | rfl | go_num, rfl, R4.out⟩
        case measure => simp [intOf]; omega
      · obtain ⟨V1, V2, hnext, hc⟩ := hin.le (by omega) hn2 c fv
        rw [show ((m + j - i : Nat) : Int) = (m : Int) + (j : Int) - (i : Int) by omega] at hc
        have hj5 : j ≤ 100000 := by omega
        have hi5 : i ≤ 100000 := by omega
        have HN := Lib.hid hnext
        have HC := Lib.hid hc
        have hd2 : decide ((j : Int) < (i : Int)) = false := by simp; omega
        have z2 : IntKind.i64.wrap ((j : Int) - (i : Int)) = ((j - i : Nat) : Int) := by rw [IntKind.wrap_i64]; omega
        clear hin hc hnext he h3 h4
        go_wp2_with fail
        with_reducible (refine Calls.mono HC.out ?_)
        rintro e w4 ⟨rfl, ha4, hu4⟩
        have R4 := Lib.hid (HN.out w4 hu4 ha4)
        clear ha4 hu4
        go_wp2
        go_roundw
        case rel => exact ⟨_, _, _, _, _, _, _, rfl, by first | rfl | go_num, R4.out⟩
        case measure => simp [intOf]; omega
end Go.Proofs.Ytkjmacdekfbfhaa
