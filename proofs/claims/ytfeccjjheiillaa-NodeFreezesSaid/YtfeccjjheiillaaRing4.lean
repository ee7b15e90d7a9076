/- Package ring at api.Advice: All, List: a loop over an iterator. -/
import Derived.Test.YtfeccjjheiillaaRing2
import Derived.RangeFuncNested
import Derived.RangeFuncBound
import Derived.RangeFuncCalls
import Derived.RangeFuncLeaves
import Derived.Shelf.Abstract
import Derived.Shelf.RegionOpen
import Derived.OwnWalkIn
import Derived.TacticsInMore
import Derived.LoopNIn
import Derived.LoopIn
import Derived.Maps.AppendAt
namespace Go.Proofs.Ytfeccjjheiillaa
open Go.RowKit Go.Shelf
set_option linter.unusedSimpArgs false
set_option linter.unusedVariables false
set_option maxHeartbeats 4000000
set_option maxRecDepth 100000
attribute [local go_sem] Oper.semAt_some
theorem RingAt.below {B : Nat} {w w' : World} {g : Nat} {v : Value} {ph : List Adv} {fr room : Nat} (h : RingAt w g v ph fr room) (hb : Below B w w') (hf : ∀ k, foot g v k → k < B) : RingAt w' g v ph fr room :=
  ⟨h.1.below hb (hf g (.inl rfl)), h.2.1.below hb (fun k hk => hf k (.inr hk)), h.2.2⟩
theorem grown_of_below {w w' : World} (h : Below w.heap.size w w') : w.grownBy w' none := ⟨h.os, h.tape, h.output, h.size, fun k hk _ => h.block k hk⟩
/-- What a round keeps: what lay below n₀, and the iterator's own box. -/
def KpR (Bn n₀ : Nat) (A B : World) : Prop := Below n₀ A B ∧ B.heap[Bn]? = A.heap[Bn]?
theorem KpR.trans {Bn n₀ : Nat} {A B C : World} (h : KpR Bn n₀ A B) (h' : KpR Bn n₀ B C) : KpR Bn n₀ A C := ⟨h.1.trans h'.1, h'.2.trans h.2⟩
theorem KpR.put {Bn n₀ : Nat} {w : World} (hB : Bn < w.heap.size) (hn : n₀ ≤ w.heap.size) (W : World) (l : Nat) (o o' : Obj) (hl : w.heap.size ≤ l) (h1 : W.heap[l]? = some o) (h2 : o.isCells = false) (h3 : o.isWalk = false) : KpR Bn n₀ W (W.putObj l o') :=
  ⟨belowK_b (w := w) hn W l o o' hl h1 h2 h3, (belowK_b (w := w) (Nat.le_refl _) W l o o' hl h1 h2 h3).block Bn hB⟩
theorem ring_All1 (n l Bn n₀ g : Nat) (v : Value) (ph : List Adv) (fr room : Nat) (J Jx : List Adv → World → Prop) (hn : 1 ≤ n) (hroom : room ≤ 1000000)
    (hY : ∀ pre x W, J pre W → pre.length < ph.length → YieldAt Fence.wide (n - 1) Try.prog l #[.agg (rowA x)] W fun e W' =>
      (e = .returned (.bool true) ∧ J (pre ++ [x]) W' ∧ KpR Bn n₀ W W') ∨ (e = .returned (.bool false) ∧ Jx (pre ++ [x]) W'))
    (W : World) (hJ : AbidesFrom W.heap.size J) (hBn : Boxed W Bn 134 (.pointer (some ⟨g, 0, none⟩))) (hn₀ : n₀ ≤ W.heap.size) (hR : RingAt W g v ph fr room) (hf : ∀ k, foot g v k → k < n₀) (h0 : J [] W) :
    CallsIn Fence.wide n Try.prog 133 #[.func (.yield l) #[] #[], .pointer (some ⟨Bn, 0, none⟩)] W fun e W' => (∃ v, e = .returned v) ∧
      ((∃ ys, ys = ringq ph fr ∧ J ys W') ∨ (∃ pre, pre <+: ringq ph fr ∧ Jx pre W')) := by
  have HY := Lib.hid hY
  have HB := Lib.hid hBn
  have HR := Lib.hid hR
  have HF := Lib.hid hf
  have HJ := Lib.hid hJ
  have hL := ringq_len ph fr room hR.2.2.2
  have HL := Lib.hid hL
  have c0 := hBn.cell
  have hlen : ph.length ≤ 1000000 := Nat.le_trans hR.2.2.2.1 hroom
  clear hY hBn hR hf hJ hL
  refine callsIn_of_wp Try.func133 rfl trivial ?_ rfl
  simp only [Try.ntmps133, List.size_toArray, List.length_cons, List.length_nil, Nat.reduceAdd, Nat.reduceSub, Array.replicate_succ, Array.replicate_zero, List.push_toArray, List.append_toArray, List.nil_append, List.cons_append]
  gi_wp2_with (refine ⟨trivial, ?_⟩; gi_at_call 121; refine (callsIn_wide.2 (ring_Len g v ph fr room _ HR.out)).mono ?_; rintro e w' ⟨rfl, rfl⟩)
  gi_loopw [8] (fun i wr => ∃ k : Nat, k ≤ ph.length ∧ i = .int .i64 k ∧ J ((ringq ph fr).take k) wr ∧ KpR Bn n₀ W wr) (fun i _ => ph.length - (intOf i).toNat)
  case atStart => exact ⟨0, Nat.zero_le _, rfl, h0, Below.refl _ _, rfl⟩
  case round =>
    obtain ⟨k, hk, rfl, hJs, hnx⟩ := hrel
    have HJs := Lib.hid hJs
    have HN := Lib.hid hnx
    clear hJs
    by_cases hlt : k < ph.length
    · obtain ⟨x, hx⟩ : ∃ x, (ringq ph fr)[k]? = some x := ⟨_, List.getElem?_eq_getElem (by rw [HL.out]; exact hlt)⟩
      have HX := Lib.hid hx
      have b1 : Boxed wr Bn 134 (.pointer (some ⟨g, 0, none⟩)) := hnx.2.trans HB.out
      have c1 := b1.cell
      have hBl := b1.lt
      clear b1
      have HA := Lib.hid (ring_At g v ph fr room k x wr (HR.out.below hnx.1 HF.out) hroom hx)
      have hki : (k : Int) < (ph.length : Int) := by omega
      clear hx hnx
      gi_wp2_with (refine ⟨trivial, ?_⟩; gi_at_call 134; refine (callsIn_wide.2 HA.out).mono ?_; rintro e wx ⟨rfl, hbx⟩; have hB2 : Below wr.heap.size wr (wx.alloc (.cells (rowA x) 66)) := hbx.alloc hbx.size _; have hJ2 := HJ.out _ _ _ none HJs.out (grown_of_below hB2) (fun r e => by cases e); obtain ⟨fn, tmps, assign, body, hy, hR⟩ := HY.out _ x _ hJ2 (by rw [List.length_take, HL.out]; omega); simp only [rowA] at hy; have HB2 := Lib.hid hB2; clear hB2 hJ2 hbx)
      refine hR.mono ?_
      have htk : (ringq ph fr).take k ++ [x] = (ringq ph fr).take (k + 1) := by rw [List.take_add_one, HX.out]; rfl
      rintro e W3 (⟨rfl, hJ3, hk3⟩ | ⟨rfl, hJx3⟩)
      · gi_wp2
        go_roundw
        case rel => exact ⟨k + 1, by omega, by simp, by rw [← htk]; exact hJ3, (HN.out.trans ⟨HB2.out.mono (Nat.le_trans hn₀ HN.out.1.size), HB2.out.block Bn hBl⟩).trans hk3⟩
        case measure => simp [intOf]; omega
      · gi_wp2
        refine bodyPost_ret (results_none rfl _ _ _) rfl ?_
        exact ⟨⟨_, rfl⟩, .inr ⟨_, by rw [htk]; exact List.take_prefix _ _, hJx3⟩⟩
    · have hkl : k = ph.length := by omega
      have hJe := HJs.out
      rw [List.take_of_length_le (by rw [HL.out]; omega)] at hJe
      subst hkl
      gi_wp2
      go_end0
      exact ⟨⟨_, rfl⟩, .inl ⟨_, rfl, hJe⟩⟩
theorem ring_All1_nil (n l Bn : Nat) (hn : 1 ≤ n) (J : List Adv → World → Prop) (W : World) (hBn : Boxed W Bn 134 (.pointer none)) (h0 : J [] W) :
    CallsIn Fence.wide n Try.prog 133 #[.func (.yield l) #[] #[], .pointer (some ⟨Bn, 0, none⟩)] W fun e W' => (∃ v, e = .returned v) ∧ J [] W' := by
  have c0 := hBn.cell
  refine callsIn_of_wp Try.func133 rfl trivial ?_ rfl
  simp only [Try.ntmps133, List.size_toArray, List.length_cons, List.length_nil, Nat.reduceAdd, Nat.reduceSub, Array.replicate_succ, Array.replicate_zero, List.push_toArray, List.append_toArray, List.nil_append, List.cons_append]
  gi_wp2_with (refine ⟨trivial, ?_⟩; gi_at_call 121; refine (callsIn_wide.2 (ring_Len_nil _)).mono ?_; rintro e w' ⟨rfl, rfl⟩)
  gi_loopw [8] (fun i wr => i = .int .i64 0 ∧ J [] wr) (fun _ _ => 0)
  case atStart => exact ⟨rfl, h0⟩
  case round =>
    obtain ⟨rfl, hJs⟩ := hrel
    gi_wp2
    go_end0
    exact ⟨⟨_, rfl⟩, hJs⟩
theorem ring_All (n : Nat) (p : Option Addr) (w : World) :
    CallsIn Fence.wide n Try.prog 130 #[.pointer p] w fun e w' => e = .returned (.func (.func 133) #[] #[.pointer (some ⟨w.heap.size, 0, none⟩)]) ∧ w' = w.alloc (.cells #[.pointer p] 134) := by
  refine callsIn_of_wp Try.func130 rfl trivial ?_ rfl
  simp only [Try.ntmps130, List.size_toArray, List.length_cons, List.length_nil, Nat.reduceAdd, Nat.reduceSub, Array.replicate_succ, Array.replicate_zero, List.push_toArray, List.append_toArray, List.nil_append, List.cons_append]
  gi_wp2
  go_ret
  exact ⟨rfl, rfl⟩
/-- A ring, or none. -/
def RingV (w : World) (p : Option Addr) (B : Nat) (xs : List Adv) : Prop := (p = none ∧ xs = []) ∨ ∃ g v ph fr room, p = some ⟨g, 0, none⟩ ∧ RingAt w g v ph fr room ∧ room ≤ 1000000 ∧ (∀ k, foot g v k → k < B) ∧ xs = ringq ph fr
theorem RingV.below {w w' : World} {p : Option Addr} {B : Nat} {xs : List Adv} (h : RingV w p B xs) (hb : Below B w w') : RingV w' p B xs := by
  rcases h with h | ⟨g, v, ph, fr, room, h1, h2, h3, h4, h5⟩
  · exact .inl h
  · exact .inr ⟨g, v, ph, fr, room, h1, h2.below hb h4, h3, h4, h5⟩
theorem RingV.len {w : World} {p : Option Addr} {B : Nat} {xs : List Adv} (h : RingV w p B xs) : xs.length ≤ 1000000 := by
  rcases h with ⟨-, rfl⟩ | ⟨g, v, ph, fr, room, h1, h2, h3, h4, rfl⟩
  · simp
  · rw [ringq_len ph fr room h2.2.2.2]; exact Nat.le_trans h2.2.2.2.1 h3
theorem ring_stops (n : Nat) (hn : 1 ≤ n) (Bn n₀ : Nat) (p : Option Addr) (xs : List Adv) (w : World) (hn₀ : n₀ ≤ w.heap.size) (hc : Boxed w Bn 134 (.pointer p)) (hR : RingV w p n₀ xs) :
    SeqStopsK Fence.wide n Try.prog 133 #[.pointer (some ⟨Bn, 0, none⟩)] (fun x : Adv => #[Value.agg (rowA x)]) (KpR Bn n₀) (fun ys => ys = xs) (fun pre => pre <+: xs) xs.length w := fun l J Jx W hW hJ _ hY h0 => by
  have hc' : Boxed W Bn 134 (.pointer p) := (hW.block Bn hc.lt).trans hc
  rcases hR.below (hW.mono (by omega)) with ⟨rfl, rfl⟩ | ⟨g, v, ph, fr, room, rfl, h2, h3, h4, rfl⟩
  · exact (ring_All1_nil n l Bn hn J W hc' h0).mono fun e W' ⟨he, hj⟩ => ⟨he, .inl ⟨_, rfl, hj⟩⟩
  · exact ring_All1 n l Bn n₀ g v ph fr room J Jx hn h3 (fun pre x W1 hp hlt => hY pre x W1 hp (by rw [ringq_len ph fr room h2.2.2.2]; exact hlt)) W hJ hc' (by have := hW.size; omega) h2 (fun k hk => by have := h4 k hk; omega) h0
theorem ring_List_in (n : Nat) (hn : 3 ≤ n) (p : Option Addr) (xs : List Adv) (w : World) (hR : RingV w p w.heap.size xs) :
    CallsIn Fence.wide n Try.prog 122 #[.pointer p] w fun e W' => ∃ v, e = .returned v ∧ OwnA W' w.heap.size v xs ∧ Below w.heap.size w W' := by
  have h1 : 1 ≤ n := by omega
  have hlen := hR.len
  obtain ⟨i0, hi, hz0, hz1, hz2⟩ := info_parts info_adv
  refine callsIn_of_wp_marks Try.func122 rfl trivial ?_ rfl
  simp only [Try.ntmps122, List.size_toArray, List.length_cons, List.length_nil, Nat.reduceAdd, Nat.reduceSub, Array.replicate_succ, Array.replicate_zero, List.push_toArray, List.append_toArray, List.nil_append, List.cons_append]
  gi_wp2_with (refine ⟨trivial, ?_⟩; gi_at_call 130; refine (ring_All (n - 1) _ _).mono ?_; rintro e w' ⟨rfl, rfl⟩)
  have bO := (Boxed.new w 60 (.slice none 0 0)).alloc (.cells #[.pointer p] 134)
  have bN := Boxed.new (w.alloc (.cells #[.slice none 0 0] 60)) 134 (.pointer p)
  rw [World.size_alloc] at bN
  have hB0 : Below w.heap.size w ((w.alloc (.cells #[.slice none 0 0] 60)).alloc (.cells #[.pointer p] 134)) := ((Below.refl _ w).alloc (Nat.le_refl _) _).alloc (by simp) _
  have hsz : ((w.alloc (.cells #[.slice none 0 0] 60)).alloc (.cells #[.pointer p] 134)).heap.size = w.heap.size + 2 := by simp
  obtain ⟨W0, hW0⟩ : ∃ W0, (w.alloc (.cells #[.slice none 0 0] 60)).alloc (.cells #[.pointer p] 134) = W0 := ⟨_, rfl⟩
  rw [hW0] at bN bO hB0 hsz ⊢
  clear hW0
  refine wpIn_rangeFunc_ownH rfl h1 (gf := 133) (lb := #[.pointer (some ⟨w.heap.size + 1, 0, none⟩)]) rfl trivial (enters_of Try.func133 (by kernel_rfl) rfl)
    (ring_stops (n - 1) (by omega) (w.heap.size + 1) w.heap.size p xs W0 (by omega) bN (hR.below hB0)) KpR.trans (KpR.put (w := W0) (by omega) (by omega)) (Below.refl _ _) (fun _ => rfl)
    (fun pre W => ((∃ v, Boxed W w.heap.size 60 v ∧ W.ownsRow w.heap.size 66 5 v pre.length (pre.flatMap Adv.cells) ∧ True) ∧ Boxed W (w.heap.size + 1) 134 (.pointer p)) ∧ Below w.heap.size w W)
    (fun _ _ _ => False)
    (OwnFrom.and (OwnFrom.and (Own.from (holdsRow_own w.heap.size w.heap.size 60 66 5 (fun pre : List Adv => pre.length) (fun pre : List Adv => pre.flatMap Adv.cells) (fun _ _ => True)) _) (Own.from (boxed_own _ _ _) _)) (ownFrom_below (Nat.le_refl _) (by omega)))
    (fun _ _ _ _ _ hs _ _ => hs)
    ⟨⟨⟨_, bO, World.ownsRow_nil _ _ _ _, trivial⟩, bN⟩, hB0⟩
    (fun x a' W => ∃ Bx, w.heap.size + 1 < Bx ∧ Blk W Bx 66 (rowA x) ∧ a' = { tmps := #[.pointer p, undef, .slice none 0 0, .pointer (some ⟨w.heap.size, 0, none⟩), .pointer (some ⟨Bx, 0, none⟩), .pointer p, .func (.func 133) #[] #[.pointer (some ⟨w.heap.size + 1, 0, none⟩)], .agg (rowA x), undef, undef, undef, undef, undef], defers := [] })
    (fun x a' _ X Y row hs hg hr => by
      obtain ⟨Bx, h1, h2, h3⟩ := hs
      refine ⟨Bx, h1, h2.grown hg (fun e => ?_), h3⟩
      obtain ⟨o, ho, hc⟩ := (hr Bx e.symm).2
      rw [show X.heap[Bx]? = _ from h2] at ho
      cases ho; cases hc)
    ?assign ?body ?done ?stop
  case assign =>
    rintro l pre x W K ⟨⟨⟨v, hv, hrow, -⟩, bN1⟩, hB⟩ hK
    gi_wp2
    exact hK _ _ ((KeepsOthers.alloc _ _).from _) ⟨(Below.refl _ W).alloc hB.size _, Below.heap_alloc W _ _ bN1.lt⟩ ⟨⟨⟨v, hv.alloc _, hrow.alloc _, trivial⟩, bN1.alloc _⟩, hB.alloc hB.size _⟩ ⟨W.heap.size, bN1.lt, Blk.new W _ _, rfl⟩
  case body =>
    rintro l pre x a' W hl ⟨r, hr⟩ ⟨⟨⟨v, hv, hrow, -⟩, bN1⟩, hB⟩ ⟨Bx, hBx, bX, rfl⟩ hlt
    have hc := hv.cell
    have x0 := bX.cellv (i := 0) rfl
    have x1 := bX.cellv (i := 1) rfl
    have x2 := bX.cellv (i := 2) rfl
    have x3 := bX.cellv (i := 3) rfl
    have x4 := bX.cellv (i := 4) rfl
    gi_wp2_with (gi_at_builtin; refine wpListIn_append_own _ rfl _ _ 60 rfl w.heap.size 66 i0 (.agg zA) 5 40 Try.underlying60 hi hz0 hz1 hz2 rfl (by decide) _ _ _ rfl (hrow.alloc _) ⟨W.heap.size, 0, none⟩ 1 1 x.cells rfl rfl (blk_news (α := Adv) (vs := x.cells) (Blk.new _ _ _) rfl) (adv_one x) (by unfold maxLen; omega) (by omega) (by have := hB.size; simp; omega) ?_; intro v' w1 hown' hgrow _; obtain ⟨g', cap', rfl⟩ := ownsRow_succ hown'; obtain ⟨hv1, hv2, hr2, hk2, hb2⟩ := hv.appended (by decide) hrow hB.size (Nat.le_refl _) hown' hgrow; have hn1 : Boxed w1 (w.heap.size + 1) 134 (.pointer p) := (bN1.alloc _).kept hgrow (bN1.not_row (by decide) hrow); have hn2 := hn1.other (B' := w.heap.size) (by omega) (Value.slice (some ⟨g', 0, none⟩) (pre.length + 1) cap'); have hc1 := hv1.cell; have hf1 := hv1.frozen)
    exact ⟨hk2.from _, ⟨hb2, hn2.trans bN1.symm⟩, ⟨⟨⟨_, hv2, by simpa using hr2, trivial⟩, hn2⟩, hB.trans hb2⟩⟩
  case done =>
    rintro D ys W hD rfl ⟨⟨⟨v, hv, hrow, -⟩, bN1⟩, hB⟩ hK
    have hc := hv.cell
    gi_wp2
    refine ⟨by simp, .inl ⟨_, _, rfl, run_takeDeferred hK, ?_⟩⟩
    exact ⟨_, results_tmp rfl _ _ _, v, rfl, ownsRow_putObj hrow _ hK rfl, hB.trans (belowK_b (w := w) (Nat.le_refl _) W D _ _ (by omega) hK rfl rfl)⟩
  case stop =>
    rintro D c pre W _ _ h _
    exact h.elim
theorem ring_List (p : Option Addr) (xs : List Adv) (w : World) (hR : RingV w p w.heap.size xs) :
    Calls Try.prog 122 #[.pointer p] w fun e W' => ∃ v, e = .returned v ∧ OwnA W' w.heap.size v xs ∧ Below w.heap.size w W' :=
  callsIn_wide.1 (ring_List_in 3 (Nat.le_refl _) p xs w hR)
end Go.Proofs.Ytfeccjjheiillaa
