/- Several texts in one. -/
import Derived.RangeFuncNested
import Derived.RangeFuncBound
import Derived.RangeFuncCalls
import Derived.RangeFuncLeaves
import Derived.Shelf.Abstract
import Derived.Shelf.RegionOpen
import Derived.OwnWalkIn
import Derived.TacticsInMore
import Derived.LoopNIn
import Derived.LoopIn
import Derived.Maps.AppendAt
import Derived.Test.YtjodpffdlggjgaaKeep
import Derived.Test.YtjodpffdlggjgaaCat
import Derived.Test.YtjodpffdlggjgaaRegT
import Derived.Test.YtjodpffdlggjgaaKDecideFollows4
/- Package ring at api.Advice: All, List: a loop over an iterator. -/
namespace Go.Proofs.Ytjodpffdlggjgaa
open Go.RowKit Go.Shelf
set_option linter.unusedSimpArgs false
set_option linter.unusedVariables false
set_option maxHeartbeats 4000000
set_option maxRecDepth 100000
attribute [local go_sem] Oper.semAt_some
theorem RingAt.below {B : Nat} {w w' : World} {g : Nat} {v : Value} {ph : List Adv} {fr room : Nat} (h : RingAt w g v ph fr room) (hb : Below B w w') (hf : ∀ k, foot g v k → k < B) : RingAt w' g v ph fr room :=
  ⟨h.1.below hb (hf g (.inl rfl)), h.2.1.below hb (fun k hk => hf k (.inr hk)), h.2.2⟩
theorem grown_of_below {w w' : World} (h : Below w.heap.size w w') : w.grownBy w' none := ⟨h.os, h.tape, h.output, h.size, fun k hk _ => h.block k hk⟩
/-- What a round keeps: what lay below n₀, and the iterator's own box. -/
def KpR (Bn n₀ : Nat) (A B : World) : Prop := Below n₀ A B ∧ B.heap[Bn]? = A.heap[Bn]?
theorem KpR.trans {Bn n₀ : Nat} {A B C : World} (h : KpR Bn n₀ A B) (h' : KpR Bn n₀ B C) : KpR Bn n₀ A C := ⟨h.1.trans h'.1, h'.2.trans h.2⟩
theorem KpR.put {Bn n₀ : Nat} {w : World} (hB : Bn < w.heap.size) (hn : n₀ ≤ w.heap.size) (W : World) (l : Nat) (o o' : Obj) (hl : w.heap.size ≤ l) (h1 : W.heap[l]? = some o) (h2 : o.isCells = false) (h3 : o.isWalk = false) : KpR Bn n₀ W (W.putObj l o') :=
  ⟨belowK_b (w := w) hn W l o o' hl h1 h2 h3, (belowK_b (w := w) (Nat.le_refl _) W l o o' hl h1 h2 h3).block Bn hB⟩
theorem ring_All1 (n l Bn n₀ g : Nat) (v : Value) (ph : List Adv) (fr room : Nat) (J Jx : List Adv → World → Prop) (hn : 1 ≤ n) (hroom : room ≤ 1000000)
    (hY : ∀ pre x W, J pre W → pre.length < ph.length → YieldAt Fence.wide (n - 1) Try.prog l #[.agg (rowA x)] W fun e W' =>
      (e = .returned (.bool true) ∧ J (pre ++ [x]) W' ∧ KpR Bn n₀ W W') ∨ (e = .returned (.bool false) ∧ Jx (pre ++ [x]) W'))
    (W : World) (hJ : AbidesFrom W.heap.size J) (hBn : Boxed W Bn 124 (.pointer (some ⟨g, 0, none⟩))) (hn₀ : n₀ ≤ W.heap.size) (hR : RingAt W g v ph fr room) (hf : ∀ k, foot g v k → k < n₀) (h0 : J [] W) :
    CallsIn Fence.wide n Try.prog 130 #[.func (.yield l) #[] #[], .pointer (some ⟨Bn, 0, none⟩)] W fun e W' => (∃ v, e = .returned v) ∧
      ((∃ ys, ys = ringq ph fr ∧ J ys W') ∨ (∃ pre, pre <+: ringq ph fr ∧ Jx pre W')) := by
  have HY := Lib.hid hY
  have HB := Lib.hid hBn
  have HR := Lib.hid hR
  have HF := Lib.hid hf
  have HJ := Lib.hid hJ
  have hL := ringq_len ph fr room hR.2.2.2
  have HL := Lib.hid hL
  have c0 := hBn.cell
  have hlen : ph.length ≤ 1000000 := Nat.le_trans hR.2.2.2.1 hroom
  clear hY hBn hR hf hJ hL
  refine callsIn_of_wp Try.func130 rfl trivial ?_ rfl
  simp only [Try.ntmps130, List.size_toArray, List.length_cons, List.length_nil, Nat.reduceAdd, Nat.reduceSub, Array.replicate_succ, Array.replicate_zero, List.push_toArray, List.append_toArray, List.nil_append, List.cons_append]
  gi_wp2_with (refine ⟨trivial, ?_⟩; gi_at_call 92; refine (callsIn_wide.2 (ring_Len g v ph fr room _ HR.out)).mono ?_; rintro e w' ⟨rfl, rfl⟩)
  gi_loopw [8] (fun i wr => ∃ k : Nat, k ≤ ph.length ∧ i = .int .i64 k ∧ J ((ringq ph fr).take k) wr ∧ KpR Bn n₀ W wr) (fun i _ => ph.length - (intOf i).toNat)
  case atStart => exact ⟨0, Nat.zero_le _, rfl, h0, Below.refl _ _, rfl⟩
  case round =>
    obtain ⟨k, hk, rfl, hJs, hnx⟩ := hrel
    have HJs := Lib.hid hJs
    have HN := Lib.hid hnx
    clear hJs
    by_cases hlt : k < ph.length
    · obtain ⟨x, hx⟩ : ∃ x, (ringq ph fr)[k]? = some x := ⟨_, List.getElem?_eq_getElem (by rw [HL.out]; exact hlt)⟩
      have HX := Lib.hid hx
      have b1 : Boxed wr Bn 124 (.pointer (some ⟨g, 0, none⟩)) := hnx.2.trans HB.out
      have c1 := b1.cell
      have hBl := b1.lt
      clear b1
      have HA := Lib.hid (ring_At g v ph fr room k x wr (HR.out.below hnx.1 HF.out) hroom hx)
      have hki : (k : Int) < (ph.length : Int) := by omega
      clear hx hnx
      gi_wp2_with (refine ⟨trivial, ?_⟩; gi_at_call 131; refine (callsIn_wide.2 HA.out).mono ?_; rintro e wx ⟨rfl, hbx⟩; have hB2 : Below wr.heap.size wr (wx.alloc (.cells (rowA x) 26)) := hbx.alloc hbx.size _; have hJ2 := HJ.out _ _ _ none HJs.out (grown_of_below hB2) (fun r e => by cases e); obtain ⟨fn, tmps, assign, body, hy, hR⟩ := HY.out _ x _ hJ2 (by rw [List.length_take, HL.out]; omega); simp only [rowA] at hy; have HB2 := Lib.hid hB2; clear hB2 hJ2 hbx)
      refine hR.mono ?_
      have htk : (ringq ph fr).take k ++ [x] = (ringq ph fr).take (k + 1) := by rw [List.take_add_one, HX.out]; rfl
      rintro e W3 (⟨rfl, hJ3, hk3⟩ | ⟨rfl, hJx3⟩)
      · gi_wp2
        go_roundw
        case rel => exact ⟨k + 1, by omega, by simp, by rw [← htk]; exact hJ3, (HN.out.trans ⟨HB2.out.mono (Nat.le_trans hn₀ HN.out.1.size), HB2.out.block Bn hBl⟩).trans hk3⟩
        case measure => simp [intOf]; omega
      · gi_wp2
        refine bodyPost_ret (results_none rfl _ _ _) rfl ?_
        exact ⟨⟨_, rfl⟩, .inr ⟨_, by rw [htk]; exact List.take_prefix _ _, hJx3⟩⟩
    · have hkl : k = ph.length := by omega
      have hJe := HJs.out
      rw [List.take_of_length_le (by rw [HL.out]; omega)] at hJe
      subst hkl
      gi_wp2
      go_end0
      exact ⟨⟨_, rfl⟩, .inl ⟨_, rfl, hJe⟩⟩
theorem ring_All1_nil (n l Bn : Nat) (hn : 1 ≤ n) (J : List Adv → World → Prop) (W : World) (hBn : Boxed W Bn 124 (.pointer none)) (h0 : J [] W) :
    CallsIn Fence.wide n Try.prog 130 #[.func (.yield l) #[] #[], .pointer (some ⟨Bn, 0, none⟩)] W fun e W' => (∃ v, e = .returned v) ∧ J [] W' := by
  have c0 := hBn.cell
  refine callsIn_of_wp Try.func130 rfl trivial ?_ rfl
  simp only [Try.ntmps130, List.size_toArray, List.length_cons, List.length_nil, Nat.reduceAdd, Nat.reduceSub, Array.replicate_succ, Array.replicate_zero, List.push_toArray, List.append_toArray, List.nil_append, List.cons_append]
  gi_wp2_with (refine ⟨trivial, ?_⟩; gi_at_call 92; refine (callsIn_wide.2 (ring_Len_nil _)).mono ?_; rintro e w' ⟨rfl, rfl⟩)
  gi_loopw [8] (fun i wr => i = .int .i64 0 ∧ J [] wr) (fun _ _ => 0)
  case atStart => exact ⟨rfl, h0⟩
  case round =>
    obtain ⟨rfl, hJs⟩ := hrel
    gi_wp2
    go_end0
    exact ⟨⟨_, rfl⟩, hJs⟩
theorem ring_All (n : Nat) (p : Option Addr) (w : World) :
    CallsIn Fence.wide n Try.prog 115 #[.pointer p] w fun e w' => e = .returned (.func (.func 130) #[] #[.pointer (some ⟨w.heap.size, 0, none⟩)]) ∧ w' = w.alloc (.cells #[.pointer p] 124) := by
  refine callsIn_of_wp Try.func115 rfl trivial ?_ rfl
  simp only [Try.ntmps115, List.size_toArray, List.length_cons, List.length_nil, Nat.reduceAdd, Nat.reduceSub, Array.replicate_succ, Array.replicate_zero, List.push_toArray, List.append_toArray, List.nil_append, List.cons_append]
  gi_wp2
  go_ret
  exact ⟨rfl, rfl⟩
/-- A ring, or none. -/
def RingV (w : World) (p : Option Addr) (B : Nat) (xs : List Adv) : Prop := (p = none ∧ xs = []) ∨ ∃ g v ph fr room, p = some ⟨g, 0, none⟩ ∧ RingAt w g v ph fr room ∧ room ≤ 1000000 ∧ (∀ k, foot g v k → k < B) ∧ xs = ringq ph fr
theorem RingV.below {w w' : World} {p : Option Addr} {B : Nat} {xs : List Adv} (h : RingV w p B xs) (hb : Below B w w') : RingV w' p B xs := by
  rcases h with h | ⟨g, v, ph, fr, room, h1, h2, h3, h4, h5⟩
  · exact .inl h
  · exact .inr ⟨g, v, ph, fr, room, h1, h2.below hb h4, h3, h4, h5⟩
theorem RingV.len {w : World} {p : Option Addr} {B : Nat} {xs : List Adv} (h : RingV w p B xs) : xs.length ≤ 1000000 := by
  rcases h with ⟨-, rfl⟩ | ⟨g, v, ph, fr, room, h1, h2, h3, h4, rfl⟩
  · simp
  · rw [ringq_len ph fr room h2.2.2.2]; exact Nat.le_trans h2.2.2.2.1 h3
theorem ring_stops (n : Nat) (hn : 1 ≤ n) (Bn n₀ : Nat) (p : Option Addr) (xs : List Adv) (w : World) (hn₀ : n₀ ≤ w.heap.size) (hc : Boxed w Bn 124 (.pointer p)) (hR : RingV w p n₀ xs) :
    SeqStopsK Fence.wide n Try.prog 130 #[.pointer (some ⟨Bn, 0, none⟩)] (fun x : Adv => #[Value.agg (rowA x)]) (KpR Bn n₀) (fun ys => ys = xs) (fun pre => pre <+: xs) xs.length w := fun l J Jx W hW hJ _ hY h0 => by
  have hc' : Boxed W Bn 124 (.pointer p) := (hW.block Bn hc.lt).trans hc
  rcases hR.below (hW.mono (by omega)) with ⟨rfl, rfl⟩ | ⟨g, v, ph, fr, room, rfl, h2, h3, h4, rfl⟩
  · exact (ring_All1_nil n l Bn hn J W hc' h0).mono fun e W' ⟨he, hj⟩ => ⟨he, .inl ⟨_, rfl, hj⟩⟩
  · exact ring_All1 n l Bn n₀ g v ph fr room J Jx hn h3 (fun pre x W1 hp hlt => hY pre x W1 hp (by rw [ringq_len ph fr room h2.2.2.2]; exact hlt)) W hJ hc' (by have := hW.size; omega) h2 (fun k hk => by have := h4 k hk; omega) h0
theorem ring_List_in (n : Nat) (hn : 3 ≤ n) (p : Option Addr) (xs : List Adv) (w : World) (hR : RingV w p w.heap.size xs) :
    CallsIn Fence.wide n Try.prog 90 #[.pointer p] w fun e W' => ∃ v, e = .returned v ∧ OwnA W' w.heap.size v xs ∧ Below w.heap.size w W' := by
  have h1 : 1 ≤ n := by omega
  have hlen := hR.len
  obtain ⟨i0, hi, hz0, hz1, hz2⟩ := info_parts info_adv
  refine callsIn_of_wp_marks Try.func90 rfl trivial ?_ rfl
  simp only [Try.ntmps90, List.size_toArray, List.length_cons, List.length_nil, Nat.reduceAdd, Nat.reduceSub, Array.replicate_succ, Array.replicate_zero, List.push_toArray, List.append_toArray, List.nil_append, List.cons_append]
  gi_wp2_with (refine ⟨trivial, ?_⟩; gi_at_call 115; refine (ring_All (n - 1) _ _).mono ?_; rintro e w' ⟨rfl, rfl⟩)
  have bO := (Boxed.new w 24 (.slice none 0 0)).alloc (.cells #[.pointer p] 124)
  have bN := Boxed.new (w.alloc (.cells #[.slice none 0 0] 24)) 124 (.pointer p)
  rw [World.size_alloc] at bN
  have hB0 : Below w.heap.size w ((w.alloc (.cells #[.slice none 0 0] 24)).alloc (.cells #[.pointer p] 124)) := ((Below.refl _ w).alloc (Nat.le_refl _) _).alloc (by simp) _
  have hsz : ((w.alloc (.cells #[.slice none 0 0] 24)).alloc (.cells #[.pointer p] 124)).heap.size = w.heap.size + 2 := by simp
  obtain ⟨W0, hW0⟩ : ∃ W0, (w.alloc (.cells #[.slice none 0 0] 24)).alloc (.cells #[.pointer p] 124) = W0 := ⟨_, rfl⟩
  rw [hW0] at bN bO hB0 hsz ⊢
  clear hW0
  refine wpIn_rangeFunc_ownH rfl h1 (gf := 130) (lb := #[.pointer (some ⟨w.heap.size + 1, 0, none⟩)]) rfl trivial (enters_of Try.func130 (by kernel_rfl) rfl)
    (ring_stops (n - 1) (by omega) (w.heap.size + 1) w.heap.size p xs W0 (by omega) bN (hR.below hB0)) KpR.trans (KpR.put (w := W0) (by omega) (by omega)) (Below.refl _ _) (fun _ => rfl)
    (fun pre W => ((∃ v, Boxed W w.heap.size 24 v ∧ W.ownsRow w.heap.size 26 5 v pre.length (pre.flatMap Adv.cells) ∧ True) ∧ Boxed W (w.heap.size + 1) 124 (.pointer p)) ∧ Below w.heap.size w W)
    (fun _ _ _ => False)
    (OwnFrom.and (OwnFrom.and (Own.from (holdsRow_own w.heap.size w.heap.size 24 26 5 (fun pre : List Adv => pre.length) (fun pre : List Adv => pre.flatMap Adv.cells) (fun _ _ => True)) _) (Own.from (boxed_own _ _ _) _)) (ownFrom_below (Nat.le_refl _) (by omega)))
    (fun _ _ _ _ _ hs _ _ => hs)
    ⟨⟨⟨_, bO, World.ownsRow_nil _ _ _ _, trivial⟩, bN⟩, hB0⟩
    (fun x a' W => ∃ Bx, w.heap.size + 1 < Bx ∧ Blk W Bx 26 (rowA x) ∧ a' = { tmps := #[.pointer p, undef, .slice none 0 0, .pointer (some ⟨w.heap.size, 0, none⟩), .pointer (some ⟨Bx, 0, none⟩), .pointer p, .func (.func 130) #[] #[.pointer (some ⟨w.heap.size + 1, 0, none⟩)], .agg (rowA x), undef, undef, undef, undef, undef], defers := [] })
    (fun x a' _ X Y row hs hg hr => by
      obtain ⟨Bx, h1, h2, h3⟩ := hs
      refine ⟨Bx, h1, h2.grown hg (fun e => ?_), h3⟩
      obtain ⟨o, ho, hc⟩ := (hr Bx e.symm).2
      rw [show X.heap[Bx]? = _ from h2] at ho
      cases ho; cases hc)
    ?assign ?body ?done ?stop
  case assign =>
    rintro l pre x W K ⟨⟨⟨v, hv, hrow, -⟩, bN1⟩, hB⟩ hK
    gi_wp2
    exact hK _ _ ((KeepsOthers.alloc _ _).from _) ⟨(Below.refl _ W).alloc hB.size _, Below.heap_alloc W _ _ bN1.lt⟩ ⟨⟨⟨v, hv.alloc _, hrow.alloc _, trivial⟩, bN1.alloc _⟩, hB.alloc hB.size _⟩ ⟨W.heap.size, bN1.lt, Blk.new W _ _, rfl⟩
  case body =>
    rintro l pre x a' W hl ⟨r, hr⟩ ⟨⟨⟨v, hv, hrow, -⟩, bN1⟩, hB⟩ ⟨Bx, hBx, bX, rfl⟩ hlt
    have hc := hv.cell
    have x0 := bX.cellv (i := 0) rfl
    have x1 := bX.cellv (i := 1) rfl
    have x2 := bX.cellv (i := 2) rfl
    have x3 := bX.cellv (i := 3) rfl
    have x4 := bX.cellv (i := 4) rfl
    gi_wp2_with (gi_at_builtin; refine wpListIn_append_own _ rfl _ _ 24 rfl w.heap.size 26 i0 (.agg zA) 5 40 Try.underlying24 hi hz0 hz1 hz2 rfl (by decide) _ _ _ rfl (hrow.alloc _) ⟨W.heap.size, 0, none⟩ 1 1 x.cells rfl rfl (blk_news (α := Adv) (vs := x.cells) (Blk.new _ _ _) rfl) (adv_one x) (by unfold maxLen; omega) (by omega) (by have := hB.size; simp; omega) ?_; intro v' w1 hown' hgrow _; obtain ⟨g', cap', rfl⟩ := ownsRow_succ hown'; obtain ⟨hv1, hv2, hr2, hk2, hb2⟩ := hv.appended (by decide) hrow hB.size (Nat.le_refl _) hown' hgrow; have hn1 : Boxed w1 (w.heap.size + 1) 124 (.pointer p) := (bN1.alloc _).kept hgrow (bN1.not_row (by decide) hrow); have hn2 := hn1.other (B' := w.heap.size) (by omega) (Value.slice (some ⟨g', 0, none⟩) (pre.length + 1) cap'); have hc1 := hv1.cell; have hf1 := hv1.frozen)
    exact ⟨hk2.from _, ⟨hb2, hn2.trans bN1.symm⟩, ⟨⟨⟨_, hv2, by simpa using hr2, trivial⟩, hn2⟩, hB.trans hb2⟩⟩
  case done =>
    rintro D ys W hD rfl ⟨⟨⟨v, hv, hrow, -⟩, bN1⟩, hB⟩ hK
    have hc := hv.cell
    gi_wp2
    refine ⟨by simp, .inl ⟨_, _, rfl, run_takeDeferred hK, ?_⟩⟩
    exact ⟨_, results_tmp rfl _ _ _, v, rfl, ownsRow_putObj hrow _ hK rfl, hB.trans (belowK_b (w := w) (Nat.le_refl _) W D _ _ (by omega) hK rfl rfl)⟩
  case stop =>
    rintro D c pre W _ _ h _
    exact h.elim
theorem ring_List (p : Option Addr) (xs : List Adv) (w : World) (hR : RingV w p w.heap.size xs) :
    Calls Try.prog 90 #[.pointer p] w fun e W' => ∃ v, e = .returned v ∧ OwnA W' w.heap.size v xs ∧ Below w.heap.size w W' :=
  callsIn_wide.1 (ring_List_in 3 (Nat.le_refl _) p xs w hR)
end Go.Proofs.Ytjodpffdlggjgaa
/- Package history: New, kept, List, Add. -/
namespace Go.Proofs.Ytjodpffdlggjgaa
open Go.RowKit
set_option linter.unusedSimpArgs false
set_option linter.unusedVariables false
set_option maxHeartbeats 4000000
set_option maxRecDepth 100000
/-- What the last decisions are behind one more; none where there is no room that may be. -/
def hush (l : List Adv) (room : Int) (x : Adv) : List Adv := if 1 ≤ room ∧ room ≤ 64 then pushq l room.toNat x else []
/-- The ring of a history. -/
def RingOf (w : World) (q p : Option Addr) (F : Nat → Prop) (xs : List Adv) (room : Int) : Prop :=
  (p = none ∧ q = none ∧ xs = [] ∧ (room < 1 ∨ 64 < room)) ∨ ∃ (h g : Nat) (v : Value) (ph : List Adv) (fr rm : Nat), q = some ⟨g, 0, none⟩ ∧ p = some ⟨h, 0, none⟩ ∧ room = rm ∧ 1 ≤ rm ∧ rm ≤ 64 ∧ Blk w h 127 #[.pointer (some ⟨g, 0, none⟩)] ∧ RingAt w g v ph fr rm ∧ F h ∧ h ≠ g ∧ v.ownBlock ≠ some h ∧ (∀ k, foot g v k → F k) ∧ xs = ringq ph fr
/-- p is a history (or none), in the blocks F. -/
def HistAt (w : World) (p : Option Addr) (F : Nat → Prop) (xs : List Adv) (room : Int) : Prop :=
  ((p = none ∧ xs = [] ∧ (room < 1 ∨ 64 < room)) ∨ ∃ (h g : Nat) (v : Value) (ph : List Adv) (fr rm : Nat), p = some ⟨h, 0, none⟩ ∧ room = rm ∧ 1 ≤ rm ∧ rm ≤ 64 ∧ Blk w h 127 #[.pointer (some ⟨g, 0, none⟩)] ∧ RingAt w g v ph fr rm ∧ F h ∧ h ≠ g ∧ v.ownBlock ≠ some h ∧ (∀ k, foot g v k → F k) ∧ xs = ringq ph fr) ∧ ∀ k, F k → k < w.heap.size
theorem HistAt.upd {S F : Nat → Prop} {w w' : World} {p : Option Addr} {xs : List Adv} {room : Int} (h : HistAt w p F xs room) (hu : Upd S w w') (hn : ∀ k, F k → ¬ S k) : HistAt w' p F xs room := by
  refine ⟨?_, fun k hk => Nat.lt_of_lt_of_le (h.2 k hk) hu.size⟩
  rcases h.1 with h | ⟨h, g, v, ph, fr, rm, e1, e2, e3, e4, e5, e6, e7, e8, e9, e10, e11⟩
  · exact .inl h
  · exact .inr ⟨h, g, v, ph, fr, rm, e1, e2, e3, e4, e5.upd hu (hn _ e7), e6.upd hu (fun k hk => hn k (e10 k hk)), e7, e8, e9, e10, e11⟩
theorem HistAt.call {F : Nat → Prop} {w w' : World} {p : Option Addr} {xs : List Adv} {room : Int} (h : HistAt w p F xs room) (hb : Below w.heap.size w w') : HistAt w' p F xs room :=
  h.upd (S := fun _ => False) (Upd.of_below hb) (fun _ _ hk => hk)
theorem HistAt.len {F : Nat → Prop} {w : World} {p : Option Addr} {xs : List Adv} {room : Int} (h : HistAt w p F xs room) : xs.length ≤ 64 := by
  rcases h.1 with ⟨-, rfl, -⟩ | ⟨h, g, v, ph, fr, rm, e1, e2, e3, e4, e5, e6, e7, e8, e9, e10, rfl⟩
  · simp
  · rw [ringq_len ph fr rm e6.2.2.2]; exact Nat.le_trans e6.2.2.2.1 e4
def NewH (w : World) (room : Int) (e : Ending) (w' : World) : Prop := ∃ p F, e = .returned (.pointer p) ∧ HistAt w' p F [] room ∧ (∀ k, F k → w.heap.size ≤ k) ∧ Below w.heap.size w w'
theorem history_New (room : Int) (w : World) (h0 : I64 room) :
    Calls Try.prog 59 #[.int .i64 room] w (NewH w room) := by
  by_cases hr : room < 1 ∨ 64 < room
  · have hd : (decide (room < 1) = true) ∨ (decide (room < 1) = false ∧ decide (64 < room) = true) := by
      rcases hr with h | h
      · exact .inl (by simp; omega)
      · by_cases h2 : room < 1
        · exact .inl (by simp; omega)
        · exact .inr ⟨by simp; omega, by simp; omega⟩
    have HR := Lib.hid hr
    clear hr
    rcases hd with d1 | ⟨d1, d2⟩
    · go_enter Try.func59, Try.ntmps59
      go_wp2
      go_ret
      exact ⟨none, fun _ => False, rfl, ⟨.inl ⟨rfl, rfl, HR.out⟩, fun _ hk => hk.elim⟩, fun _ hk => hk.elim, by go_grown⟩
    · go_enter Try.func59, Try.ntmps59
      go_wp2
      go_ret
      exact ⟨none, fun _ => False, rfl, ⟨.inl ⟨rfl, rfl, HR.out⟩, fun _ hk => hk.elim⟩, fun _ hk => hk.elim, by go_grown⟩
  · obtain ⟨rm, rfl⟩ : ∃ rm : Nat, room = rm := ⟨room.toNat, by omega⟩
    have d1 : decide ((rm : Int) < 1) = false := by simp; omega
    have d2 : decide ((64 : Int) < (rm : Int)) = false := by simp; omega
    have d1' : ¬ rm < 1 := by omega
    have d2' : ¬ 64 < rm := by omega
    have HC := Lib.hid (fun w => ring_New rm w (by omega) (by omega))
    have HN := Lib.hid (fun w => RingAt.new w rm (by omega))
    clear hr
    go_enter Try.func59, Try.ntmps59
    go_wp2_with (go_at_call 88; refine (HC.out _).mono ?_; rintro e w1 ⟨rfl, rfl⟩)
    go_ret
    have hB := Blk.new (w.alloc (.cells #[.slice none 0 0, .int .i64 0, .int .i64 rm] 154)) 127 #[.pointer (some ⟨w.heap.size, 0, none⟩)]
    rw [World.size_alloc] at hB
    refine ⟨_, fun k => k = w.heap.size ∨ k = w.heap.size + 1, rfl, ⟨.inr ⟨w.heap.size + 1, w.heap.size, .slice none 0 0, [], 0, rm, rfl, rfl, by omega, by omega, hB, (HN.out w).call (by go_grown), .inr rfl, by omega, by simp [Value.ownBlock], ?_, rfl⟩, ?_⟩, ?_, by go_grown⟩
    · rintro k (rfl | hk)
      · exact .inl rfl
      · simp [Value.ownBlock] at hk
    · rintro k (rfl | rfl) <;> (simp; try omega)
    · rintro k (rfl | rfl) <;> omega
theorem history_kept (p : Option Addr) (F : Nat → Prop) (xs : List Adv) (room : Int) (w : World) (h : HistAt w p F xs room) :
    Calls Try.prog 89 #[.pointer p] w fun e w' => ∃ q, e = .returned (.pointer q) ∧ w = w' ∧ RingOf w q p F xs room := by
  rcases h.1 with ⟨rfl, e2⟩ | ⟨hh, g, v, ph, fr, rm, rfl, e2, e3, e4, e5, rest⟩
  · have HE := Lib.hid e2
    clear e2 h
    go_enter Try.func89, Try.ntmps89
    go_wp2
    go_ret
    exact ⟨none, rfl, rfl, .inl ⟨rfl, rfl, HE.out⟩⟩
  · have c0 := e5.cellv (i := 0) rfl
    have HE := Lib.hid (show RingOf w (some ⟨g, 0, none⟩) (some ⟨hh, 0, none⟩) F xs room from .inr ⟨hh, g, v, ph, fr, rm, rfl, rfl, e2, e3, e4, e5, rest⟩)
    clear e2 e3 e4 e5 rest
    go_enter Try.func89, Try.ntmps89
    go_wp2
    go_ret
    exact ⟨_, rfl, rfl, HE.out⟩
theorem RingOf.ringV {w : World} {q p : Option Addr} {F : Nat → Prop} {xs : List Adv} {room : Int} (h : RingOf w q p F xs room) : RingV w q w.heap.size xs := by
  rcases h with ⟨-, rfl, rfl, -⟩ | ⟨h, g, v, ph, fr, rm, rfl, -, -, e3, e4, e5, e6, e7, e8, e9, e10, rfl⟩
  · exact .inl ⟨rfl, rfl⟩
  · exact .inr ⟨g, v, ph, fr, rm, rfl, e6, by omega, e6.lt, rfl⟩
theorem history_List (p : Option Addr) (F : Nat → Prop) (xs : List Adv) (room : Int) (w : World) (h : HistAt w p F xs room) :
    Calls Try.prog 60 #[.pointer p] w fun e w' => ∃ v, e = .returned v ∧ OwnA w' w.heap.size v xs ∧ Below w.heap.size w w' := by
  have HH := Lib.hid h
  clear h
  go_enter Try.func60, Try.ntmps60
  go_wp2_with (first | (go_at_call 89; refine (history_kept p F xs room _ HH.out).mono ?_; rintro e w1 ⟨q, rfl, rfl, hq⟩; have HQ := Lib.hid hq.ringV; clear hq) | (go_at_call 90; refine (ring_List q xs _ HQ.out).mono ?_; rintro e w2 ⟨v, rfl, hv⟩; have HV := Lib.hid hv; clear hv))
  go_ret
  exact ⟨v, rfl, HV.out⟩
/-- Behind a push. -/
def PushPost (q p : Option Addr) (F : Nat → Prop) (xs : List Adv) (room : Int) (x : Adv) (w : World) (e : Ending) (w' : World) : Prop := ∃ y b F' q2, e = .returned (.tuple #[.agg y, .bool b]) ∧ RingOf w' q2 p F' (hush xs room x) room ∧ q2 = q ∧ (∀ k, F' k → k < w'.heap.size) ∧ Upd F w w' ∧ ∀ k, F' k → F k ∨ w.heap.size ≤ k
theorem ring_Push (q p : Option Addr) (F : Nat → Prop) (xs : List Adv) (room : Int) (x : Adv) (w : World) (hq : RingOf w q p F xs room) (hF : ∀ k, F k → k < w.heap.size) :
    Calls Try.prog 91 #[.pointer q, .agg (rowA x)] w (PushPost q p F xs room x w) := by
  rcases hq with ⟨rfl, rfl, rfl, hr⟩ | ⟨h, g, v, ph, fr, rm, rfl, rfl, rfl, e3, e4, e5, e6, e7, e8, e9, e10, rfl⟩
  · refine (ring_Push_nil x w).mono ?_
    rintro e w' ⟨rfl, hb⟩
    refine ⟨_, _, F, none, rfl, .inl ⟨rfl, rfl, ?_, hr⟩, rfl, fun k hk => Nat.lt_of_lt_of_le (hF k hk) hb.size, Upd.of_below hb, fun k hk => .inl hk⟩
    unfold hush; rw [if_neg (by omega)]
  · have key : ∀ ph' fr' e w', RingPost g v ph' fr' rm w e w' → ringq ph' fr' = pushq (ringq ph fr) rm x → PushPost (some ⟨g, 0, none⟩) (some ⟨h, 0, none⟩) F (ringq ph fr) rm x w e w' := by
      rintro ph' fr' e w' ⟨v', y, b, rfl, p1, p2, p3⟩ hpq
      have hnf : ¬ foot g v h := by
        rintro (rfl | hk)
        · exact e8 rfl
        · exact e9 hk
      have hn2 : ¬ foot g v' h := fun hf => by
        rcases p3 h hf with h1 | h1
        · exact hnf h1
        · have := e5.lt; omega
      refine ⟨y, b, fun k => F k ∨ foot g v' k, _, rfl, .inr ⟨h, g, v', ph', fr', rm, rfl, rfl, rfl, e3, e4, e5.upd p2 hnf, p1, .inl e7, e8, fun hk => hn2 (.inr hk), fun k hk => .inr hk, ?_⟩, rfl, ?_, p2.mono e10, ?_⟩
      · unfold hush; rw [if_pos (by omega), hpq]; simp
      · rintro k (hk | hk)
        · exact Nat.lt_of_lt_of_le (hF k hk) p2.size
        · exact p1.lt k hk
      · rintro k (hk | hk)
        · exact .inl hk
        · exact (p3 k hk).imp (e10 k) id
    by_cases hl : ph.length < rm
    · exact (ring_Push_room g v ph fr rm x w e6 (by omega) hl).mono fun e w' hp => key _ _ e w' hp (ring_room e6.2.2.2 hl x).2
    · have hl2 : ph.length = rm := by have := e6.2.2.2.1; omega
      exact (ring_Push_full g v ph fr rm x w e6 (by omega) hl2).mono fun e w' hp => key _ _ e w' hp (ring_full e6.2.2.2 hl2 x).2
def AddPost (p : Option Addr) (F : Nat → Prop) (xs : List Adv) (room : Int) (x : Adv) (w : World) (e : Ending) (w' : World) : Prop := ∃ F', e = .returned (.bool (decide (1 ≤ room ∧ room ≤ 64))) ∧ HistAt w' p F' (hush xs room x) room ∧ Upd F w w' ∧ ∀ k, F' k → F k ∨ w.heap.size ≤ k
theorem RingOf.hist {w : World} {q p : Option Addr} {F : Nat → Prop} {xs : List Adv} {room : Int} (h : RingOf w q p F xs room) (hF : ∀ k, F k → k < w.heap.size) : HistAt w p F xs room := by
  refine ⟨?_, hF⟩
  rcases h with ⟨h1, -, h2⟩ | ⟨h, g, v, ph, fr, rm, -, rest⟩
  · exact .inl ⟨h1, h2⟩
  · exact .inr ⟨h, g, v, ph, fr, rm, rest⟩
theorem RingOf.upd {S F : Nat → Prop} {w w' : World} {q p : Option Addr} {xs : List Adv} {room : Int} (h : RingOf w q p F xs room) (hu : Upd S w w') (hn : ∀ k, F k → ¬ S k) : RingOf w' q p F xs room := by
  rcases h with h | ⟨h, g, v, ph, fr, rm, e0, e1, e2, e3, e4, e5, e6, e7, e8, e9, e10, e11⟩
  · exact .inl h
  · exact .inr ⟨h, g, v, ph, fr, rm, e0, e1, e2, e3, e4, e5.upd hu (hn _ e7), e6.upd hu (fun k hk => hn k (e10 k hk)), e7, e8, e9, e10, e11⟩
/-- How many a ring has: some, behind a push, just where there is room. -/
theorem ring_Len_of (q p : Option Addr) (F : Nat → Prop) (xs : List Adv) (room : Int) (w : World) (hq : RingOf w q p F xs room) :
    Calls Try.prog 92 #[.pointer q] w fun e w' => e = .returned (.int .i64 xs.length) ∧ w = w' := by
  rcases hq with ⟨rfl, rfl, rfl, hr⟩ | ⟨h, g, v, ph, fr, rm, rfl, rfl, rfl, e3, e4, e5, e6, e7, e8, e9, e10, rfl⟩
  · exact ring_Len_nil w
  · rw [ringq_len ph fr rm e6.2.2.2]; exact ring_Len g v ph fr rm w e6
theorem hush_some {w : World} {q p : Option Addr} {F : Nat → Prop} {xs : List Adv} {room : Int} (h : RingOf w q p F xs room) (x : Adv) : decide (0 < (hush xs room x).length) = decide (1 ≤ room ∧ room ≤ 64) := by
  unfold hush
  split
  · rename_i hr
    obtain ⟨rm, rfl⟩ : ∃ rm : Nat, room = rm := ⟨room.toNat, by omega⟩
    have hl : xs.length ≤ rm := by
      rcases h with ⟨-, -, rfl, h⟩ | ⟨h, g, v, ph, fr, rm', -, -, e2, e3, e4, e5, e6, e7, e8, e9, e10, rfl⟩
      · simp
      · rw [ringq_len ph fr rm' e6.2.2.2]; have := e6.2.2.2.1; omega
    have h1 := (push_len (x := x) hl (by omega)).2
    rw [Int.toNat_natCast, decide_eq_true (show 0 < (pushq xs rm x).length by omega), decide_eq_true hr]
  · rename_i hr
    rw [decide_eq_false hr]
    rfl
theorem history_Add (p : Option Addr) (F : Nat → Prop) (xs : List Adv) (room : Int) (x : Adv) (w : World) (h : HistAt w p F xs room) :
    Calls Try.prog 61 #[.pointer p, .agg (rowA x)] w (AddPost p F xs room x w) := by
  have HH := Lib.hid (h.call (show Below w.heap.size w (w.alloc (.cells (rowA x) 26)) by go_grown))
  have HF := Lib.hid h.2
  clear h
  go_enter Try.func61, Try.ntmps61
  go_wp2_with (first | (go_at_call 89; refine (history_kept p F xs room _ HH.out).mono ?_; rintro e w1 ⟨q, rfl, rfl, hq⟩; have HQ := Lib.hid hq; clear hq) | (go_at_call 91; refine (ring_Push q p F xs room x _ HQ.out HH.out.2).mono ?_; rintro e w2 ⟨y, b, F', q2, rfl, hp1, rfl, hp2⟩; have P1 := Lib.hid hp1; have P2 := Lib.hid hp2; clear hp1 hp2) | (go_at_call 92; refine (ring_Len_of _ p F' _ room _ P1.out).mono ?_; rintro e w3 ⟨rfl, rfl⟩))
  go_ret
  refine ⟨F', ?_, P1.out.hist P2.out.1, ?_, ?_⟩
  · rw [hush_some HQ.out x]
    rfl
  · exact (Upd.of_below (by go_grown)).trans P2.out.2.1 (fun k hk => .inl hk)
  · exact fun k hk => (P2.out.2.2 k hk).imp id (fun h => by simp at h; omega)
end Go.Proofs.Ytjodpffdlggjgaa
/- Decisions made sample by sample: what they are; what the call keeps. -/
namespace Go.Proofs.Ytjodpffdlggjgaa
open Go.RowKit
set_option linter.unusedSimpArgs false
set_option linter.unusedVariables false
structure Fst where
  smps : List Smp
  past : List Adv
  out : List Adv
def fstep (p : Pol) (sm rm : Int) (st : Fst) (x : Smp) : Fst :=
  if errr sm x = 0 then
    if ofe p (putr st.smps sm x) = 0 then ⟨putr st.smps sm x, hush st.past rm (ofq p (putr st.smps sm x) st.past), if 1 ≤ rm ∧ rm ≤ 64 then st.out ++ [ofq p (putr st.smps sm x) st.past] else st.out⟩
    else ⟨putr st.smps sm x, st.past, st.out⟩
  else st
def folq (p : Pol) (sm rm : Int) (l : List Smp) : Fst := l.foldl (fstep p sm rm) ⟨[], [], []⟩
theorem folq_next (p : Pol) (sm rm : Int) {l : List Smp} {k : Nat} {x : Smp} (h : l[k]? = some x) : folq p sm rm (l.take (k + 1)) = fstep p sm rm (folq p sm rm (l.take k)) x := by
  unfold folq; rw [take_snoc2 h, List.foldl_append]; rfl
theorem fstep_no {p : Pol} {sm rm : Int} {st : Fst} {x : Smp} (h : errr sm x ≠ 0) : fstep p sm rm st x = st := if_neg h
theorem putr_no {l : List Smp} {sm : Int} {x : Smp} (h : errr sm x ≠ 0) : putr l sm x = l := by
  unfold putr
  split
  · rename_i hg
    unfold errr at h
    unfold putv
    split
    · rename_i h0
      rw [if_pos h0, if_pos hg] at h
      exact absurd rfl h
    · rfl
  · rfl
theorem len_putr (l : List Smp) (sm : Int) (x : Smp) : (putr l sm x).length ≤ l.length + 1 := by
  unfold putr putv putq
  split
  · split
    · split
      · rw [List.length_drop]; have := len_putL l x; omega
      · exact len_putL l x
    · omega
  · omega
theorem good_putr {l : List Smp} (h : ∀ y ∈ l, y.good) {x : Smp} (hx : x.good) (sm : Int) : ∀ y ∈ putr l sm x, y.good := by
  unfold putr
  split
  · exact good_putv h hx _
  · exact h
theorem fstep_smps (p : Pol) (sm rm : Int) (st : Fst) (x : Smp) : (fstep p sm rm st x).smps = putr st.smps sm x := by
  unfold fstep
  split
  · split <;> rfl
  · rename_i h; exact (putr_no h).symm
/-- What holds of all states along the way. -/
theorem folq_all (P : Nat → Fst → Prop) (p : Pol) (sm rm : Int) (l : List Smp) (h0 : P 0 ⟨[], [], []⟩) (hs : ∀ n st x, x ∈ l → P n st → P (n + 1) (fstep p sm rm st x)) : ∀ k, k ≤ l.length → P k (folq p sm rm (l.take k)) := by
  intro k
  induction k with
  | zero => intro _; exact h0
  | succ k ih =>
    intro hk
    have hx : l[k]? = some l[k] := List.getElem?_eq_getElem (by omega)
    rw [folq_next p sm rm hx]
    exact hs k _ _ (List.getElem_mem _) (ih (by omega))
theorem folq_len (p : Pol) (sm rm : Int) (l : List Smp) (k : Nat) (hk : k ≤ l.length) : (folq p sm rm (l.take k)).smps.length ≤ k ∧ (folq p sm rm (l.take k)).out.length ≤ k := by
  refine folq_all (fun n st => st.smps.length ≤ n ∧ st.out.length ≤ n) p sm rm l ⟨Nat.le_refl _, Nat.le_refl _⟩ (fun n st x _ h => ⟨?_, ?_⟩) k hk
  · rw [fstep_smps]; have := len_putr st.smps sm x; omega
  · unfold fstep
    split
    · split
      · dsimp only
        split
        · rw [List.length_append]; simp; omega
        · omega
      · dsimp only; omega
    · omega
theorem folq_good (p : Pol) (sm rm : Int) (l : List Smp) (hg : ∀ x ∈ l, x.good) (k : Nat) (hk : k ≤ l.length) : ∀ x ∈ (folq p sm rm (l.take k)).smps, x.good :=
  folq_all (fun n st => ∀ x ∈ st.smps, x.good) p sm rm l (fun x hx => by cases hx) (fun n st x hx h => by rw [fstep_smps]; exact good_putr h (hg x hx) sm) k hk
theorem folq_bad (p : Pol) (sm rm : Int) (l : List Smp) (hb : ¬ goodS sm ∨ ¬ (1 ≤ rm ∧ rm ≤ 64)) : (folq p sm rm l).out = [] := by
  have h := folq_all (fun n st => st.out = []) p sm rm l rfl (fun n st x _ h => by
    unfold fstep
    split
    · rename_i he
      split
      · dsimp only
        rw [if_neg]
        · exact h
        · rcases hb with hb | hb
          · unfold errr at he; rw [if_neg hb] at he
            split at he
            · cases he
            · rename_i h1; exact absurd he h1
          · exact hb
      · exact h
    · exact h) l.length (Nat.le_refl _)
  rwa [List.take_length] at h
/-- A series, a history and a list of the call's own, each by itself. -/
def FolIn (w1 wr : World) (ps ph : Option Addr) (v : Value) (st : Fst) (sm rm : Int) : Prop :=
  ∃ FS FH, SerV wr ps FS st.smps sm ∧ HistAt wr ph FH st.past rm ∧ OwnA wr w1.heap.size v st.out ∧ (∀ k, FS k → w1.heap.size ≤ k ∧ ¬ FH k ∧ v.ownBlock ≠ some k) ∧ (∀ k, FH k → w1.heap.size ≤ k ∧ v.ownBlock ≠ some k) ∧ Below w1.heap.size w1 wr ∧ w1.heap.size ≤ wr.heap.size
theorem FolIn.call {w1 wr w' : World} {ps ph : Option Addr} {v : Value} {st : Fst} {sm rm : Int} (h : FolIn w1 wr ps ph v st sm rm) (hb : Below wr.heap.size wr w') : FolIn w1 w' ps ph v st sm rm := by
  obtain ⟨FS, FH, h1, h2, h3, h4, h5, h6, h7⟩ := h
  exact ⟨FS, FH, h1.call hb, h2.call hb, h3.call hb, h4, h5, h6.trans (hb.mono h7), Nat.le_trans h7 hb.size⟩
theorem FolIn.ser {w1 wr : World} {ps ph : Option Addr} {v : Value} {st : Fst} {sm rm : Int} (h : FolIn w1 wr ps ph v st sm rm) : ∃ F, SerV wr ps F st.smps sm ∧ ∀ x e w', PutV ps F st.smps sm x wr e w' → e = .returned (.int .i64 (errr sm x)) ∧ FolIn w1 w' ps ph v ⟨putr st.smps sm x, st.past, st.out⟩ sm rm := by
  obtain ⟨FS, FH, h1, h2, h3, h4, h5, h6, h7⟩ := h
  refine ⟨FS, h1, ?_⟩
  rintro x e w' ⟨F', rfl, k1, k2, k3⟩
  have hlt := World.ownsRow.lt h3
  refine ⟨rfl, F', FH, k1, h2.upd k2 (fun k hk hs => (h4 k hs).2.1 hk), h3.upd k2 (fun k hk hs => (h4 k hs).2.2 hk), ?_, h5, h6.trans (k2.below (fun k hk => (h4 k hk).1) h7), Nat.le_trans h7 k2.size⟩
  intro k hk
  rcases k3 k hk with hk | hk
  · exact h4 k hk
  · exact ⟨Nat.le_trans h7 hk, fun hf => by have := h2.2 k hf; omega, fun hv => by have := (hlt k hv).2; omega⟩
theorem FolIn.hist {w1 wr : World} {ps ph : Option Addr} {v : Value} {st : Fst} {sm rm : Int} (h : FolIn w1 wr ps ph v st sm rm) : ∃ F, HistAt wr ph F st.past rm ∧ ∀ x e w', AddPost ph F st.past rm x wr e w' → e = .returned (.bool (decide (1 ≤ rm ∧ rm ≤ 64))) ∧ FolIn w1 w' ps ph v ⟨st.smps, hush st.past rm x, st.out⟩ sm rm := by
  obtain ⟨FS, FH, h1, h2, h3, h4, h5, h6, h7⟩ := h
  refine ⟨FH, h2, ?_⟩
  rintro x e w' ⟨F', rfl, k1, k2, k3⟩
  have hlt := World.ownsRow.lt h3
  refine ⟨rfl, FS, F', h1.upd k2 (fun k hk hs => (h4 k hk).2.1 hs), k1, h3.upd k2 (fun k hk hs => (h5 k hs).2 hk), ?_, ?_, h6.trans (k2.below (fun k hk => (h5 k hk).1) h7), Nat.le_trans h7 k2.size⟩
  · intro k hk
    refine ⟨(h4 k hk).1, fun hf => ?_, (h4 k hk).2.2⟩
    rcases k3 k hf with hf | hf
    · exact (h4 k hk).2.1 hf
    · have := h1.2 k hk; omega
  · intro k hk
    rcases k3 k hk with hk | hk
    · exact h5 k hk
    · exact ⟨Nat.le_trans h7 hk, fun hv => by have := (hlt k hv).2; omega⟩
theorem FolIn.hist2 {w1 wr : World} {ps ph : Option Addr} {v : Value} {st : Fst} {sm rm : Int} (h : FolIn w1 wr ps ph v st sm rm) : ∃ F, (∀ k, F k → k < wr.heap.size) ∧ ∀ wS, Below wr.heap.size wr wS → HistAt wS ph F st.past rm ∧ ∀ x e w', AddPost ph F st.past rm x wS e w' → e = .returned (.bool (decide (1 ≤ rm ∧ rm ≤ 64))) ∧ FolIn w1 w' ps ph v ⟨st.smps, hush st.past rm x, st.out⟩ sm rm ∧ Upd F wS w' := by
  obtain ⟨FS, FH, h1, h2, h3, h4, h5, h6, h7⟩ := h
  refine ⟨FH, h2.2, fun wS hb => ⟨h2.call hb, ?_⟩⟩
  rintro x e w' ⟨F', rfl, k1, k2, k3⟩
  have h3' := h3.call hb
  have h1' := h1.call hb
  have h7' := Nat.le_trans h7 hb.size
  have hlt := World.ownsRow.lt h3'
  refine ⟨rfl, ⟨FS, F', h1'.upd k2 (fun k hk hs => (h4 k hk).2.1 hs), k1, h3'.upd k2 (fun k hk hs => (h5 k hs).2 hk), ?_, ?_, (h6.trans (hb.mono h7)).trans (k2.below (fun k hk => (h5 k hk).1) h7'), Nat.le_trans h7' k2.size⟩, k2⟩
  · intro k hk
    refine ⟨(h4 k hk).1, fun hf => ?_, (h4 k hk).2.2⟩
    rcases k3 k hf with hf | hf
    · exact (h4 k hk).2.1 hf
    · have := h1'.2 k hk; omega
  · intro k hk
    rcases k3 k hk with hk | hk
    · exact h5 k hk
    · exact ⟨Nat.le_trans h7' hk, fun hv => by have := (hlt k hv).2; omega⟩
theorem FolIn.ser2 {w1 wr : World} {ps ph : Option Addr} {v : Value} {st : Fst} {sm rm : Int} (h : FolIn w1 wr ps ph v st sm rm) : ∃ FS FH, SerV wr ps FS st.smps sm ∧ HistAt wr ph FH st.past rm := by
  obtain ⟨FS, FH, h1, h2, h3, h4, h5, h6, h7⟩ := h; exact ⟨FS, FH, h1, h2⟩
theorem fstep_ok {p : Pol} {sm rm : Int} {st : Fst} {x : Smp} (h : errr sm x = 0) (h2 : ofe p (putr st.smps sm x) = 0) (h3 : 1 ≤ rm ∧ rm ≤ 64) : fstep p sm rm st x = ⟨putr st.smps sm x, hush st.past rm (ofq p (putr st.smps sm x) st.past), st.out ++ [ofq p (putr st.smps sm x) st.past]⟩ := by
  unfold fstep; rw [if_pos h, if_pos h2, if_pos h3]
theorem fstep_full {p : Pol} {sm rm : Int} {st : Fst} {x : Smp} (h : errr sm x = 0) (h2 : ofe p (putr st.smps sm x) = 0) (h3 : ¬ (1 ≤ rm ∧ rm ≤ 64)) : fstep p sm rm st x = ⟨putr st.smps sm x, hush st.past rm (ofq p (putr st.smps sm x) st.past), st.out⟩ := by
  unfold fstep; rw [if_pos h, if_pos h2, if_neg h3]
theorem fstep_skip {p : Pol} {sm rm : Int} {st : Fst} {x : Smp} (h : errr sm x = 0) (h2 : ofe p (putr st.smps sm x) ≠ 0) : fstep p sm rm st x = ⟨putr st.smps sm x, st.past, st.out⟩ := by
  unfold fstep; rw [if_pos h, if_neg h2]
theorem FolIn.push {w1 wr w' : World} {ps ph : Option Addr} {v v' : Value} {st : Fst} {sm rm : Int} {a : Adv} (h : FolIn w1 wr ps ph v st sm rm) (ho : OwnA w' w1.heap.size v' (st.out ++ [a])) (hu : Upd (fun k => v.ownBlock = some k) wr w') (hw : v'.ownBlock = v.ownBlock ∨ v'.ownBlock = some wr.heap.size) : FolIn w1 w' ps ph v' ⟨st.smps, st.past, st.out ++ [a]⟩ sm rm := by
  obtain ⟨FS, FH, h1, h2, h3, h4, h5, h6, h7⟩ := h
  have hlt := World.ownsRow.lt h3
  refine ⟨FS, FH, h1.upd hu (fun k hk hs => (h4 k hk).2.2 hs), h2.upd hu (fun k hk hs => (h5 k hk).2 hs), ho, fun k hk => ⟨(h4 k hk).1, (h4 k hk).2.1, fun e => ?_⟩, fun k hk => ⟨(h5 k hk).1, fun e => ?_⟩, h6.trans (hu.below (fun k hk => (hlt k hk).1) h7), Nat.le_trans h7 hu.size⟩
  · rcases hw with hw | hw
    · exact (h4 k hk).2.2 (hw.symm.trans e)
    · rw [hw] at e; injection e with e; have := h1.2 k hk; omega
  · rcases hw with hw | hw
    · exact (h5 k hk).2 (hw.symm.trans e)
    · rw [hw] at e; injection e with e; have := h2.2 k hk; omega
theorem FolIn.own {w1 wr : World} {ps ph : Option Addr} {v : Value} {st : Fst} {sm rm : Int} (h : FolIn w1 wr ps ph v st sm rm) : OwnA wr w1.heap.size v st.out := by
  obtain ⟨FS, FH, h1, h2, h3, h4, h5, h6, h7⟩ := h; exact h3
theorem FolIn.bel {w1 wr : World} {ps ph : Option Addr} {v : Value} {st : Fst} {sm rm : Int} (h : FolIn w1 wr ps ph v st sm rm) : Below w1.heap.size w1 wr := by
  obtain ⟨FS, FH, h1, h2, h3, h4, h5, h6, h7⟩ := h; exact h6
theorem FolIn.size {w1 wr : World} {ps ph : Option Addr} {v : Value} {st : Fst} {sm rm : Int} (h : FolIn w1 wr ps ph v st sm rm) : w1.heap.size ≤ wr.heap.size := by
  obtain ⟨FS, FH, h1, h2, h3, h4, h5, h6, h7⟩ := h; exact h7
theorem FolIn.start {w1 v1 v2 : World} {ps ph : Option Addr} {sm rm : Int} {FS FH : Nat → Prop} (h1 : SerV v1 ps FS [] sm) (h2 : ∀ k, FS k → w1.heap.size ≤ k) (h3 : Below w1.heap.size w1 v1) (h4 : HistAt v2 ph FH [] rm) (h5 : ∀ k, FH k → v1.heap.size ≤ k) (h6 : Below v1.heap.size v1 v2) : FolIn w1 v2 ps ph (.slice none 0 0) ⟨[], [], []⟩ sm rm :=
  ⟨FS, FH, h1.call h6, h4, Own.nil _ _ _ _ _, fun k hk => ⟨h2 k hk, fun hf => by have := h5 k hf; have := h1.2 k hk; omega, by simp [Value.ownBlock]⟩, fun k hk => ⟨Nat.le_trans h3.size (h5 k hk), by simp [Value.ownBlock]⟩, h3.trans (h6.mono h3.size), Nat.le_trans h3.size h6.size⟩
end Go.Proofs.Ytjodpffdlggjgaa
/- flywheelref14.Put: the last decisions behind one more. -/
namespace Go.Proofs.Ytjodpffdlggjgaa
open Go.RowKit
set_option linter.unusedSimpArgs false
set_option linter.unusedVariables false
set_option maxHeartbeats 4000000
set_option maxRecDepth 100000
def PutA (w : World) (l : List Adv) (e : Ending) (w' : World) : Prop := ∃ A n c, e = .returned (.slice A n c) ∧ AdvsAre w' A n c l ∧ Below w.heap.size w w' ∧ (∀ a, A = some a → w.heap.size ≤ a.block ∧ a.block < w'.heap.size)
theorem ownA_is {w : World} {base : Nat} {A : Option Addr} {n c : Nat} {l : List Adv} (h : OwnA w base (.slice A n c) l) : AdvsAre w A n c l := by
  obtain ⟨A', n', c', he, _, hs⟩ := h.shape adv_len
  cases he; exact hs
theorem slice_tailA {w : World} {base h n c : Nat} {y : Adv} {l : List Adv} (ho : OwnA w base (.slice (some ⟨h, 0, none⟩) n c) (y :: l)) : (c = 1 → l = []) ∧ (c ≠ 1 → AdvsAre w (some ⟨h, 5, none⟩) (n - 1) (c - 1) l) ∧ (l = [] → AdvsAre w (some ⟨h, 0, none⟩) (n - 1) (c - 1) l) := by
  have hs := ownA_is ho
  have hl := hs.1
  have hnc := hs.2.1
  simp only [List.length_cons] at hl
  refine ⟨fun hc => List.eq_nil_of_length_eq_zero (by omega), fun hc => ⟨by omega, by omega, by have := hs.2.2.1; omega, (fun h => by cases h), fun a ha => ?_⟩, fun hl0 => ⟨by rw [hl0]; simp; rw [hl0] at hl; simp at hl; omega, by omega, by have := hs.2.2.1; omega, (fun h => by cases h), fun a ha => ?_⟩⟩
  · cases ha
    obtain ⟨h1, h2⟩ := hs.2.2.2.2 _ rfl
    refine ⟨fun i x hi j v hj => ?_, fun _ => h2 (by omega)⟩
    have := h1 (i + 1) x (by simpa using hi) j v hj
    rw [Addr.add_lit] at this ⊢
    rw [show 5 + (i * 5 + j) = 0 + ((i + 1) * 5 + j) by omega]
    exact this
  · cases ha
    obtain ⟨h1, h2⟩ := hs.2.2.2.2 _ rfl
    refine ⟨fun i x hi => by rw [hl0] at hi; simp at hi, fun hn => h2 (by omega)⟩
theorem Own.someA {α : Type} {w : World} {base e size : Nat} {cells : α → List Value} {v : Value} {l : List α} (h : Own w base e size cells v l) (hsz : ∀ x, (cells x).length = size) (hl : 0 < l.length) : ∃ g n c, v = .slice (some ⟨g, 0, none⟩) n c ∧ n = l.length := by
  rcases h.2 with ⟨rfl, hn⟩ | ⟨g, cap, cur, rfl, _⟩
  · omega
  · exact ⟨g, _, cap, rfl, rfl⟩
theorem ref14_Put (A : Option Addr) (len cap : Nat) (l : List Adv) (room : Nat) (x : Adv) (w : World) (hs : AdvsAre w A len cap l) (hn : len ≤ 10000) (hroom : room ≤ 1000000) :
    Calls Try.prog 62 #[.slice A len cap, .int .i64 room, .agg (rowA x)] w (PutA w (pushq l room x)) := by
  have hL : l.length = len := hs.1
  have HL := Lib.hid hL
  have HN := Lib.hid hn
  have B0 := Lib.hid (show Below w.heap.size w ((w.alloc (.cells (rowA x) 26)).alloc (.cells #[] 26)) by go_grown)
  have HS := Lib.hid (slice_keep hs B0.out)
  have HX := Lib.hid ((Blk.new w 26 (rowA x)).alloc (.cells #[] 26))
  have HO := Lib.hid (show OwnA ((w.alloc (.cells (rowA x) 26)).alloc (.cells #[] 26)) (w.alloc (.cells (rowA x) 26)).heap.size (.slice (some ⟨(w.alloc (.cells (rowA x) 26)).heap.size, 0, none⟩) 0 0) [] from World.ownsRow_made (w.alloc (.cells (rowA x) 26)) #[] 0 (Nat.le_refl _) (Nat.zero_le _) rfl)
  simp only [World.size_alloc] at HO
  have HQ := Lib.hid (show pushq l room x = if room < (l ++ [x]).length then (l ++ [x]).drop 1 else l ++ [x] from rfl)
  generalize pushq l room x = Q at *
  clear hs hL hn
  go_enter Try.func62, Try.ntmps62
  go_upto_region 3 with (first
    | (at_builtin; refine wpList_cat _ rfl (.tmp 8) (.tmp 9) 24 rfl (w.heap.size + 1) 26 _ 5 40 Adv.cells Try.underlying24 info_adv (by rfl) (by decide) (fun _ => rfl) adv_one (.slice (some ⟨w.heap.size + 1, 0, none⟩) 0 0) [] rfl HO.out A len cap l rfl HS.out (by have := HN.out; simp; omega) (by decide) (by simp) ?_; intro v1 w1 ho1 hb1 hg1; have H1 := Lib.hid ho1; have X1 := Lib.hid (HX.out.below hb1 (Nat.lt_succ_self _)); have E1 := Lib.hid (B0.out.trans (hb1.mono (Nat.le_succ _))); have Z1 := Lib.hid hb1.size; obtain ⟨A1, n1, c1, rfl, -, -⟩ := ho1.shape adv_len; have x0 := X1.out.cellv (i := 0) rfl; have x1 := X1.out.cellv (i := 1) rfl; have x2 := X1.out.cellv (i := 2) rfl; have x3 := X1.out.cellv (i := 3) rfl; have x4 := X1.out.cellv (i := 4) rfl; clear ho1 hb1 hg1)
    | (at_builtin; refine wpList_push _ rfl (.tmp 11) (.tmp 13) 24 rfl (w.heap.size + 1) 26 _ 5 40 Adv.cells Try.underlying24 info_adv (by rfl) (by decide) (fun _ => rfl) adv_one (.slice A1 n1 c1) ([] ++ l) rfl (Own.alloc H1.out _) ⟨w1.heap.size, 0, none⟩ 1 x rfl (blk_news (α := Adv) (vs := x.cells) (Blk.new _ _ _) rfl) (by have := HL.out; have := HN.out; simp; omega) (by decide) (by have := Z1.out; simp at *; omega) ?_; intro v2 w2 ho2 hb2 hg2; have H2 := Lib.hid ho2; have E2 := Lib.hid ((E1.out.alloc (Nat.le_trans B0.out.size Z1.out) _).trans (hb2.mono (Nat.le_succ _))); obtain ⟨h2, n2, c2, rfl, hn2⟩ := Own.someA ho2 adv_len (by simp); have HN2 := Lib.hid hn2; have HF := Lib.hid (show w.heap.size ≤ h2 ∧ h2 < _ from ⟨Nat.le_of_lt (World.ownsRow.lt ho2 h2 rfl).1, (World.ownsRow.lt ho2 h2 rfl).2⟩); clear ho2 hb2 hg2 hn2 x0 x1 x2 x3 x4))
  have hc2 := (ownA_is H2.out).2.1
  have hc3 : c2 ≤ 9223372036854775807 := by have := (ownA_is H2.out).2.2.1; unfold maxLen at this; omega
  have hl2 : n2 = (l ++ [x]).length := HN2.out
  have hn4 : 1 ≤ n2 := by rw [hl2]; simp
  have hn5 : n2 ≤ 20000 := by rw [hl2]; have := HL.out; have := HN.out; simp; omega
  obtain ⟨y, T, hyT⟩ : ∃ y T, l ++ [x] = y :: T := by cases l with | nil => exact ⟨_, _, rfl⟩ | cons a b => exact ⟨_, _, rfl⟩
  have H3 := Lib.hid (show OwnA w2 (w.heap.size + 1) (.slice (some ⟨h2, 0, none⟩) n2 c2) (y :: T) from hyT ▸ H2.out)
  have HT := Lib.hid hyT
  have HN3 := Lib.hid hl2
  clear hl2 hyT
  by_cases hr : room < n2
  · have H4 := Lib.hid (show Q = T by rw [HQ.out, ← HN3.out, if_pos hr, HT.out]; rfl)
    by_cases hc : c2 = 1
    · subst hc
      go_wp2
      go_ret
      refine ⟨_, _, _, rfl, ?_, E2.out, fun a ha => by cases ha; exact HF.out⟩
      have E5 := (slice_tailA H3.out).1 rfl
      have h0 : n2 - 1 = 0 := by omega
      have E6 := (slice_tailA H3.out).2.2 E5
      rw [h0] at E6
      rw [H4.out]
      exact E6
    · go_wp2
      go_ret
      refine ⟨_, _, _, rfl, ?_, E2.out, fun a ha => by cases ha; exact HF.out⟩
      rw [H4.out]
      exact (slice_tailA H3.out).2.1 hc
  · have H4 := Lib.hid (show Q = y :: T by rw [HQ.out, ← HN3.out, if_neg hr, HT.out])
    go_wp2
    go_ret
    refine ⟨_, _, _, rfl, ?_, E2.out, fun a ha => by cases ha; exact HF.out⟩
    rw [H4.out]
    exact ownA_is H3.out
end Go.Proofs.Ytjodpffdlggjgaa
/- decide.Follow: the walk. (fast region) -/
namespace Go.Proofs.Ytjodpffdlggjgaa
open Go.RowKit
set_option linter.unusedSimpArgs false
set_option linter.unusedVariables false
set_option maxHeartbeats 8000000
set_option maxRecDepth 100000
theorem smp_eta (x : Smp) : x = ⟨x.tick, x.value⟩ := rfl
def FolPost (p : Pol) (sm rm : Int) (l : List Smp) (w : World) (e : Ending) (w' : World) : Prop := ∃ A n c, e = .returned (.slice A n c) ∧ OwnA w' w.heap.size (.slice A n c) (folq p sm rm l).out ∧ Below w.heap.size w w'
theorem decide_Follow (p : Pol) (A : Option Addr) (len cap : Nat) (l : List Smp) (sm rm : Int) (w : World) (hp : p.fit) (hs : SmpsAre w A len cap l) (hg : ∀ x ∈ l, x.good) (hn : len ≤ 200) (hrm : I64 rm) :
    Calls Try.prog 32 #[(.agg #[.int .i64 p.min, .int .i64 p.max, .int .i64 p.target, .int .i64 p.tol, .int .i64 p.window, .int .i64 p.hold]), .slice A len cap, .int .i64 sm, .int .i64 rm] w (FolPost p sm rm l w) := by
  have HS := Lib.hid hs
  have HL := Lib.hid hs.1
  have HG := Lib.hid hg
  have HP := Lib.hid hp
  have HR := Lib.hid hrm
  have HN := Lib.hid (fun (k : Nat) (x : Smp) (h : l[k]? = some x) => folq_next p sm rm h)
  have HQ := Lib.hid (fun k hk => folq_len p sm rm l k hk)
  have HQg := Lib.hid (fun k hk => folq_good p sm rm l hg k hk)
  have hmf : ∀ (fn : Fn) (first cap : Array Value) (w : World), (Instr.makeFunc fn first cap).run Try.prog w = .ok (.func fn first cap) w := fun _ _ _ _ => rfl
  clear hs hg hp hrm
  obtain ⟨w1, hw1⟩ : ∃ w1, w1 = w.alloc (.cells #[.int .i64 p.min, .int .i64 p.max, .int .i64 p.target, .int .i64 p.tol, .int .i64 p.window, .int .i64 p.hold] 23) := ⟨_, rfl⟩
  have B1 := Lib.hid (show Blk w1 w.heap.size 23 #[.int .i64 p.min, .int .i64 p.max, .int .i64 p.target, .int .i64 p.tol, .int .i64 p.window, .int .i64 p.hold] by rw [hw1]; exact Blk.new _ _ _)
  have E1 := Lib.hid (show Below w.heap.size w w1 by rw [hw1]; go_grown)
  go_enter Try.func32, Try.ntmps32
  go_upto_region 1 with (fail)
  rw [← hw1]
  clear hw1
  go_wp2_with (first
    | (go_at_call 15; refine (serv_New sm _).mono ?_; rintro e v1 ⟨ps, FS, rfl, k1, k2, k3⟩; have K1 := Lib.hid k1; have K2 := Lib.hid k2; have K3 := Lib.hid k3; clear k1 k2 k3)
    | (go_at_call 59; refine (history_New rm _ HR.out).mono ?_; rintro e v2 ⟨ph, FH, rfl, k1, k2, k3⟩; have F2 := Lib.hid (FolIn.start K1.out K2.out K3.out k1 k2 k3); clear k1 k2 k3 K1 K2 K3))
  go_loopw [13, 28] (fun v i wr => ∃ k : Nat, k ≤ len ∧ i = .int .i64 k ∧ FolIn w1 wr ps ph v (folq p sm rm (l.take k)) sm rm) (fun _ i _ => len - (intOf i).toNat)
  case atStart => exact ⟨0, Nat.zero_le _, rfl, F2.out⟩
  case round =>
    obtain ⟨k, hk, rfl, hin⟩ := hrel
    obtain ⟨A5, n5, c5, rfl, -, -⟩ := hin.own.shape adv_len
    have HI := Lib.hid hin
    clear hin
    by_cases hlt : k < len
    · obtain ⟨b, off, x, rfl, hx, hb, t0, t1⟩ := HS.out.at_ hlt
      have hbw := E1.out.trans (HI.out.bel.mono E1.out.size)
      have kt0 := (hbw.cell (p := ⟨b, off + k * 2, none⟩) hb).trans t0
      have kt1 := (hbw.cell (p := ⟨b, off + k * 2 + 1, none⟩) hb).trans t1
      have hki : (k : Int) < (len : Int) := by omega
      have HN1 := Lib.hid (HN.out k x hx)
      have HLn := Lib.hid (HQ.out (k + 1) (by have := HL.out; omega)).1
      have HGd := Lib.hid (HQg.out (k + 1) (by have := HL.out; omega))
      have HLo := Lib.hid (HQ.out k (by have := HL.out; omega)).2
      rw [HN1.out, fstep_smps] at HLn HGd
      clear hx hb t0 t1 hbw
      have I1 := Lib.hid (HI.out.call (w' := wr.alloc (.cells #[.int .i64 x.tick, .int .i64 x.value] 35)) ((Below.refl _ wr).alloc (Nat.le_refl _) _))
      clear HI
      generalize folq p sm rm (l.take k) = st at *
      obtain ⟨FS, hS, hSput⟩ := I1.out.ser
      have HS1 := Lib.hid hS
      have HPt := Lib.hid hSput
      clear hS hSput
      by_cases he : errr sm x = 0
      · have d1 : (errr sm x != 0) = false := by rw [he]; rfl
        have HE := Lib.hid he
        clear he
        go_upto_region 8 with (go_at_call 19; refine (serv_Put ps FS st.smps sm x _ HS1.out).mono ?_; intro e w2 hp; obtain ⟨rfl, hI⟩ := HPt.out x _ _ hp; have I2 := Lib.hid hI; clear hp hI)
        have B2 := Lib.hid (B1.out.call I2.out.bel)
        obtain ⟨FS2, FH2, hS2, hH2⟩ := I2.out.ser2
        obtain ⟨FX, hFl, hAd⟩ := I2.out.hist2
        have HS2 := Lib.hid hS2
        have HH2 := Lib.hid hH2
        have HFl := Lib.hid hFl
        have HAd := Lib.hid hAd
        have HPl := Lib.hid hH2.len
        have H1 := Lib.hid (fun h2 h3 => HN1.out.trans (fstep_ok HE.out h2 h3))
        have H2 := Lib.hid (fun h2 h3 => HN1.out.trans (fstep_full HE.out h2 h3))
        have H3 := Lib.hid (fun h2 => HN1.out.trans (fstep_skip (rm := rm) HE.out h2))
        clear hS2 hH2 hFl hAd HPt HS1 I1 HN1 HE d1
        dsimp only at HAd HS2 HH2 HPl
        generalize putr st.smps sm x = hh at *
        have HOf := Lib.hid (fun W A n c B m d hW hW2 hn hm => (show Calls Try.prog 64 #[(.agg #[.int .i64 p.min, .int .i64 p.max, .int .i64 p.target, .int .i64 p.tol, .int .i64 p.window, .int .i64 p.hold]), .slice A n c, .slice B m d] W fun e w' => e = .returned (.tuple #[.agg #[.int .i64 (ofq p hh st.past).tick, .int .i64 (ofq p hh st.past).load, .int .i64 (ofq p hh st.past).want, .int .i64 (ofq p hh st.past).repl, .int .i64 (ofq p hh st.past).why], .int .i64 (ofe p hh)]) ∧ Below W.heap.size W w' from decide_Of p A n c hh B m d st.past W HP.out hW HGd.out hn hW2 hm))
        generalize ofq p hh st.past = X at *
        generalize ofe p hh = OE at *
        have HLo2 := Lib.hid (show st.out.length < 1000000 by have := HLo.out; omega)
        have HLn2 := Lib.hid (show hh.length ≤ 200 by have := HLn.out; omega)
        clear HLo HLn
        refine wp_region_any (by kernel_rfl) ?_; change wpAny _ _ _ _ _ _ _ (World.drew w2); refine any_of_anyG (late := fun _ => false) (S := fun wS => Below w2.heap.size w2 wS) _ _ _ _ ?_
        have S0 := (Below.refl w2.heap.size w2).drew
        refine anyG_takes (is := [0, 1, 3]) (vs := [_, _, _]) (m := 9) (listed2 := #[true, true, false, true, false, false, false, false, false, false, false, false]) (a2 := ⟨#[_, _, _, _, _, _, _, _, _, _, _, _, _, _, _, _, _, _, _, _, _, _, _, _, _, _, _, _, _, _, _, _, _, _, _, _, _, _, _, _, _, _, _, _, _, _, _, _, _, _, _, _, _, _, _, _, _, _, _, _, _], _⟩) (by kernel_rfl) (fun j hj => by simp at hj) (by kernel_rfl) (fun _ _ _ _ _ h => h) (Ys.cons rfl (Or.inl ⟨by rfl, fun W1 hW1 => exec_load (ty := 23) (x := .tmp 4) rfl rfl (run_loadAt_blk _ _ _ _ _ _ (B2.out.call hW1) Try.underlying23 rfl (by first | kernel_rfl | exact info_num _))⟩) (Ys.cons rfl (Or.inl ⟨by rfl, fun W1 hW1 => by first | rfl | (go_simp; done) | (go_simp; with_reducible rfl)⟩) (Ys.cons rfl (Or.inl ⟨by rfl, fun W1 hW1 => by first | rfl | (go_simp; done) | (go_simp; with_reducible rfl)⟩) (Ys.nil)))) (S0) (by rfl) (by rfl) ?_
        refine anyG_two (i := 2) (j := 9) (by kernel_rfl) rfl (by rfl) rfl (by rfl) (fun Q2 hQ2 => ?_) (fun Q2 hQ2 => ?_)
        ·
          go_wp2_with (go_at_call 54; refine (serv_List ps FS2 hh sm _ (HS2.out.call S0)).mono ?_; rintro e v3 ⟨A3, n3, c3, rfl, ho3, hb3⟩; have L3 := Lib.hid (ho3.is smp_len); clear ho3; (try have bG := bG.call hb3))
          refine hQ2 _ _ (fun _ => S0.trans (hb3.mono S0.size)) ?_
          clear hQ2 Q2
          have S3 := S0.trans (hb3.mono S0.size)
          refine anyG_two (i := 4) (j := 9) (by kernel_rfl) rfl (by rfl) rfl (by rfl) (fun Q2 hQ2 => ?_) (fun Q2 hQ2 => ?_)
          ·
            go_wp2_with (go_at_call 60; refine (history_List ph FH2 st.past rm _ (HH2.out.call S3)).mono ?_; rintro e v4 ⟨u4, rfl, ho4, hb4⟩; obtain ⟨A4, n4, c4, rfl, -, -⟩ := ho4.shape adv_len; have L4 := Lib.hid (ownA_is ho4); have M3 := Lib.hid (by first | exact slice_keep L3.out hb4 | exact slice_keep (slice_keep L3.out (by go_grown)) hb4); clear L3 ho4; (try have bG := bG.call hb4))
            refine hQ2 _ _ (fun _ => S3.trans (hb4.mono S3.size)) ?_
            clear hQ2 Q2
            have S4 := S3.trans (hb4.mono S3.size)
            refine anyG_two (i := 5) (j := 9) (by kernel_rfl) rfl (by rfl) rfl (by rfl) (fun Q2 hQ2 => ?_) (fun Q2 hQ2 => ?_)
            ·
              go_wp2_with (go_at_call 64; refine (HOf.out _ A3 n3 c3 A4 n4 c4 (by first | exact M3.out | exact slice_keep M3.out (by go_grown)) (by first | exact L4.out | exact slice_keep L4.out (by go_grown)) (by rw [← M3.out.1]; exact HLn2.out) (by rw [← L4.out.1]; have := HPl.out; omega)).mono ?_; rintro e v5 ⟨rfl, hb5⟩; (try have bG := bG.call hb5))
              refine hQ2 _ _ (fun _ => S4.trans (hb5.mono S4.size)) ?_
              clear hQ2 Q2
              have S5 := S4.trans (hb5.mono S4.size)
              refine anyG_takes (is := [6, 7, 8]) (vs := [_, _, _]) (m := 3) (listed2 := #[true, true, true, true, true, true, true, true, true, false, false, false]) (a2 := ⟨#[_, _, _, _, _, _, _, _, _, _, _, _, _, _, _, _, _, _, _, _, _, _, _, _, _, _, _, _, _, _, _, _, _, _, _, _, _, _, _, _, _, _, _, _, _, _, _, _, _, _, _, _, _, _, _, _, _, _, _, _, _], _⟩) (by kernel_rfl) (fun j hj => by simp at hj) (by kernel_rfl) (fun _ _ _ _ _ h => h) (Ys.cons rfl (Or.inl ⟨by rfl, fun W1 hW1 => by first | rfl | (go_simp; done) | (go_simp; with_reducible rfl)⟩) (Ys.cons rfl (Or.inl ⟨by rfl, fun W1 hW1 => by first | rfl | (go_simp; done) | (go_simp; with_reducible rfl)⟩) (Ys.cons rfl (Or.inl ⟨by rfl, fun W1 hW1 => by first | rfl | (go_simp; done) | (go_simp; with_reducible rfl)⟩) (Ys.nil)))) (S5) (by rfl) (by rfl) ?_
              refine anyG_one (k := 9) (by kernel_rfl) rfl (by rfl) (fun Q2 hQ2 => ?_)
              have nG := new_at (S := S5) (zA) 26
              obtain ⟨G, hG, bG, lG⟩ := nG
              go_wp2_with fail
              refine hQ2 _ _ (fun _ => S5.alloc S5.size _) ?_
              clear hQ2 Q2
              (try simp only [hG])
              clear hG
              have SG := S5.alloc S5.size (.cells (zA) 26)
              refine anyG_one (k := 10) (by kernel_rfl) rfl (by rfl) (fun Q2 hQ2 => ?_); go_wp2_with (refine wpList_store_row rfl 26 (.tmp 16) _ rfl _ _ _ _ rfl rfl (bG) (by rfl) (by kernel_rfl) (by simp [Value.oneCell']) ?_; intro uG huG hwG); refine hQ2 _ _ (fun _ => SG.trans (Only.below hwG lG SG.size)) ?_; clear hQ2 Q2
              have SsG := SG.trans (Only.below hwG lG SG.size)
              refine anyG_takes (is := [11]) (vs := [.int .i64 OE]) (m := 0) (listed2 := #[true, true, true, true, true, true, true, true, true, true, true, true]) (a2 := ⟨#[_, _, _, _, _, _, _, _, _, _, _, _, _, _, _, _, _, _, _, _, _, _, _, _, _, _, _, _, _, _, _, _, _, _, _, _, _, _, _, _, _, _, _, _, _, _, _, _, _, _, _, _, _, _, _, _, _, _, _, _, _], _⟩) (by kernel_rfl) (fun j hj => by simp at hj) (by kernel_rfl) (fun _ _ _ _ _ h => h) (Ys.cons rfl (Or.inl ⟨by rfl, fun W1 hW1 => by rfl⟩) (Ys.nil)) (SsG) (by rfl) (by rfl) ?_
              refine anyG_done (by kernel_rfl) ?_ _
              have G9 := Lib.hid huG
              have S9 := Lib.hid SsG
              have hlG := lG
              obtain ⟨hA, hB⟩ := HAd.out _ S9.out
              have HA9 := Lib.hid hA
              have HB9 := Lib.hid hB
              have I9 := Lib.hid (I2.out.call S9.out)
              clear hA hB
              have g0 := G9.out.cellv (i := 0) (v := .int .i64 X.tick) rfl
              have g1 := G9.out.cellv (i := 1) (v := .int .i64 X.load) rfl
              have g2 := G9.out.cellv (i := 2) (v := .int .i64 X.want) rfl
              have g3 := G9.out.cellv (i := 3) (v := .int .i64 X.repl) rfl
              have g4 := G9.out.cellv (i := 4) (v := .int .i64 X.why) rfl
              by_cases ho : OE = 0
              · have d2 : (OE == 0) = true := by simpa using ho
                by_cases hr : 1 ≤ rm ∧ rm ≤ 64
                · have d3 : decide (1 ≤ rm ∧ rm ≤ 64) = true := decide_eq_true hr
                  have HE := Lib.hid (H1.out ho hr)
                  clear ho hr H1 H2 H3
                  go_wp2_with (first
                    | (refine Blk.load rfl 26 (.tmp 16) rfl _ _ _ _ rfl G10.out Try.underlying26 rfl (by kernel_rfl) ?_)
                    | (refine Blk.load rfl 26 (.tmp 16) rfl _ _ _ _ rfl G9.out Try.underlying26 rfl (by kernel_rfl) ?_)
                    | (go_at_call 61; refine (history_Add ph FX st.past rm X _ HA9.out).mono ?_; intro e w6 hp; obtain ⟨rfl, hI6, hU6⟩ := HB9.out X _ _ hp; have I6 := Lib.hid hI6; have G10 := Lib.hid (G9.out.upd hU6 (fun hf => by have := HFl.out _ hf; omega)); clear hp hI6 hU6 g0 g1 g2 g3 g4)
                    | (at_builtin; refine wpList_push2 _ rfl (.tmp 55) (.tmp 57) 24 rfl w1.heap.size 26 _ 5 40 _ Try.underlying24 info_adv (by rfl) (by decide) (fun _ => rfl) adv_one (.slice A5 n5 c5) st.out rfl (I6.out.own.alloc _) ⟨_, 0, none⟩ 1 X rfl (blk_news (α := Adv) (vs := X.cells) (Blk.new _ _ _) rfl) HLo2.out (by decide) (by have := I6.out.size; simp; omega) ?_; intro v' w7 ho7 hu7 hw7; obtain ⟨A7, n7, c7, rfl, -, -⟩ := ho7.shape adv_len; have I7 := Lib.hid (FolIn.push (I6.out.call (by go_grown)) ho7 hu7 hw7); clear ho7 hu7 hw7))
                  go_roundw
                  case rel => exact ⟨k + 1, by omega, by go_num, by rw [HE.out]; exact I7.out⟩
                  case measure => simp [intOf]; omega
                · have d3 : decide (1 ≤ rm ∧ rm ≤ 64) = false := decide_eq_false hr
                  have HE := Lib.hid (H2.out ho hr)
                  clear ho hr H1 H2 H3
                  go_wp2_with (first
                    | (refine Blk.load rfl 26 (.tmp 16) rfl _ _ _ _ rfl G9.out Try.underlying26 rfl (by kernel_rfl) ?_)
                    | (go_at_call 61; refine (history_Add ph FX st.past rm X _ HA9.out).mono ?_; intro e w6 hp; obtain ⟨rfl, hI6, hU6⟩ := HB9.out X _ _ hp; have I6 := Lib.hid hI6; clear hp hI6 hU6))
                  go_roundw
                  case rel => exact ⟨k + 1, by omega, by go_num, by rw [HE.out]; exact I6.out⟩
                  case measure => simp [intOf]; omega
              · have d2 : (OE == 0) = false := by simpa using ho
                have HE := Lib.hid (H3.out ho)
                clear ho H1 H2 H3
                go_wp2_with fail
                go_roundw
                case rel => exact ⟨k + 1, by omega, by go_num, by rw [HE.out]; exact I9.out⟩
                case measure => simp [intOf]; omega
            ·
              skip
              have nG := new_at (S := S4) (zA) 26
              obtain ⟨G, hG, bG, lG⟩ := nG
              go_wp2_with fail
              refine hQ2 _ _ (fun _ => S4.alloc S4.size _) ?_
              clear hQ2 Q2
              (try simp only [hG])
              clear hG
              have SG := S4.alloc S4.size (.cells (zA) 26)
              refine anyG_one (k := 5) (by kernel_rfl) rfl (by rfl) (fun Q2 hQ2 => ?_); go_wp2_with (go_at_call 64; refine (HOf.out _ A3 n3 c3 A4 n4 c4 (by first | exact M3.out | exact slice_keep M3.out (by go_grown)) (by first | exact L4.out | exact slice_keep L4.out (by go_grown)) (by rw [← M3.out.1]; exact HLn2.out) (by rw [← L4.out.1]; have := HPl.out; omega)).mono ?_; rintro e v5 ⟨rfl, hb5⟩; (try have bG := bG.call hb5)); refine hQ2 _ _ (fun _ => SG.trans (hb5.mono SG.size)) ?_; clear hQ2 Q2
              have S5 := SG.trans (hb5.mono SG.size)
              refine anyG_takes (is := [6, 7, 8]) (vs := [_, _, _]) (m := 2) (listed2 := #[true, true, true, true, true, true, true, true, true, true, false, false]) (a2 := ⟨#[_, _, _, _, _, _, _, _, _, _, _, _, _, _, _, _, _, _, _, _, _, _, _, _, _, _, _, _, _, _, _, _, _, _, _, _, _, _, _, _, _, _, _, _, _, _, _, _, _, _, _, _, _, _, _, _, _, _, _, _, _], _⟩) (by kernel_rfl) (fun j hj => by simp at hj) (by kernel_rfl) (fun _ _ _ _ _ h => h) (Ys.cons rfl (Or.inl ⟨by rfl, fun W1 hW1 => by first | rfl | (go_simp; done) | (go_simp; with_reducible rfl)⟩) (Ys.cons rfl (Or.inl ⟨by rfl, fun W1 hW1 => by first | rfl | (go_simp; done) | (go_simp; with_reducible rfl)⟩) (Ys.cons rfl (Or.inl ⟨by rfl, fun W1 hW1 => by first | rfl | (go_simp; done) | (go_simp; with_reducible rfl)⟩) (Ys.nil)))) (S5) (by rfl) (by rfl) ?_
              refine anyG_one (k := 10) (by kernel_rfl) rfl (by rfl) (fun Q2 hQ2 => ?_); go_wp2_with (refine wpList_store_row rfl 26 (.tmp 16) _ rfl _ _ _ _ rfl rfl (bG) (by rfl) (by kernel_rfl) (by simp [Value.oneCell']) ?_; intro uG huG hwG); refine hQ2 _ _ (fun _ => S5.trans (Only.below hwG lG S5.size)) ?_; clear hQ2 Q2
              have SsG := S5.trans (Only.below hwG lG S5.size)
              refine anyG_takes (is := [11]) (vs := [.int .i64 OE]) (m := 0) (listed2 := #[true, true, true, true, true, true, true, true, true, true, true, true]) (a2 := ⟨#[_, _, _, _, _, _, _, _, _, _, _, _, _, _, _, _, _, _, _, _, _, _, _, _, _, _, _, _, _, _, _, _, _, _, _, _, _, _, _, _, _, _, _, _, _, _, _, _, _, _, _, _, _, _, _, _, _, _, _, _, _], _⟩) (by kernel_rfl) (fun j hj => by simp at hj) (by kernel_rfl) (fun _ _ _ _ _ h => h) (Ys.cons rfl (Or.inl ⟨by rfl, fun W1 hW1 => by rfl⟩) (Ys.nil)) (SsG) (by rfl) (by rfl) ?_
              refine anyG_done (by kernel_rfl) ?_ _
              have G9 := Lib.hid huG
              have S9 := Lib.hid SsG
              have hlG := lG
              obtain ⟨hA, hB⟩ := HAd.out _ S9.out
              have HA9 := Lib.hid hA
              have HB9 := Lib.hid hB
              have I9 := Lib.hid (I2.out.call S9.out)
              clear hA hB
              have g0 := G9.out.cellv (i := 0) (v := .int .i64 X.tick) rfl
              have g1 := G9.out.cellv (i := 1) (v := .int .i64 X.load) rfl
              have g2 := G9.out.cellv (i := 2) (v := .int .i64 X.want) rfl
              have g3 := G9.out.cellv (i := 3) (v := .int .i64 X.repl) rfl
              have g4 := G9.out.cellv (i := 4) (v := .int .i64 X.why) rfl
              by_cases ho : OE = 0
              · have d2 : (OE == 0) = true := by simpa using ho
                by_cases hr : 1 ≤ rm ∧ rm ≤ 64
                · have d3 : decide (1 ≤ rm ∧ rm ≤ 64) = true := decide_eq_true hr
                  have HE := Lib.hid (H1.out ho hr)
                  clear ho hr H1 H2 H3
                  go_wp2_with (first
                    | (refine Blk.load rfl 26 (.tmp 16) rfl _ _ _ _ rfl G10.out Try.underlying26 rfl (by kernel_rfl) ?_)
                    | (refine Blk.load rfl 26 (.tmp 16) rfl _ _ _ _ rfl G9.out Try.underlying26 rfl (by kernel_rfl) ?_)
                    | (go_at_call 61; refine (history_Add ph FX st.past rm X _ HA9.out).mono ?_; intro e w6 hp; obtain ⟨rfl, hI6, hU6⟩ := HB9.out X _ _ hp; have I6 := Lib.hid hI6; have G10 := Lib.hid (G9.out.upd hU6 (fun hf => by have := HFl.out _ hf; omega)); clear hp hI6 hU6 g0 g1 g2 g3 g4)
                    | (at_builtin; refine wpList_push2 _ rfl (.tmp 55) (.tmp 57) 24 rfl w1.heap.size 26 _ 5 40 _ Try.underlying24 info_adv (by rfl) (by decide) (fun _ => rfl) adv_one (.slice A5 n5 c5) st.out rfl (I6.out.own.alloc _) ⟨_, 0, none⟩ 1 X rfl (blk_news (α := Adv) (vs := X.cells) (Blk.new _ _ _) rfl) HLo2.out (by decide) (by have := I6.out.size; simp; omega) ?_; intro v' w7 ho7 hu7 hw7; obtain ⟨A7, n7, c7, rfl, -, -⟩ := ho7.shape adv_len; have I7 := Lib.hid (FolIn.push (I6.out.call (by go_grown)) ho7 hu7 hw7); clear ho7 hu7 hw7))
                  go_roundw
                  case rel => exact ⟨k + 1, by omega, by go_num, by rw [HE.out]; exact I7.out⟩
                  case measure => simp [intOf]; omega
                · have d3 : decide (1 ≤ rm ∧ rm ≤ 64) = false := decide_eq_false hr
                  have HE := Lib.hid (H2.out ho hr)
                  clear ho hr H1 H2 H3
                  go_wp2_with (first
                    | (refine Blk.load rfl 26 (.tmp 16) rfl _ _ _ _ rfl G9.out Try.underlying26 rfl (by kernel_rfl) ?_)
                    | (go_at_call 61; refine (history_Add ph FX st.past rm X _ HA9.out).mono ?_; intro e w6 hp; obtain ⟨rfl, hI6, hU6⟩ := HB9.out X _ _ hp; have I6 := Lib.hid hI6; clear hp hI6 hU6))
                  go_roundw
                  case rel => exact ⟨k + 1, by omega, by go_num, by rw [HE.out]; exact I6.out⟩
                  case measure => simp [intOf]; omega
              · have d2 : (OE == 0) = false := by simpa using ho
                have HE := Lib.hid (H3.out ho)
                clear ho H1 H2 H3
                go_wp2_with fail
                go_roundw
                case rel => exact ⟨k + 1, by omega, by go_num, by rw [HE.out]; exact I9.out⟩
                case measure => simp [intOf]; omega
          ·
            skip
            have nG := new_at (S := S3) (zA) 26
            obtain ⟨G, hG, bG, lG⟩ := nG
            go_wp2_with fail
            refine hQ2 _ _ (fun _ => S3.alloc S3.size _) ?_
            clear hQ2 Q2
            (try simp only [hG])
            clear hG
            have SG := S3.alloc S3.size (.cells (zA) 26)
            refine anyG_one (k := 4) (by kernel_rfl) rfl (by rfl) (fun Q2 hQ2 => ?_); go_wp2_with (go_at_call 60; refine (history_List ph FH2 st.past rm _ (HH2.out.call SG)).mono ?_; rintro e v4 ⟨u4, rfl, ho4, hb4⟩; obtain ⟨A4, n4, c4, rfl, -, -⟩ := ho4.shape adv_len; have L4 := Lib.hid (ownA_is ho4); have M3 := Lib.hid (by first | exact slice_keep L3.out hb4 | exact slice_keep (slice_keep L3.out (by go_grown)) hb4); clear L3 ho4; (try have bG := bG.call hb4)); refine hQ2 _ _ (fun _ => SG.trans (hb4.mono SG.size)) ?_; clear hQ2 Q2
            have S4 := SG.trans (hb4.mono SG.size)
            refine anyG_one (k := 5) (by kernel_rfl) rfl (by rfl) (fun Q2 hQ2 => ?_); go_wp2_with (go_at_call 64; refine (HOf.out _ A3 n3 c3 A4 n4 c4 (by first | exact M3.out | exact slice_keep M3.out (by go_grown)) (by first | exact L4.out | exact slice_keep L4.out (by go_grown)) (by rw [← M3.out.1]; exact HLn2.out) (by rw [← L4.out.1]; have := HPl.out; omega)).mono ?_; rintro e v5 ⟨rfl, hb5⟩; (try have bG := bG.call hb5)); refine hQ2 _ _ (fun _ => S4.trans (hb5.mono S4.size)) ?_; clear hQ2 Q2
            have S5 := S4.trans (hb5.mono S4.size)
            refine anyG_takes (is := [6, 7, 8]) (vs := [_, _, _]) (m := 2) (listed2 := #[true, true, true, true, true, true, true, true, true, true, false, false]) (a2 := ⟨#[_, _, _, _, _, _, _, _, _, _, _, _, _, _, _, _, _, _, _, _, _, _, _, _, _, _, _, _, _, _, _, _, _, _, _, _, _, _, _, _, _, _, _, _, _, _, _, _, _, _, _, _, _, _, _, _, _, _, _, _, _], _⟩) (by kernel_rfl) (fun j hj => by simp at hj) (by kernel_rfl) (fun _ _ _ _ _ h => h) (Ys.cons rfl (Or.inl ⟨by rfl, fun W1 hW1 => by first | rfl | (go_simp; done) | (go_simp; with_reducible rfl)⟩) (Ys.cons rfl (Or.inl ⟨by rfl, fun W1 hW1 => by first | rfl | (go_simp; done) | (go_simp; with_reducible rfl)⟩) (Ys.cons rfl (Or.inl ⟨by rfl, fun W1 hW1 => by first | rfl | (go_simp; done) | (go_simp; with_reducible rfl)⟩) (Ys.nil)))) (S5) (by rfl) (by rfl) ?_
            refine anyG_one (k := 10) (by kernel_rfl) rfl (by rfl) (fun Q2 hQ2 => ?_); go_wp2_with (refine wpList_store_row rfl 26 (.tmp 16) _ rfl _ _ _ _ rfl rfl (bG) (by rfl) (by kernel_rfl) (by simp [Value.oneCell']) ?_; intro uG huG hwG); refine hQ2 _ _ (fun _ => S5.trans (Only.below hwG lG S5.size)) ?_; clear hQ2 Q2
            have SsG := S5.trans (Only.below hwG lG S5.size)
            refine anyG_takes (is := [11]) (vs := [.int .i64 OE]) (m := 0) (listed2 := #[true, true, true, true, true, true, true, true, true, true, true, true]) (a2 := ⟨#[_, _, _, _, _, _, _, _, _, _, _, _, _, _, _, _, _, _, _, _, _, _, _, _, _, _, _, _, _, _, _, _, _, _, _, _, _, _, _, _, _, _, _, _, _, _, _, _, _, _, _, _, _, _, _, _, _, _, _, _, _], _⟩) (by kernel_rfl) (fun j hj => by simp at hj) (by kernel_rfl) (fun _ _ _ _ _ h => h) (Ys.cons rfl (Or.inl ⟨by rfl, fun W1 hW1 => by rfl⟩) (Ys.nil)) (SsG) (by rfl) (by rfl) ?_
            refine anyG_done (by kernel_rfl) ?_ _
            have G9 := Lib.hid huG
            have S9 := Lib.hid SsG
            have hlG := lG
            obtain ⟨hA, hB⟩ := HAd.out _ S9.out
            have HA9 := Lib.hid hA
            have HB9 := Lib.hid hB
            have I9 := Lib.hid (I2.out.call S9.out)
            clear hA hB
            have g0 := G9.out.cellv (i := 0) (v := .int .i64 X.tick) rfl
            have g1 := G9.out.cellv (i := 1) (v := .int .i64 X.load) rfl
            have g2 := G9.out.cellv (i := 2) (v := .int .i64 X.want) rfl
            have g3 := G9.out.cellv (i := 3) (v := .int .i64 X.repl) rfl
            have g4 := G9.out.cellv (i := 4) (v := .int .i64 X.why) rfl
            by_cases ho : OE = 0
            · have d2 : (OE == 0) = true := by simpa using ho
              by_cases hr : 1 ≤ rm ∧ rm ≤ 64
              · have d3 : decide (1 ≤ rm ∧ rm ≤ 64) = true := decide_eq_true hr
                have HE := Lib.hid (H1.out ho hr)
                clear ho hr H1 H2 H3
                go_wp2_with (first
                  | (refine Blk.load rfl 26 (.tmp 16) rfl _ _ _ _ rfl G10.out Try.underlying26 rfl (by kernel_rfl) ?_)
                  | (refine Blk.load rfl 26 (.tmp 16) rfl _ _ _ _ rfl G9.out Try.underlying26 rfl (by kernel_rfl) ?_)
                  | (go_at_call 61; refine (history_Add ph FX st.past rm X _ HA9.out).mono ?_; intro e w6 hp; obtain ⟨rfl, hI6, hU6⟩ := HB9.out X _ _ hp; have I6 := Lib.hid hI6; have G10 := Lib.hid (G9.out.upd hU6 (fun hf => by have := HFl.out _ hf; omega)); clear hp hI6 hU6 g0 g1 g2 g3 g4)
                  | (at_builtin; refine wpList_push2 _ rfl (.tmp 55) (.tmp 57) 24 rfl w1.heap.size 26 _ 5 40 _ Try.underlying24 info_adv (by rfl) (by decide) (fun _ => rfl) adv_one (.slice A5 n5 c5) st.out rfl (I6.out.own.alloc _) ⟨_, 0, none⟩ 1 X rfl (blk_news (α := Adv) (vs := X.cells) (Blk.new _ _ _) rfl) HLo2.out (by decide) (by have := I6.out.size; simp; omega) ?_; intro v' w7 ho7 hu7 hw7; obtain ⟨A7, n7, c7, rfl, -, -⟩ := ho7.shape adv_len; have I7 := Lib.hid (FolIn.push (I6.out.call (by go_grown)) ho7 hu7 hw7); clear ho7 hu7 hw7))
                go_roundw
                case rel => exact ⟨k + 1, by omega, by go_num, by rw [HE.out]; exact I7.out⟩
                case measure => simp [intOf]; omega
              · have d3 : decide (1 ≤ rm ∧ rm ≤ 64) = false := decide_eq_false hr
                have HE := Lib.hid (H2.out ho hr)
                clear ho hr H1 H2 H3
                go_wp2_with (first
                  | (refine Blk.load rfl 26 (.tmp 16) rfl _ _ _ _ rfl G9.out Try.underlying26 rfl (by kernel_rfl) ?_)
                  | (go_at_call 61; refine (history_Add ph FX st.past rm X _ HA9.out).mono ?_; intro e w6 hp; obtain ⟨rfl, hI6, hU6⟩ := HB9.out X _ _ hp; have I6 := Lib.hid hI6; clear hp hI6 hU6))
                go_roundw
                case rel => exact ⟨k + 1, by omega, by go_num, by rw [HE.out]; exact I6.out⟩
                case measure => simp [intOf]; omega
            · have d2 : (OE == 0) = false := by simpa using ho
              have HE := Lib.hid (H3.out ho)
              clear ho H1 H2 H3
              go_wp2_with fail
              go_roundw
              case rel => exact ⟨k + 1, by omega, by go_num, by rw [HE.out]; exact I9.out⟩
              case measure => simp [intOf]; omega
        ·
          skip
          have nG := new_at (S := S0) (zA) 26
          obtain ⟨G, hG, bG, lG⟩ := nG
          go_wp2_with fail
          refine hQ2 _ _ (fun _ => S0.alloc S0.size _) ?_
          clear hQ2 Q2
          (try simp only [hG])
          clear hG
          have SG := S0.alloc S0.size (.cells (zA) 26)
          refine anyG_one (k := 2) (by kernel_rfl) rfl (by rfl) (fun Q2 hQ2 => ?_); go_wp2_with (go_at_call 54; refine (serv_List ps FS2 hh sm _ (HS2.out.call SG)).mono ?_; rintro e v3 ⟨A3, n3, c3, rfl, ho3, hb3⟩; have L3 := Lib.hid (ho3.is smp_len); clear ho3; (try have bG := bG.call hb3)); refine hQ2 _ _ (fun _ => SG.trans (hb3.mono SG.size)) ?_; clear hQ2 Q2
          have S3 := SG.trans (hb3.mono SG.size)
          refine anyG_one (k := 4) (by kernel_rfl) rfl (by rfl) (fun Q2 hQ2 => ?_); go_wp2_with (go_at_call 60; refine (history_List ph FH2 st.past rm _ (HH2.out.call S3)).mono ?_; rintro e v4 ⟨u4, rfl, ho4, hb4⟩; obtain ⟨A4, n4, c4, rfl, -, -⟩ := ho4.shape adv_len; have L4 := Lib.hid (ownA_is ho4); have M3 := Lib.hid (by first | exact slice_keep L3.out hb4 | exact slice_keep (slice_keep L3.out (by go_grown)) hb4); clear L3 ho4; (try have bG := bG.call hb4)); refine hQ2 _ _ (fun _ => S3.trans (hb4.mono S3.size)) ?_; clear hQ2 Q2
          have S4 := S3.trans (hb4.mono S3.size)
          refine anyG_one (k := 5) (by kernel_rfl) rfl (by rfl) (fun Q2 hQ2 => ?_); go_wp2_with (go_at_call 64; refine (HOf.out _ A3 n3 c3 A4 n4 c4 (by first | exact M3.out | exact slice_keep M3.out (by go_grown)) (by first | exact L4.out | exact slice_keep L4.out (by go_grown)) (by rw [← M3.out.1]; exact HLn2.out) (by rw [← L4.out.1]; have := HPl.out; omega)).mono ?_; rintro e v5 ⟨rfl, hb5⟩; (try have bG := bG.call hb5)); refine hQ2 _ _ (fun _ => S4.trans (hb5.mono S4.size)) ?_; clear hQ2 Q2
          have S5 := S4.trans (hb5.mono S4.size)
          refine anyG_takes (is := [6, 7, 8]) (vs := [_, _, _]) (m := 2) (listed2 := #[true, true, true, true, true, true, true, true, true, true, false, false]) (a2 := ⟨#[_, _, _, _, _, _, _, _, _, _, _, _, _, _, _, _, _, _, _, _, _, _, _, _, _, _, _, _, _, _, _, _, _, _, _, _, _, _, _, _, _, _, _, _, _, _, _, _, _, _, _, _, _, _, _, _, _, _, _, _, _], _⟩) (by kernel_rfl) (fun j hj => by simp at hj) (by kernel_rfl) (fun _ _ _ _ _ h => h) (Ys.cons rfl (Or.inl ⟨by rfl, fun W1 hW1 => by first | rfl | (go_simp; done) | (go_simp; with_reducible rfl)⟩) (Ys.cons rfl (Or.inl ⟨by rfl, fun W1 hW1 => by first | rfl | (go_simp; done) | (go_simp; with_reducible rfl)⟩) (Ys.cons rfl (Or.inl ⟨by rfl, fun W1 hW1 => by first | rfl | (go_simp; done) | (go_simp; with_reducible rfl)⟩) (Ys.nil)))) (S5) (by rfl) (by rfl) ?_
          refine anyG_one (k := 10) (by kernel_rfl) rfl (by rfl) (fun Q2 hQ2 => ?_); go_wp2_with (refine wpList_store_row rfl 26 (.tmp 16) _ rfl _ _ _ _ rfl rfl (bG) (by rfl) (by kernel_rfl) (by simp [Value.oneCell']) ?_; intro uG huG hwG); refine hQ2 _ _ (fun _ => S5.trans (Only.below hwG lG S5.size)) ?_; clear hQ2 Q2
          have SsG := S5.trans (Only.below hwG lG S5.size)
          refine anyG_takes (is := [11]) (vs := [.int .i64 OE]) (m := 0) (listed2 := #[true, true, true, true, true, true, true, true, true, true, true, true]) (a2 := ⟨#[_, _, _, _, _, _, _, _, _, _, _, _, _, _, _, _, _, _, _, _, _, _, _, _, _, _, _, _, _, _, _, _, _, _, _, _, _, _, _, _, _, _, _, _, _, _, _, _, _, _, _, _, _, _, _, _, _, _, _, _, _], _⟩) (by kernel_rfl) (fun j hj => by simp at hj) (by kernel_rfl) (fun _ _ _ _ _ h => h) (Ys.cons rfl (Or.inl ⟨by rfl, fun W1 hW1 => by rfl⟩) (Ys.nil)) (SsG) (by rfl) (by rfl) ?_
          refine anyG_done (by kernel_rfl) ?_ _
          have G9 := Lib.hid huG
          have S9 := Lib.hid SsG
          have hlG := lG
          obtain ⟨hA, hB⟩ := HAd.out _ S9.out
          have HA9 := Lib.hid hA
          have HB9 := Lib.hid hB
          have I9 := Lib.hid (I2.out.call S9.out)
          clear hA hB
          have g0 := G9.out.cellv (i := 0) (v := .int .i64 X.tick) rfl
          have g1 := G9.out.cellv (i := 1) (v := .int .i64 X.load) rfl
          have g2 := G9.out.cellv (i := 2) (v := .int .i64 X.want) rfl
          have g3 := G9.out.cellv (i := 3) (v := .int .i64 X.repl) rfl
          have g4 := G9.out.cellv (i := 4) (v := .int .i64 X.why) rfl
          by_cases ho : OE = 0
          · have d2 : (OE == 0) = true := by simpa using ho
            by_cases hr : 1 ≤ rm ∧ rm ≤ 64
            · have d3 : decide (1 ≤ rm ∧ rm ≤ 64) = true := decide_eq_true hr
              have HE := Lib.hid (H1.out ho hr)
              clear ho hr H1 H2 H3
              go_wp2_with (first
                | (refine Blk.load rfl 26 (.tmp 16) rfl _ _ _ _ rfl G10.out Try.underlying26 rfl (by kernel_rfl) ?_)
                | (refine Blk.load rfl 26 (.tmp 16) rfl _ _ _ _ rfl G9.out Try.underlying26 rfl (by kernel_rfl) ?_)
                | (go_at_call 61; refine (history_Add ph FX st.past rm X _ HA9.out).mono ?_; intro e w6 hp; obtain ⟨rfl, hI6, hU6⟩ := HB9.out X _ _ hp; have I6 := Lib.hid hI6; have G10 := Lib.hid (G9.out.upd hU6 (fun hf => by have := HFl.out _ hf; omega)); clear hp hI6 hU6 g0 g1 g2 g3 g4)
                | (at_builtin; refine wpList_push2 _ rfl (.tmp 55) (.tmp 57) 24 rfl w1.heap.size 26 _ 5 40 _ Try.underlying24 info_adv (by rfl) (by decide) (fun _ => rfl) adv_one (.slice A5 n5 c5) st.out rfl (I6.out.own.alloc _) ⟨_, 0, none⟩ 1 X rfl (blk_news (α := Adv) (vs := X.cells) (Blk.new _ _ _) rfl) HLo2.out (by decide) (by have := I6.out.size; simp; omega) ?_; intro v' w7 ho7 hu7 hw7; obtain ⟨A7, n7, c7, rfl, -, -⟩ := ho7.shape adv_len; have I7 := Lib.hid (FolIn.push (I6.out.call (by go_grown)) ho7 hu7 hw7); clear ho7 hu7 hw7))
              go_roundw
              case rel => exact ⟨k + 1, by omega, by go_num, by rw [HE.out]; exact I7.out⟩
              case measure => simp [intOf]; omega
            · have d3 : decide (1 ≤ rm ∧ rm ≤ 64) = false := decide_eq_false hr
              have HE := Lib.hid (H2.out ho hr)
              clear ho hr H1 H2 H3
              go_wp2_with (first
                | (refine Blk.load rfl 26 (.tmp 16) rfl _ _ _ _ rfl G9.out Try.underlying26 rfl (by kernel_rfl) ?_)
                | (go_at_call 61; refine (history_Add ph FX st.past rm X _ HA9.out).mono ?_; intro e w6 hp; obtain ⟨rfl, hI6, hU6⟩ := HB9.out X _ _ hp; have I6 := Lib.hid hI6; clear hp hI6 hU6))
              go_roundw
              case rel => exact ⟨k + 1, by omega, by go_num, by rw [HE.out]; exact I6.out⟩
              case measure => simp [intOf]; omega
          · have d2 : (OE == 0) = false := by simpa using ho
            have HE := Lib.hid (H3.out ho)
            clear ho H1 H2 H3
            go_wp2_with fail
            go_roundw
            case rel => exact ⟨k + 1, by omega, by go_num, by rw [HE.out]; exact I9.out⟩
            case measure => simp [intOf]; omega
      · have d1 : (errr sm x != 0) = true := by simpa using he
        have HE := Lib.hid he
        clear he
        go_wp2_with (go_at_call 19; refine (serv_Put ps FS st.smps sm x _ HS1.out).mono ?_; intro e w2 hp; obtain ⟨rfl, hI⟩ := HPt.out x _ _ hp; have I2 := Lib.hid hI; clear hp hI)
        go_roundw
        case rel => exact ⟨k + 1, by omega, by go_num, by rw [HN1.out, fstep_no HE.out]; have := I2.out; rw [putr_no HE.out] at this; exact this⟩
        case measure => simp [intOf]; omega
    · have hE : l.take k = l := List.take_of_length_le (by have := HL.out; omega)
      rw [hE] at HI
      go_wp2
      go_ret
      exact ⟨_, _, _, rfl, HI.out.own.mono E1.out.size, E1.out.trans (HI.out.bel.mono E1.out.size)⟩
end Go.Proofs.Ytjodpffdlggjgaa
