/- Several texts in one. -/
import Derived.Test.YtfeccjjheiillaaKTrendAhead2
import Derived.Test.YtfeccjjheiillaaSer6
import Derived.Test.YtfeccjjheiillaaRegT
/- flywheelref52.Of: the walk. (fast region) -/
namespace Go.Proofs.Ytfeccjjheiillaa
open Go.RowKit
set_option linter.unusedSimpArgs false
set_option linter.unusedVariables false
set_option maxHeartbeats 8000000
set_option maxRecDepth 100000
def LI3 (w wr : World) (T : TypeId) (g : Nat) (cs : Array Value) : Prop := Blk wr w.heap.size T z4 ∧ Blk wr g T cs ∧ w.heap.size < g ∧ Below w.heap.size w wr
theorem LI3.new {w wr : World} {T : TypeId} (h : LI2 w wr T) (cs : Array Value) : LI3 w (wr.alloc (.cells cs T)) T wr.heap.size cs := ⟨h.1.alloc _, Blk.new _ _ _, h.1.lt, h.2.alloc h.2.size _⟩
theorem LI3.call {w wr w' : World} {T : TypeId} {g : Nat} {cs : Array Value} (h : LI3 w wr T g cs) (hb : Below wr.heap.size wr w') : LI3 w w' T g cs := ⟨h.1.call hb, h.2.1.call hb, h.2.2.1, h.2.2.2.trans (hb.mono h.2.2.2.size)⟩
theorem LI3.set {w wr : World} {T : TypeId} {g : Nat} {cs : Array Value} (h : LI3 w wr T g cs) (i : Nat) (u : Value) : LI3 w (wr.setCell ⟨g, i, none⟩ u) T g (cs.setIfInBounds i u) := ⟨h.1.far (by have := h.2.2.1; simp; omega) u, h.2.1.set_ i u, h.2.2.1, h.2.2.2.setCell (by have := h.2.2.1; simp; omega) u⟩
theorem ref52_Of (A : Option Addr) (len cap : Nat) (l : List Smp) (w : World) (hs : SmpsAre w A len cap l) (hg : ∀ x ∈ l, x.good) (hn : len ≤ 200) :
    Calls Try.prog 24 #[.slice A len cap] w (LineP (serq 256 l) w) := by
  have D0 := Lib.hid (LI2.start w 42)
  have HS := Lib.hid hs
  have HO := Lib.hid (fun W hW => (show Calls Try.prog 21 #[.int .i64 256, .slice A len cap] W (PutS W (serq 256 l)) from ref08_Of 256 A len cap l W hW (by omega) (by omega) (by omega)))
  have HF := Lib.hid (serq_fin 256 hg)
  have HSl := Lib.hid (show (serq 256 l).length ≤ 200 by have := serq_len 256 l; have := hs.1; omega)
  clear hs hg
  generalize serq 256 l = S at *
  unfold LineP
  have HG := Lib.hid (line_good HF.out)
  by_cases h0 : S.length = 0
  · have e1 : lineS S = ln0 := if_pos h0
    have e2 : hasS S = false := by unfold hasS; simp [h0]
    rw [e1, e2]
    clear e1 e2 HG
    have H0 := Lib.hid h0
    clear h0
    go_enter Try.func24, Try.ntmps24
    go_wp2_with (first
      | (go_at_call 21; refine (HO.out _ (slice_keep HS.out D0.out.2)).mono ?_; rintro e v2 ⟨A2, n2, c2, rfl, hs2, hb2, -⟩; have D2 := Lib.hid (D0.out.call hb2); have hn2 : n2 = 0 := (by rw [← hs2.1, H0.out]); subst hn2; have L2 := Lib.hid hs2; clear hs2 hb2)
      | (refine wpList_store_row rfl 42 (.tmp 2) (.tmp 13) rfl w.heap.size _ _ _ rfl rfl D2.out.1 (by rfl) (by kernel_rfl) (by simp [Value.oneCell']) ?_; intro w9 hb9 hg9))
    refine bodyPost_ret (results_row_tmp rfl _ _ w.heap.size _ _ _ rfl hb9 Try.underlying42 rfl (by kernel_rfl)) rfl ⟨rfl, D2.out.2.trans (Only.below hg9 (by omega) D2.out.2.size)⟩
  · have e2 : hasS S = true := by unfold hasS; simp [h0]
    rw [e2]
    clear e2
    by_cases h1 : S.length = 1
    · have e1 : lineS S = ⟨tkq S 0, vlq S 0, 0, 1⟩ := by unfold lineS; rw [if_neg h0, if_pos h1]
      rw [e1]
      clear e1 HG
      have H1 := Lib.hid h1
      clear h0 h1
      go_enter Try.func24, Try.ntmps24
      focus (go_upto_region 5 with (go_at_call 21; refine (HO.out _ (slice_keep HS.out D0.out.2)).mono ?_; rintro e v2 ⟨A2, n2, c2, rfl, hs2, hb2, -⟩; have D2 := Lib.hid (D0.out.call hb2); have hn2 : n2 = 1 := (by rw [← hs2.1, H1.out]); subst hn2; have L2 := Lib.hid hs2; clear hs2 hb2))
      obtain ⟨b, off, rfl, c0, c1, -⟩ := ends_at L2.out (by omega)
      have C0 := Lib.hid c0
      have C1 := Lib.hid c1
      have HBB := Lib.hid (cell_lt c0)
      clear c0 c1
      refine wp_region_any (by kernel_rfl) ?_; change wpAny _ _ _ _ _ _ _ (World.drew v2); refine any_of_anyG (late := fun j => [9, 10].contains j) (S := fun wS => Below v2.heap.size v2 wS) _ _ _ _ ?_
      have S0 := (Below.refl v2.heap.size v2).drew
      refine anyG_takes (is := [0, 1, 2, 3, 4]) (vs := [_, _, _, .int .i64 (tkq S 0), _]) (m := 6) (listed2 := #[true, true, true, true, true, false, false, false, false, false, false]) (a2 := ⟨#[_, _, _, _, _, _, _, _, _, _, _, _, _, _, _, _, _, _, _, _, _, _, _, _, _, _, _, _, _, _, _, _, _, _, _, _, _, _, _, _, _, _, _, _, _, _, _, _, _, _, _, _, _, _, _, _, _], _⟩) (by kernel_rfl) (fun j hj => by first | (simp at hj; done) | (simp at hj; simp; omega)) (by kernel_rfl) (fun _ _ _ _ _ h => h) (Ys.cons rfl (Or.inl ⟨by rfl, fun W1 hW1 => by first | rfl | (go_simp; done) | (go_simp; with_reducible rfl)⟩) (Ys.cons rfl (Or.inl ⟨by rfl, fun W1 hW1 => by first | rfl | (go_simp; done) | (go_simp; with_reducible rfl)⟩) (Ys.cons rfl (Or.inl ⟨by rfl, fun W1 hW1 => by first | rfl | (go_simp; done) | (go_simp; with_reducible rfl)⟩) (Ys.cons rfl (Or.inl ⟨by rfl, fun W1 hW1 => by have c := (hW1.cell (p := ⟨b, off, none⟩) HBB.out).trans C0.out; go_simp⟩) (Ys.cons rfl (Or.inl ⟨by rfl, fun W1 hW1 => by first | rfl | (go_simp; done) | (go_simp; with_reducible rfl)⟩) (Ys.nil)))))) (S0) (by rfl) (by rfl) ?_
      refine anyG_takes (is := [5, 6, 7, 8]) (vs := [_, _, .int .i64 (vlq S 0), _]) (m := 2) (listed2 := #[true, true, true, true, true, true, true, true, true, false, false]) (a2 := ⟨#[_, _, _, _, _, _, _, _, _, _, _, _, _, _, _, _, _, _, _, _, _, _, _, _, _, _, _, _, _, _, _, _, _, _, _, _, _, _, _, _, _, _, _, _, _, _, _, _, _, _, _, _, _, _, _, _, _], _⟩) (by kernel_rfl) (fun j hj => by first | (simp at hj; done) | (simp at hj; simp; omega)) (by kernel_rfl) (fun _ _ _ _ _ h => h) (Ys.cons rfl (Or.inl ⟨by rfl, fun W1 hW1 => by first | rfl | (go_simp; done) | (go_simp; with_reducible rfl)⟩) (Ys.cons rfl (Or.inl ⟨by rfl, fun W1 hW1 => by first | rfl | (go_simp; done) | (go_simp; with_reducible rfl)⟩) (Ys.cons rfl (Or.inl ⟨by rfl, fun W1 hW1 => by have c := (hW1.cell (p := ⟨b, off + 1, none⟩) HBB.out).trans C1.out; go_simp⟩) (Ys.cons rfl (Or.inl ⟨by rfl, fun W1 hW1 => by first | rfl | (go_simp; done) | (go_simp; with_reducible rfl)⟩) (Ys.nil))))) (S0) (by rfl) (by rfl) ?_
      refine anyG_of_any _ _ _ _ (by kernel_rfl) ?_
      refine any_one (k := 9) (by kernel_rfl) rfl (by rfl) (fun Q2 hQ2 => ?_); go_wp2_with (refine wpList_store_row rfl 42 (.tmp 2) (.tmp 25) rfl w.heap.size _ _ _ rfl rfl (D2.out.call (S0)).1 (by rfl) (by kernel_rfl) (by simp [Value.oneCell']) ?_; intro w9 hb9 hg9); (try refine hQ2 _ _ ?_); (try clear hQ2 Q2)
      refine wpAny_take (i := 10) (v := _) rfl (by kernel_rfl) (by kernel_rfl) (by kernel_rfl) (fun _ _ _ h => h) (Or.inl ⟨by rfl, fun W => by rfl⟩) ?_
      refine wpAny_done (by kernel_rfl) ?_ _
      go_wp2
      refine bodyPost_ret (results_row_tmp rfl _ _ w.heap.size _ _ _ rfl hb9 Try.underlying42 rfl (by kernel_rfl)) rfl ⟨rfl, (D2.out.call (S0)).2.trans (Only.below hg9 (by omega) (D2.out.call (S0)).2.size)⟩
    · have e1 : lineS S = ⟨midq (lateq S), meanq (valq (lateq S)), meanq (valq (lateq S)) - meanq (valq (earlyq S)), midq (lateq S) - midq (earlyq S)⟩ := by unfold lineS; rw [if_neg h0, if_neg h1]
      rw [e1] at HG ⊢
      clear e1
      obtain ⟨n, h, d, hn3, hnd, hdn0, h1h, hhd, hhalf⟩ : ∃ n h d : Nat, S.length = n ∧ n ≤ d + h ∧ d + h ≤ n ∧ 1 ≤ h ∧ h ≤ d ∧ S.length / 2 = h := ⟨S.length, S.length / 2, S.length - S.length / 2, rfl, by omega, by omega, by omega, by omega, rfl⟩
      have HN3 := Lib.hid hn3
      have HEa := Lib.hid (show earlyq S = S.take h by unfold earlyq; rw [hhalf])
      have HLa := Lib.hid (show lateq S = S.drop d by unfold lateq; rw [show S.length - S.length / 2 = d by omega])
      have FE := Lib.hid (show Fin (earlyq S) by rw [HEa.out]; exact HF.out.take h)
      have FL := Lib.hid (show Fin (lateq S) by rw [HLa.out]; exact HF.out.drop d)
      have lE := Lib.hid (show (earlyq S).length = h by rw [HEa.out, List.length_take]; omega)
      have lL := Lib.hid (show (lateq S).length = h by rw [HLa.out, List.length_drop]; omega)
      have mE := mean_bd FE.out (by rw [lE.out]; omega)
      have mL := mean_bd FL.out (by rw [lL.out]; omega)
      have b1 := mid_bd FE.out (by rw [lE.out]; omega)
      have b2 := mid_bd FL.out (by rw [lL.out]; omega)
      obtain ⟨b3, b4, b5, b6⟩ := b1
      obtain ⟨b7, b8, b9, b10⟩ := b2
      have q1 : 0 ≤ midq (earlyq S) ∧ midq (earlyq S) ≤ 9223372036854775807 := by omega
      have q2 : 0 ≤ midq (lateq S) ∧ midq (lateq S) ≤ 9223372036854775807 := by omega
      clear b3 b4 b5 b6 b7 b8 b9 b10
      have HWE := Lib.hid (fun W A c hW => ref16_Mean A h c (earlyq S) W hW (fun x hx => (FE.out.2 x hx).1) (by have := HSl.out; omega))
      have HWL := Lib.hid (fun W A c hW => ref16_Mean A h c (lateq S) W hW (fun x hx => (FL.out.2 x hx).1) (by have := HSl.out; omega))
      have HME := Lib.hid (fun W A c hW => ref52_middle A h c (earlyq S) W hW FE.out h1h (by have := HSl.out; omega))
      have HML := Lib.hid (fun W A c hW => ref52_middle A h c (lateq S) W hW FL.out h1h (by have := HSl.out; omega))
      generalize meanq (valq (earlyq S)) = ME at *
      generalize meanq (valq (lateq S)) = ML at *
      generalize midq (earlyq S) = IE at *
      generalize midq (lateq S) = IL at *
      have hw0 : (n : Int) / 2 = (h : Int) := by omega
      have hw1 : (n : Int) - (h : Int) = (d : Int) := by omega
      have hw3 : IntKind.i64.wrap ((n : Int) - (h : Int)) = (d : Int) := by rw [hw1]; exact IntWalk.i64_in _ (by have := HSl.out; omega)
      have hhn : h ≤ n := by omega
      have hdn : d ≤ n := by omega
      have hsm : n ≤ 200 := by have := HSl.out; omega
      have dn0 : ((n : Int) == 0) = false := by simp; omega
      have dn1 : ((n : Int) == 1) = false := by simp; omega
      clear h0 h1 hn3 hhalf
      have hwm : IntKind.i64.wrap (ML - ME) = ML - ME := IntWalk.i64_in _ (by omega)
      have hwi : IntKind.i64.wrap (IL - IE) = IL - IE := IntWalk.i64_in _ (by omega)
      have HWm := Lib.hid hwm
      have HWi := Lib.hid hwi
      clear hwm hwi
      have HNH := Lib.hid (show n - d = h by omega)
      go_enter Try.func24, Try.ntmps24
      focus (go_upto_region 6 with (go_at_call 21; refine (HO.out _ (slice_keep HS.out D0.out.2)).mono ?_; rintro e v2 ⟨A2, n2, c2, rfl, hs2, hb2, -⟩; have D2 := Lib.hid (D0.out.call hb2); have hn2 : n2 = n := (by rw [← hs2.1, HN3.out]); subst hn2; have L2 := Lib.hid hs2; clear hs2 hb2))
      obtain ⟨b, off, rfl, -, -, -⟩ := ends_at L2.out (by omega)
      have hc := L2.out.2.1
      have hc2 : c2 ≤ 9223372036854775807 := by have := L2.out.2.2.1; unfold maxLen at this; omega
      have hdc : d < c2 := by omega
      have hdc2 : ¬ c2 = d := by omega
      have hdc3 : ¬ c2 ≤ d := by omega
      have PE := Lib.hid (show SmpsAre v2 (some ⟨b, off, none⟩) h c2 (earlyq S) by rw [HEa.out]; exact slice_take L2.out hhn)
      have PL := Lib.hid (show SmpsAre v2 (some ⟨b, off + d * 2, none⟩) h (c2 - d) (lateq S) by rw [HLa.out]; have := slice_drop L2.out hdn; rwa [show n2 - d = h by omega] at this)
      obtain ⟨mE1, mE2⟩ := mE
      obtain ⟨mL1, mL2⟩ := mL
      obtain ⟨q11, q12⟩ := q1
      obtain ⟨q21, q22⟩ := q2
      go_wp2_with fail
      rw [HNH.out]
      clear hw0 hw1 hw3 dn0 dn1 hdc2 hdc3 L2
      refine (HML.out _ _ _ PL.out).mono ?_
      rintro e v3 ⟨rfl, hb3⟩
      have D3 := Lib.hid (D2.out.call hb3)
      have PE3 := Lib.hid (slice_keep PE.out hb3)
      have PL3 := Lib.hid (slice_keep PL.out hb3)
      clear hb3 PE PL D2
      go_wp2_with fail
      refine (HWL.out _ _ _ PL3.out).mono ?_
      rintro e v4 ⟨rfl, hb4⟩
      have D4 := Lib.hid (D3.out.call hb4)
      have PE4 := Lib.hid (slice_keep PE3.out hb4)
      clear hb4 PE3 PL3 D3
      focus (go_upto_region 9 with (fail))
      have X5 := Lib.hid (LI3.new D4.out #[.int .i64 IL, .int .i64 ML, .int .i64 0, .int .i64 0])
      have PE5 := Lib.hid (slice_keep PE4.out ((Below.refl _ v4).alloc (Nat.le_refl _) (.cells #[.int .i64 IL, .int .i64 ML, .int .i64 0, .int .i64 0] 42)))
      have HGx := Lib.hid (show b < v4.heap.size from ((PE4.out.2.2.2.2 _ rfl).2 (by omega)).1)
      clear D4 PE4
      generalize v4.heap.size = gx at *
      generalize v4.alloc (.cells #[.int .i64 IL, .int .i64 ML, .int .i64 0, .int .i64 0] 42) = W5 at *
      have hwm := HWm.out
      refine wp_region_any (by kernel_rfl) ?_; change wpAny _ _ _ _ _ _ _ (World.drew W5); refine any_of_anyG (late := fun j => [6].contains j) (S := fun wS => Below W5.heap.size W5 wS) _ _ _ _ ?_
      have S0 := (Below.refl W5.heap.size W5).drew
      refine anyG_takes (is := [0, 1, 2]) (vs := [_, .int .i64 ML, _]) (m := 4) (listed2 := #[true, true, true, false, false, false, false]) (a2 := ⟨#[_, _, _, _, _, _, _, _, _, _, _, _, _, _, _, _, _, _, _, _, _, _, _, _, _, _, _, _, _, _, _, _, _, _, _, _, _, _, _, _, _, _, _, _, _, _, _, _, _, _, _, _, _, _, _, _, _], _⟩) (by kernel_rfl) (fun j hj => by first | (simp at hj; done) | (simp at hj; simp; omega)) (by kernel_rfl) (fun _ _ _ _ _ h => h) (Ys.cons rfl (Or.inl ⟨by rfl, fun W1 hW1 => by first | rfl | (go_simp; done) | (go_simp; with_reducible rfl)⟩) (Ys.cons rfl (Or.inl ⟨by rfl, fun W1 hW1 => by have c := (X5.out.call hW1).2.1.cellv (i := 1) (v := .int .i64 ML) rfl; go_simp⟩) (Ys.cons rfl (Or.inl ⟨by rfl, fun W1 hW1 => by first | rfl | (go_simp; done) | (go_simp; with_reducible rfl)⟩) (Ys.nil)))) (S0) (by rfl) (by rfl) ?_
      refine anyG_one (k := 3) (by kernel_rfl) rfl (by rfl) (fun Q2 hQ2 => ?_); go_wp2_with (go_at_call 54; refine (HWE.out _ _ _ (slice_keep PE5.out (S0))).mono ?_; rintro e v6 ⟨rfl, hb6⟩; have X6 := Lib.hid ((X5.out.call (S0)).call hb6); have PE6 := Lib.hid (slice_keep (slice_keep PE5.out (S0)) hb6); have f2 := X6.out.2.1.frozen 2; have r2 := X6.out.2.1.cellv (i := 2) (v := .int .i64 0) rfl); refine hQ2 _ _ (fun _ => S0.trans (hb6.mono S0.size)) ?_; clear hQ2 Q2
      have S6 := S0.trans (hb6.mono S0.size)
      refine anyG_one (k := 4) (by kernel_rfl) rfl (by rfl) (fun Q2 hQ2 => ?_); go_wp2_with fail; refine hQ2 _ _ (fun _ => S6) ?_; clear hQ2 Q2
      refine anyG_takes (is := [5]) (vs := [_]) (m := 1) (listed2 := #[true, true, true, true, true, true, false]) (a2 := ⟨#[_, _, _, _, _, _, _, _, _, _, _, _, _, _, _, _, _, _, _, _, _, _, _, _, _, _, _, _, _, _, _, _, _, _, _, _, _, _, _, _, _, _, _, _, _, _, _, _, _, _, _, _, _, _, _, _, _], _⟩) (by kernel_rfl) (fun j hj => by first | (simp at hj; done) | (simp at hj; simp; omega)) (by kernel_rfl) (fun _ _ _ _ _ h => h) (Ys.cons rfl (Or.inl ⟨by rfl, fun W1 hW1 => by first | rfl | (go_simp; done) | (go_simp; with_reducible rfl)⟩) (Ys.nil)) (S6) (by rfl) (by rfl) ?_
      refine anyG_of_any _ _ _ _ (by kernel_rfl) ?_
      refine any_one (k := 6) (by kernel_rfl) rfl (by rfl) (fun Q2 hQ2 => ?_); go_wp2_with fail; (try refine hQ2 _ _ ?_); (try clear hQ2 Q2)
      refine wpAny_done (by kernel_rfl) ?_ _
      have X7 := Lib.hid (show LI3 w (v6.setCell ⟨gx, 2, none⟩ (.int .i64 (ML - ME))) 42 gx #[.int .i64 IL, .int .i64 ML, .int .i64 (ML - ME), .int .i64 0] from X6.out.set 2 (.int .i64 (ML - ME)))
      have hu7 : Upd (fun k => k = gx) v6 (v6.setCell ⟨gx, 2, none⟩ (.int .i64 (ML - ME))) := (Upd.refl (fun k => k = gx) v6).setCell (p := ⟨gx, 2, none⟩) (.inl rfl) _
      have PE7 := Lib.hid (slice_upd PE6.out hu7 (fun a ha => by cases ha; have := HGx.out; simp; omega))
      clear hu7 X6 PE6 f2 r2
      focus (go_upto_region 10 with (fail))
      generalize v6.setCell ⟨gx, 2, none⟩ (.int .i64 (ML - ME)) = W7 at *
      clear hwm
      have hwi := HWi.out
      refine wp_region_any (by kernel_rfl) ?_; change wpAny _ _ _ _ _ _ _ (World.drew W7); refine any_of_anyG (late := fun j => [6].contains j) (S := fun wS => Below W7.heap.size W7 wS) _ _ _ _ ?_
      have S0 := (Below.refl W7.heap.size W7).drew
      refine anyG_takes (is := [0, 1, 2]) (vs := [_, .int .i64 IL, _]) (m := 4) (listed2 := #[true, true, true, false, false, false, false]) (a2 := ⟨#[_, _, _, _, _, _, _, _, _, _, _, _, _, _, _, _, _, _, _, _, _, _, _, _, _, _, _, _, _, _, _, _, _, _, _, _, _, _, _, _, _, _, _, _, _, _, _, _, _, _, _, _, _, _, _, _, _], _⟩) (by kernel_rfl) (fun j hj => by first | (simp at hj; done) | (simp at hj; simp; omega)) (by kernel_rfl) (fun _ _ _ _ _ h => h) (Ys.cons rfl (Or.inl ⟨by rfl, fun W1 hW1 => by first | rfl | (go_simp; done) | (go_simp; with_reducible rfl)⟩) (Ys.cons rfl (Or.inl ⟨by rfl, fun W1 hW1 => by have c := (X7.out.call hW1).2.1.cellv (i := 0) (v := .int .i64 IL) rfl; go_simp⟩) (Ys.cons rfl (Or.inl ⟨by rfl, fun W1 hW1 => by first | rfl | (go_simp; done) | (go_simp; with_reducible rfl)⟩) (Ys.nil)))) (S0) (by rfl) (by rfl) ?_
      refine anyG_one (k := 3) (by kernel_rfl) rfl (by rfl) (fun Q2 hQ2 => ?_); go_wp2_with (go_at_call 53; refine (HME.out _ _ _ (slice_keep PE7.out (S0))).mono ?_; rintro e v8 ⟨rfl, hb8⟩; have X8 := Lib.hid ((X7.out.call (S0)).call hb8); have f3 := X8.out.2.1.frozen 3; have r3 := X8.out.2.1.cellv (i := 3) (v := .int .i64 0) rfl); refine hQ2 _ _ (fun _ => S0.trans (hb8.mono S0.size)) ?_; clear hQ2 Q2
      have S8 := S0.trans (hb8.mono S0.size)
      refine anyG_one (k := 4) (by kernel_rfl) rfl (by rfl) (fun Q2 hQ2 => ?_); go_wp2_with fail; refine hQ2 _ _ (fun _ => S8) ?_; clear hQ2 Q2
      refine anyG_takes (is := [5]) (vs := [_]) (m := 1) (listed2 := #[true, true, true, true, true, true, false]) (a2 := ⟨#[_, _, _, _, _, _, _, _, _, _, _, _, _, _, _, _, _, _, _, _, _, _, _, _, _, _, _, _, _, _, _, _, _, _, _, _, _, _, _, _, _, _, _, _, _, _, _, _, _, _, _, _, _, _, _, _, _], _⟩) (by kernel_rfl) (fun j hj => by first | (simp at hj; done) | (simp at hj; simp; omega)) (by kernel_rfl) (fun _ _ _ _ _ h => h) (Ys.cons rfl (Or.inl ⟨by rfl, fun W1 hW1 => by first | rfl | (go_simp; done) | (go_simp; with_reducible rfl)⟩) (Ys.nil)) (S8) (by rfl) (by rfl) ?_
      refine anyG_of_any _ _ _ _ (by kernel_rfl) ?_
      refine any_one (k := 6) (by kernel_rfl) rfl (by rfl) (fun Q2 hQ2 => ?_); go_wp2_with fail; (try refine hQ2 _ _ ?_); (try clear hQ2 Q2)
      refine wpAny_done (by kernel_rfl) ?_ _
      have X9 := Lib.hid (show LI3 w (v8.setCell ⟨gx, 3, none⟩ (.int .i64 (IL - IE))) 42 gx #[.int .i64 IL, .int .i64 ML, .int .i64 (ML - ME), .int .i64 (IL - IE)] from X8.out.set 3 (.int .i64 (IL - IE)))
      go_wp2_with (first
        | (refine Blk.load rfl 42 (.tmp 7) rfl _ _ _ _ rfl X9.out.2.1 Try.underlying42 rfl (by kernel_rfl) ?_)
        | (refine wpList_store_row rfl 42 (.tmp 2) (.tmp 56) rfl w.heap.size _ _ _ rfl rfl X9.out.1 (by rfl) (by kernel_rfl) (by simp [Value.oneCell']) ?_; intro w9 hb9 hg9))
      refine bodyPost_ret (results_row_tmp rfl _ _ w.heap.size _ _ _ rfl hb9 Try.underlying42 rfl (by kernel_rfl)) rfl ⟨rfl, X9.out.2.2.2.trans (Only.below hg9 (by omega) X9.out.2.2.2.size)⟩
end Go.Proofs.Ytfeccjjheiillaa
