/- Several texts in one. -/
import Derived.Test.YtfeccjjheiillaaKNodeNone3
import Derived.Test.YtfeccjjheiillaaRegT
/- Chapter 17: what a node tells, as the law asks it. (fast region) -/
namespace Go.Proofs.Ytfeccjjheiillaa
open Go.RowKit
set_option linter.unusedSimpArgs false
set_option linter.unusedVariables false
set_option maxHeartbeats 4000000
set_option maxRecDepth 100000
theorem eq_polrow (x : Pol) : ∀ W : World, (binOp .eql 62 (.agg x.row) (.agg x.row)).run Try.prog W = .ok (.bool true) W := by
  have h2 := eq_ints (t := 62) (by kernel_rfl) (by kernel_rfl) (by kernel_rfl) (by kernel_rfl) [.i64, .i64, .i64, .i64, .i64, .i64] [x.min, x.max, x.target, x.tol, x.window, x.hold] [x.min, x.max, x.target, x.tol, x.window, x.hold] (by kernel_rfl) (by kernel_rfl) (by kernel_rfl) _ _ rfl rfl true (by simp)
  exact fun W => (h2.2.1 W).trans rfl
/-- What a node answers in a world. -/
structure TellsN (W : World) (p : Option Addr) (x : Ld) : Prop where
  ts : Calls Try.prog 65 #[.pointer p] W (CloneS W x.smps)
  th : Calls Try.prog 75 #[.pointer p] W (CloneA W x.past)
  tp : Calls Try.prog 73 #[.pointer p] W fun e w' => e = .returned (.tuple #[.agg x.pol.row, .bool x.ruled]) ∧ Below W.heap.size W w'
  tv : Calls Try.prog 64 #[.pointer p] W fun e w' => e = .returned (.int .i64 x.ver) ∧ W = w'
def Tells (w : World) (p : Option Addr) (x : Ld) : Prop := ∀ W, Below w.heap.size w W → TellsN W p x
theorem tells_node {w : World} {p : Option Addr} {F : Nat → Prop} {c : Cfg} {x : Ld} {fr : Bool} (h : NodeAt w p F c x fr) : Tells w p x := fun W hb =>
  ⟨node_Samples p F c x fr W (h.call hb), node_Past p F c x fr W (h.call hb), node_Policy p F c x fr W (h.call hb), node_Version p F c x fr W (h.call hb)⟩
theorem tells_nil (w : World) : Tells w none ld0 := fun W _ =>
  ⟨(node_Samples_nil W).mono (by rintro e w' ⟨rfl, rfl⟩; exact CloneS.mk (Own.nil _ _ _ _ _) (Below.refl _ _)), (node_Past_nil W).mono (by rintro e w' ⟨rfl, rfl⟩; exact CloneA.mk (Own.nil _ _ _ _ _) (Below.refl _ _)), node_Policy_nil W, node_Version_nil W⟩
theorem law_told (p : Option Addr) (x : Ld) (s h : Value) (w : World) (ht : Tells w p x) (hl : LdAt w x s h) (hn : x.smps.length ≤ 1000) (hm : x.past.length ≤ 1000) :
    Calls Try.prog 34 #[.pointer p, .agg (x.row s h)] w fun e w' => e = .returned (.bool true) ∧ Below w.heap.size w w' := by
  obtain ⟨A, n, cp, A2, n2, c2, rfl, rfl, hs, hh⟩ := hl
  have HS := Lib.hid hs
  have HH := Lib.hid hh
  have B0 := Lib.hid (show Below w.heap.size w (w.alloc (.cells (x.row (.slice A n cp) (.slice A2 n2 c2)) ldT)) by go_grown)
  have X0 := Lib.hid (Blk.new w ldT (x.row (.slice A n cp) (.slice A2 n2 c2)))
  have HT := Lib.hid ht
  have HP := Lib.hid ((ht _ B0.out).tp)
  have HQ := Lib.hid (eq_polrow x.pol)
  clear hs hh ht
  go_enter Try.func34, Try.ntmps34
  focus (go_upto_region 2 with (first
    | (go_at_call 73; refine HP.out.mono ?_; rintro e w1 ⟨rfl, hb1⟩; have E1 := Lib.hid (B0.out.trans (hb1.mono B0.out.size)); have X1 := Lib.hid (X0.out.call hb1); have N1 := Lib.hid (Blk.new w1 62 #[.int .i64 0, .int .i64 0, .int .i64 0, .int .i64 0, .int .i64 0, .int .i64 0]); clear hb1)
    | (refine wpList_store_row rfl 62 (.tmp 5) (.tmp 10) rfl w1.heap.size _ _ _ rfl rfl N1.out (by rfl) (by kernel_rfl) (by simp [Value.oneCell']) ?_; intro w2 hb2 hg2; have P2 := Lib.hid hb2; have X2 := Lib.hid ((X1.out.alloc (.cells #[.int .i64 0, .int .i64 0, .int .i64 0, .int .i64 0, .int .i64 0, .int .i64 0] 62)).grown hg2 (by intro e; injection e with e; have := X1.out.lt; omega)); have E2 := Lib.hid ((E1.out.alloc E1.out.size (.cells #[.int .i64 0, .int .i64 0, .int .i64 0, .int .i64 0, .int .i64 0, .int .i64 0] 62)).trans (Only.below hg2 E1.out.size (by have := E1.out.size; simp; omega))); clear hb2 hg2)))
  refine wp_region_any (by kernel_rfl) ?_; change wpAny _ _ _ _ _ _ _ (World.drew w2); refine any_of_anyG (late := fun _ => false) (S := fun wS => Below w2.heap.size w2 wS) _ _ _ _ ?_
  have S0 := (Below.refl w2.heap.size w2).drew
  refine anyG_takes (is := [0, 2, 3]) (vs := [_, _, .slice A n cp]) (m := 29) (listed2 := #[true, false, true, true, false, false, false, false, false, false, false, false, false, false, false, false, false, false, false, false, false, false, false, false, false, false, false, false, false, false, false, false]) (a2 := ⟨#[_, _, _, _, _, _, _, _, _, _, _, _, _, _, _, _, _, _, _, _, _, _, _, _, _, _, _, _, _, _, _, _, _, _, _, _, _, _, _, _, _, _, _], _⟩) (by kernel_rfl) (fun j hj => by simp at hj) (by kernel_rfl) (fun _ _ _ _ _ h => h) (Ys.cons rfl (Or.inl ⟨by rfl, fun W1 hW1 => by first | rfl | (go_simp; done) | (go_simp; with_reducible rfl)⟩) (Ys.cons rfl (Or.inl ⟨by rfl, fun W1 hW1 => by first | rfl | (go_simp; done) | (go_simp; with_reducible rfl)⟩) (Ys.cons rfl (Or.inl ⟨by rfl, fun W1 hW1 => by have c := (X2.out.call hW1).cellv (i := 0) (v := .slice A n cp) rfl; go_simp⟩) (Ys.nil)))) (S0) (by rfl) (by rfl) ?_
  refine anyG_one (k := 1) (by kernel_rfl) rfl (by rfl) (fun Q2 hQ2 => ?_); go_wp2_with (go_at_call 65; refine ((HT.out _ (E2.out.trans (Below.mono (S0) E2.out.size))).ts).mono ?_; rintro e v3 ⟨A3, n3, c3, rfl, ho3, hb3⟩; have L3 := Lib.hid (ho3.is smp_len)); refine hQ2 _ _ (fun _ => S0.trans (hb3.mono S0.size)) ?_; clear hQ2 Q2
  have S3 := S0.trans (hb3.mono S0.size)
  refine anyG_one (k := 4) (by kernel_rfl) rfl (by rfl) (fun Q2 hQ2 => ?_); go_wp2_with (go_at_call 19; refine (ref08_Same A3 A n3 c3 n cp x.smps x.smps _ L3.out (slice_keep HS.out (E2.out.trans (Below.mono (S3) E2.out.size)))).mono ?_; rw [show decide (x.smps = x.smps) = true from by simp]; rintro e v4 ⟨rfl, hb4⟩); refine hQ2 _ _ (fun _ => S3.trans (hb4.mono S3.size)) ?_; clear hQ2 Q2
  have S4 := S3.trans (hb4.mono S3.size)
  refine anyG_takes (is := [5, 6, 8, 9]) (vs := [.bool true, _, _, .slice A2 n2 c2]) (m := 23) (listed2 := #[true, true, true, true, true, true, true, false, true, true, false, false, false, false, false, false, false, false, false, false, false, false, false, false, false, false, false, false, false, false, false, false]) (a2 := ⟨#[_, _, _, _, _, _, _, _, _, _, _, _, _, _, _, _, _, _, _, _, _, _, _, _, _, _, _, _, _, _, _, _, _, _, _, _, _, _, _, _, _, _, _], _⟩) (by kernel_rfl) (fun j hj => by simp at hj) (by kernel_rfl) (fun _ _ _ _ _ h => h) (Ys.cons rfl (Or.inl ⟨by rfl, fun W1 hW1 => by rfl⟩) (Ys.cons rfl (Or.inl ⟨by rfl, fun W1 hW1 => by first | rfl | (go_simp; done) | (go_simp; with_reducible rfl)⟩) (Ys.cons rfl (Or.inl ⟨by rfl, fun W1 hW1 => by first | rfl | (go_simp; done) | (go_simp; with_reducible rfl)⟩) (Ys.cons rfl (Or.inl ⟨by rfl, fun W1 hW1 => by have c := (X2.out.call hW1).cellv (i := 1) (v := .slice A2 n2 c2) rfl; go_simp⟩) (Ys.nil))))) (S4) (by rfl) (by rfl) ?_
  refine anyG_one (k := 7) (by kernel_rfl) rfl (by rfl) (fun Q2 hQ2 => ?_); go_wp2_with (go_at_call 75; refine ((HT.out _ (E2.out.trans (Below.mono (S4) E2.out.size))).th).mono ?_; rintro e v5 ⟨A5, n5, c5, rfl, ho5, hb5⟩; have L5 := Lib.hid (ownA_is ho5)); refine hQ2 _ _ (fun _ => S4.trans (hb5.mono S4.size)) ?_; clear hQ2 Q2
  have S5 := S4.trans (hb5.mono S4.size)
  refine anyG_one (k := 10) (by kernel_rfl) rfl (by rfl) (fun Q2 hQ2 => ?_); go_wp2_with (go_at_call 74; refine (ref14_Same A5 A2 n5 c5 n2 c2 x.past x.past _ L5.out (slice_keep HH.out (E2.out.trans (Below.mono (S5) E2.out.size)))).mono ?_; rw [show decide (x.past = x.past) = true from by simp]; rintro e v6 ⟨rfl, hb6⟩); refine hQ2 _ _ (fun _ => S5.trans (hb6.mono S5.size)) ?_; clear hQ2 Q2
  have S6 := S5.trans (hb6.mono S5.size)
  refine anyG_takes (is := [11, 12, 13, 14, 15]) (vs := [.bool true, .bool true, _, _, .agg x.pol.row]) (m := 16) (listed2 := #[true, true, true, true, true, true, true, true, true, true, true, true, true, true, true, true, false, false, false, false, false, false, false, false, false, false, false, false, false, false, false, false]) (a2 := ⟨#[_, _, _, _, _, _, _, _, _, _, _, _, _, _, _, _, _, _, _, _, _, _, _, _, _, _, _, _, _, _, _, _, _, _, _, _, _, _, _, _, _, _, _], _⟩) (by kernel_rfl) (fun j hj => by simp at hj) (by kernel_rfl) (fun _ _ _ _ _ h => h) (Ys.cons rfl (Or.inl ⟨by rfl, fun W1 hW1 => by rfl⟩) (Ys.cons rfl (Or.inl ⟨by rfl, fun W1 hW1 => by rfl⟩) (Ys.cons rfl (Or.inl ⟨by rfl, fun W1 hW1 => exec_load (ty := 62) (x := .tmp 5) rfl rfl (run_loadAt_blk _ _ _ _ _ _ (P2.out.call hW1) Try.underlying62 rfl (by first | kernel_rfl | exact info_num _))⟩) (Ys.cons rfl (Or.inl ⟨by rfl, fun W1 hW1 => by first | rfl | (go_simp; done) | (go_simp; with_reducible rfl)⟩) (Ys.cons rfl (Or.inl ⟨by rfl, fun W1 hW1 => by have c0 := (X2.out.call hW1).cellv (i := 2) (v := .int .i64 x.pol.min) rfl; have c1 := (X2.out.call hW1).cellv (i := 3) (v := .int .i64 x.pol.max) rfl; have c2 := (X2.out.call hW1).cellv (i := 4) (v := .int .i64 x.pol.target) rfl; have c3 := (X2.out.call hW1).cellv (i := 5) (v := .int .i64 x.pol.tol) rfl; have c4 := (X2.out.call hW1).cellv (i := 6) (v := .int .i64 x.pol.window) rfl; have c5 := (X2.out.call hW1).cellv (i := 7) (v := .int .i64 x.pol.hold) rfl; go_simp⟩) (Ys.nil)))))) (S6) (by rfl) (by rfl) ?_
  refine anyG_takes (is := [16, 17, 18, 19, 20]) (vs := [.bool true, .bool true, .bool true, .bool x.ruled, .pointer (some ⟨w.heap.size, 8, none⟩)]) (m := 11) (listed2 := #[true, true, true, true, true, true, true, true, true, true, true, true, true, true, true, true, true, true, true, true, true, false, false, false, false, false, false, false, false, false, false, false]) (a2 := ⟨#[_, _, _, _, _, _, _, _, _, _, _, _, _, _, _, _, _, _, _, _, _, _, _, _, _, _, _, _, _, _, _, _, _, _, _, _, _, _, _, _, _, _, _], _⟩) (by kernel_rfl) (fun j hj => by simp at hj) (by kernel_rfl) (fun _ _ _ _ _ h => h) (Ys.cons rfl (Or.inl ⟨by rfl, fun W1 hW1 => by have q := HQ.out; go_simp⟩) (Ys.cons rfl (Or.inl ⟨by rfl, fun W1 hW1 => by rfl⟩) (Ys.cons rfl (Or.inl ⟨by rfl, fun W1 hW1 => by rfl⟩) (Ys.cons rfl (Or.inl ⟨by rfl, fun W1 hW1 => by rfl⟩) (Ys.cons rfl (Or.inl ⟨by rfl, fun W1 hW1 => by first | (go_simp; done) | kernel_rfl⟩) (Ys.nil)))))) (S6) (by rfl) (by rfl) ?_
  refine anyG_takes (is := [21, 22, 23, 24, 25]) (vs := [.bool x.ruled, .bool true, .bool true, .bool true, _]) (m := 6) (listed2 := #[true, true, true, true, true, true, true, true, true, true, true, true, true, true, true, true, true, true, true, true, true, true, true, true, true, true, false, false, false, false, false, false]) (a2 := ⟨#[_, _, _, _, _, _, _, _, _, _, _, _, _, _, _, _, _, _, _, _, _, _, _, _, _, _, _, _, _, _, _, _, _, _, _, _, _, _, _, _, _, _, _], _⟩) (by kernel_rfl) (fun j hj => by simp at hj) (by kernel_rfl) (fun _ _ _ _ _ h => h) (Ys.cons rfl (Or.inl ⟨by rfl, fun W1 hW1 => by have c := (X2.out.call hW1).cellv (i := 8) (v := .bool x.ruled) rfl; go_simp⟩) (Ys.cons rfl (Or.inl ⟨by rfl, fun W1 hW1 => by go_simp⟩) (Ys.cons rfl (Or.inl ⟨by rfl, fun W1 hW1 => by rfl⟩) (Ys.cons rfl (Or.inl ⟨by rfl, fun W1 hW1 => by rfl⟩) (Ys.cons rfl (Or.inl ⟨by rfl, fun W1 hW1 => by first | rfl | (go_simp; done) | (go_simp; with_reducible rfl)⟩) (Ys.nil)))))) (S6) (by rfl) (by rfl) ?_
  refine anyG_takes (is := [27, 28]) (vs := [.pointer (some ⟨w.heap.size, 9, none⟩), .int .i64 x.ver]) (m := 4) (listed2 := #[true, true, true, true, true, true, true, true, true, true, true, true, true, true, true, true, true, true, true, true, true, true, true, true, true, true, false, true, true, false, false, false]) (a2 := ⟨#[_, _, _, _, _, _, _, _, _, _, _, _, _, _, _, _, _, _, _, _, _, _, _, _, _, _, _, _, _, _, _, _, _, _, _, _, _, _, _, _, _, _, _], _⟩) (by kernel_rfl) (fun j hj => by simp at hj) (by kernel_rfl) (fun _ _ _ _ _ h => h) (Ys.cons rfl (Or.inl ⟨by rfl, fun W1 hW1 => by first | (go_simp; done) | kernel_rfl⟩) (Ys.cons rfl (Or.inl ⟨by rfl, fun W1 hW1 => by have c := (X2.out.call hW1).cellv (i := 9) (v := .int .i64 x.ver) rfl; go_simp⟩) (Ys.nil))) (S6) (by rfl) (by rfl) ?_
  refine anyG_one (k := 26) (by kernel_rfl) rfl (by rfl) (fun Q2 hQ2 => ?_); go_wp2_with (go_at_call 64; refine ((HT.out _ (E2.out.trans (Below.mono (S6) E2.out.size))).tv).mono ?_; rintro e v7 ⟨rfl, rfl⟩); refine hQ2 _ _ (fun _ => S6) ?_; clear hQ2 Q2
  refine anyG_takes (is := [29, 30, 31]) (vs := [.bool true, .bool true, .bool true]) (m := 0) (listed2 := #[true, true, true, true, true, true, true, true, true, true, true, true, true, true, true, true, true, true, true, true, true, true, true, true, true, true, true, true, true, true, true, true]) (a2 := ⟨#[_, _, _, _, _, _, _, _, _, _, _, _, _, _, _, _, _, _, _, _, _, _, _, _, _, _, _, _, _, _, _, _, _, _, _, _, _, _, _, _, _, _, _], _⟩) (by kernel_rfl) (fun j hj => by simp at hj) (by kernel_rfl) (fun _ _ _ _ _ h => h) (Ys.cons rfl (Or.inl ⟨by rfl, fun W1 hW1 => by go_simp⟩) (Ys.cons rfl (Or.inl ⟨by rfl, fun W1 hW1 => by rfl⟩) (Ys.cons rfl (Or.inl ⟨by rfl, fun W1 hW1 => by rfl⟩) (Ys.nil)))) (S6) (by rfl) (by rfl) ?_
  refine anyG_done (by kernel_rfl) ?_ _
  have E9 := Lib.hid (E2.out.trans (Below.mono (S6) E2.out.size))
  go_wp2
  go_ret
  exact ⟨rfl, E9.out⟩
end Go.Proofs.Ytfeccjjheiillaa
/- Chapter 17: an act, as the law does it. (fast region) -/
namespace Go.Proofs.Ytfeccjjheiillaa
open Go.RowKit
set_option linter.unusedSimpArgs false
set_option linter.unusedVariables false
set_option maxHeartbeats 4000000
set_option maxRecDepth 100000
theorem node_Freeze2 (p : Option Addr) (F : Nat → Prop) (c : Cfg) (x : Ld) (fr : Bool) (w : World) (h : NodeAt w p F c x fr) :
    Calls Try.prog 36 #[.pointer p] w (fun e w' => e = .returned (.pointer p) ∧ NodeAt w' p F c x true ∧ Upd F w w' ∧ (fr = true → Below w.heap.size w w')) := by
  have HM := Lib.hid (node_made p F c x fr w h)
  obtain ⟨g, gs, ph, rfl, hb, hF, hr⟩ := h.row
  have c10 := hb.cellv (i := 10) (v := .bool fr) rfl
  have f10 := hb.frozen 10
  have HR := Lib.hid hr
  have HB := Lib.hid hb
  clear h hb hr hF
  go_enter Try.func36, Try.ntmps36
  go_wp2_with (go_at_call 76; refine HM.out.mono ?_; rintro e w1 ⟨rfl, rfl⟩)
  go_ret
  have hB2 : Blk (w.setCell ⟨g, 10, none⟩ (.bool true)) g ndT (nrow x (.pointer (some ⟨gs, 0, none⟩)) (.pointer ph) true) := HB.out.set_ 10 _
  have hu := ((Upd.refl (fun k => k = g) w).setCell (p := ⟨g, 10, none⟩) (.inl rfl) (.bool true))
  obtain ⟨k1, k2⟩ := HR.out x true _ hB2 hu rfl rfl
  refine ⟨rfl, k1, k2, fun e => ?_⟩
  subst e
  refine ⟨hu.os, hu.tape, hu.output, hu.size, fun k hk => ?_⟩
  by_cases e : k = g
  · subst e; exact hB2.trans HB.out.symm
  · exact hu.block k hk e
def NRes2 (p : Option Addr) (F : Nat → Prop) (c : Cfg) (x : Ld) (fr : Bool) (y : Ld) (fr' : Bool) (w : World) (p' : Option Addr) (w' : World) : Prop := (∃ F', NodeAt w' p' F' c y fr' ∧ NStep F fr w w' F') ∨ (p' = p ∧ y = x ∧ fr' = fr ∧ NodeAt w' p F c x fr ∧ Below w.heap.size w w')
def nfr (c : Cfg) (x : Ld) (fr : Bool) (a : NAct) : Bool := if 0 ≤ a.kind ∧ a.kind ≤ 3 then (if (ndo c x a).ver = x.ver then fr else false) else true
theorem NRes.lift {p p' : Option Addr} {F : Nat → Prop} {c : Cfg} {x y : Ld} {fr : Bool} {w w0 w' : World} (h : NRes p F c x fr y w0 p' w') (hb : Below w.heap.size w w0) : NRes2 p F c x fr y (if y.ver = x.ver then fr else false) w p' w' := by
  rcases h with ⟨F', h1, h2, h3⟩ | ⟨rfl, rfl, h3, h4⟩
  · left
    rw [if_neg (by omega)]
    exact ⟨F', h1, h2.pre hb⟩
  · right
    rw [if_pos rfl]
    exact ⟨rfl, rfl, rfl, h3, hb.trans (h4.mono hb.size)⟩
def DoN (p : Option Addr) (F : Nat → Prop) (c : Cfg) (x : Ld) (fr : Bool) (a : NAct) (w : World) (e : Ending) (w' : World) : Prop := ∃ p', e = .returned (.tuple #[.pointer p', .int .i64 (nerr a), .int .i64 (if a.kind = 1 then goneq x a.tick else 0)]) ∧ NRes2 p F c x fr (ndo c x a) (nfr c x fr a) w p' w'
theorem DoN.eq {p : Option Addr} {F : Nat → Prop} {c : Cfg} {x : Ld} {fr : Bool} {a : NAct} {w : World} {Y : Ld} {E G : Int} (hy : ndo c x a = Y) (he : nerr a = E) (hg : (if a.kind = 1 then goneq x a.tick else 0) = G) (hk : 0 ≤ a.kind ∧ a.kind ≤ 3) :
    DoN p F c x fr a w = fun e w' => ∃ p', e = .returned (.tuple #[.pointer p', .int .i64 E, .int .i64 G]) ∧ NRes2 p F c x fr Y (if Y.ver = x.ver then fr else false) w p' w' := by
  unfold DoN nfr; rw [hg, hy, he, if_pos hk]
theorem ret_p3 {p : Option Addr} {a b c d : Int} (h1 : a = c) (h2 : b = d) : Ending.returned (.tuple #[.pointer p, .int .i64 a, .int .i64 b]) = .returned (.tuple #[.pointer p, .int .i64 c, .int .i64 d]) := by rw [h1, h2]
theorem law_do (p : Option Addr) (F : Nat → Prop) (c : Cfg) (x : Ld) (fr : Bool) (a : NAct) (w : World) (h : NodeAt w p F c x fr) (hc : c.okC) (k : Nat) (hx : LdOk c x k) (hk : k ≤ 100) :
    Calls Try.prog 32 #[.pointer p, .agg a.row] w (DoN p F c x fr a w) := by
  have B0 := Lib.hid (show Below w.heap.size w (w.alloc (.cells a.row acT)) by go_grown)
  have N0 := Lib.hid (h.call B0.out)
  have hX := Blk.new w acT a.row
  have hv : 0 ≤ x.ver ∧ x.ver ≤ 1000 := ⟨hx.v0, by have := hx.v1; omega⟩
  have HSrt := Lib.hid hx.srt
  by_cases k0 : a.kind = 0
  · have hy : ndo c x a = nput c x a.tick a.value := by unfold ndo; rw [if_pos k0]
    have he : nerr a = serErr a.tick a.value := by unfold nerr; rw [if_pos k0]
    have HQ := Lib.hid (DoN.eq (p := p) (F := F) (fr := fr) (w := w) hy he (G := 0) (by rw [if_neg (by omega)]) (by omega))
    have HP := Lib.hid (node_Put p F c x fr a.tick a.value _ N0.out hc hv)
    obtain ⟨kind, tick, value, pol, adv⟩ := a
    obtain rfl : kind = 0 := k0
    have a0 := hX.cellv (i := 0) (v := .int .i64 0) rfl
    have a1 := hX.cellv (i := 1) (v := .int .i64 tick) rfl
    have a2 := hX.cellv (i := 2) (v := .int .i64 value) rfl
    simp only at HQ HP
    generalize nput c x tick value = Y at *
    generalize serErr tick value = ER at *
    clear h hX hv hy he hx hc hk
    go_enter Try.func32, Try.ntmps32
    go_wp2_with (go_at_call 63; refine HP.out.mono ?_; rintro e w1 ⟨p1, rfl, hres⟩; have R1 := Lib.hid hres; clear hres)
    go_ret3
    rw [HQ.out]
    exact ⟨_, rfl, R1.out.lift B0.out⟩
  by_cases k1 : a.kind = 1
  · have hy : ndo c x a = ntrim x a.tick := by unfold ndo; rw [if_neg k0, if_pos k1]
    have he : nerr a = 0 := by unfold nerr; rw [if_neg k0, if_neg (by omega)]
    have HQ := Lib.hid (DoN.eq (p := p) (F := F) (fr := fr) (w := w) hy he (G := goneq x a.tick) (by rw [if_pos k1]) (by omega))
    have HP := Lib.hid (node_Trim p F c x fr a.tick _ N0.out HSrt.out hv)
    obtain ⟨kind, tick, value, pol, adv⟩ := a
    obtain rfl : kind = 1 := k1
    have a0 := hX.cellv (i := 0) (v := .int .i64 1) rfl
    have a1 := hX.cellv (i := 1) (v := .int .i64 tick) rfl
    simp only at HQ HP
    generalize ntrim x tick = Y at *
    generalize goneq x tick = GN at *
    clear h hX hv hy he hx hc hk k0
    go_enter Try.func32, Try.ntmps32
    go_wp2_with (go_at_call 67; refine HP.out.mono ?_; rintro e w1 ⟨p1, rfl, hres⟩; have R1 := Lib.hid hres; clear hres)
    go_ret3
    rw [HQ.out]
    exact ⟨_, rfl, R1.out.lift B0.out⟩
  by_cases k2 : a.kind = 2
  · have hy : ndo c x a = nset x a.pol := by unfold ndo; rw [if_neg k0, if_neg k1, if_pos k2]
    have he : nerr a = polErr a.pol := by unfold nerr; rw [if_neg k0, if_pos k2]
    have HQ := Lib.hid (DoN.eq (p := p) (F := F) (fr := fr) (w := w) hy he (G := 0) (by rw [if_neg k1]) (by omega))
    have HP := Lib.hid (node_Set p F c x fr a.pol _ N0.out hv)
    obtain ⟨kind, tick, value, pol, adv⟩ := a
    obtain rfl : kind = 2 := k2
    have a0 := hX.cellv (i := 0) (v := .int .i64 2) rfl
    have a3 := hX.cellv (i := 3) (v := .int .i64 pol.min) rfl
    have a4 := hX.cellv (i := 4) (v := .int .i64 pol.max) rfl
    have a5 := hX.cellv (i := 5) (v := .int .i64 pol.target) rfl
    have a6 := hX.cellv (i := 6) (v := .int .i64 pol.tol) rfl
    have a7 := hX.cellv (i := 7) (v := .int .i64 pol.window) rfl
    have a8 := hX.cellv (i := 8) (v := .int .i64 pol.hold) rfl
    simp only at HQ HP
    generalize nset x pol = Y at *
    generalize polErr pol = ER at *
    clear h hX hv hy he hx hc hk k0 k1
    go_enter Try.func32, Try.ntmps32
    go_wp2_with (go_at_call 68; refine HP.out.mono ?_; rintro e w1 ⟨p1, rfl, hres⟩; have R1 := Lib.hid hres; clear hres)
    go_ret3
    rw [HQ.out]
    exact ⟨_, rfl, R1.out.lift B0.out⟩
  by_cases k3 : a.kind = 3
  · have hy : ndo c x a = nnote c x a.adv := by unfold ndo; rw [if_neg k0, if_neg k1, if_neg k2, if_pos k3]
    have he : nerr a = 0 := by unfold nerr; rw [if_neg k0, if_neg k2]
    have HQ := Lib.hid (DoN.eq (p := p) (F := F) (fr := fr) (w := w) hy he (G := 0) (by rw [if_neg k1]) (by omega))
    have HP := Lib.hid (node_Note p F c x fr a.adv _ N0.out hc hv)
    obtain ⟨kind, tick, value, pol, adv⟩ := a
    obtain rfl : kind = 3 := k3
    have a0 := hX.cellv (i := 0) (v := .int .i64 3) rfl
    have a3 := hX.cellv (i := 9) (v := .int .i64 adv.tick) rfl
    have a4 := hX.cellv (i := 10) (v := .int .i64 adv.load) rfl
    have a5 := hX.cellv (i := 11) (v := .int .i64 adv.want) rfl
    have a6 := hX.cellv (i := 12) (v := .int .i64 adv.repl) rfl
    have a7 := hX.cellv (i := 13) (v := .int .i64 adv.why) rfl
    simp only at HQ HP
    generalize nnote c x adv = Y at *
    clear h hX hv hy he hx hc hk k0 k1 k2
    go_enter Try.func32, Try.ntmps32
    go_wp2_with (go_at_call 69; refine HP.out.mono ?_; rintro e w1 ⟨p1, rfl, hres⟩; have R1 := Lib.hid hres; clear hres)
    go_ret3
    rw [HQ.out]
    exact ⟨_, rfl, R1.out.lift B0.out⟩
  · have hy : ndo c x a = x := by unfold ndo; rw [if_neg k0, if_neg k1, if_neg k2, if_neg k3]
    have he : nerr a = 0 := by unfold nerr; rw [if_neg k0, if_neg k2]
    have hf : nfr c x fr a = true := by unfold nfr; rw [if_neg (by omega)]
    have HQ := Lib.hid (show DoN p F c x fr a w = fun e w' => ∃ p', e = .returned (.tuple #[.pointer p', .int .i64 0, .int .i64 0]) ∧ NRes2 p F c x fr x true w p' w' from by unfold DoN; rw [hy, he, hf, if_neg k1])
    have HP := Lib.hid (node_Freeze2 p F c x fr _ N0.out)
    have a0 := hX.cellv (i := 0) (v := .int .i64 a.kind) rfl
    have d0 : (a.kind == 0) = false := by simpa using k0
    have d1 : (a.kind == 1) = false := by simpa using k1
    have d2 : (a.kind == 2) = false := by simpa using k2
    have d3 : (a.kind == 3) = false := by simpa using k3
    clear h hX hv hy he hf hx hc hk k0 k1 k2 k3
    go_enter Try.func32, Try.ntmps32
    go_wp2_with (go_at_call 36; refine HP.out.mono ?_; rintro e w1 ⟨rfl, hn1, hu1, hb1⟩; have R1 := Lib.hid (And.intro hn1 (And.intro hu1 hb1)); clear hn1 hu1 hb1)
    go_ret3
    rw [HQ.out]
    refine ⟨_, rfl, ?_⟩
    obtain ⟨r1, r2, r3⟩ := R1.out
    cases fr
    · exact .inl ⟨F, r1, (Upd.of_below B0.out).trans r2 (fun k hk => .inl hk), fun k hk => .inl hk, fun e => by cases e⟩
    · exact .inr ⟨rfl, rfl, rfl, r1, B0.out.trans ((r3 rfl).mono B0.out.size)⟩
end Go.Proofs.Ytfeccjjheiillaa
/- flywheelref17.Do: a change is made. (fast region) -/
namespace Go.Proofs.Ytfeccjjheiillaa
open Go.RowKit
set_option linter.unusedSimpArgs false
set_option linter.unusedVariables false
set_option maxHeartbeats 4000000
set_option maxRecDepth 100000
theorem DoS.eq {c : Cfg} {x : Ld} {a : NAct} {s0 h0 : Value} {w : World} {Y : Ld} {E : Int} (hy : ndo c x a = Y) (he : nerr a = E) : DoS c x a s0 h0 w = fun e w' => ∃ s h, e = .returned (.tuple #[.agg (Y.row s h), .int .i64 E, .int .i64 ((x.smps.length : Int) - (Y.smps.length : Int))]) ∧ LdAt w' Y s h ∧ Below w.heap.size w w' ∧ NewSl w s0 s ∧ NewSl w h0 h := by
  unfold DoS ngone; rw [hy, he]
theorem ref17_Do_put_no (c : Cfg) (x : Ld) (a : NAct) (A : Option Addr) (n cp : Nat) (A2 : Option Addr) (n2 c2 : Nat) (w : World) (hs : SmpsAre w A n cp x.smps) (hh : AdvsAre w A2 n2 c2 x.past) (hc : c.okC) (k : Nat) (hx : LdOk c x k) (hk : k ≤ 100) (ha : a.kind = 0) (he : serErr a.tick a.value ≠ 0) :
    Calls Try.prog 33 #[.agg c.row, .agg (x.row (.slice A n cp) (.slice A2 n2 c2)), .agg a.row] w (DoS c x a (.slice A n cp) (.slice A2 n2 c2) w) := by
  have HS := Lib.hid hs
  have HH := Lib.hid hh
  have X0 := Lib.hid (DoI.pre w c x (.slice A n cp) (.slice A2 n2 c2) a)
  have I0 := Lib.hid (DoI.start w c x (.slice A n cp) (.slice A2 n2 c2) a)
  have hn : n ≤ 256 := by rw [← hs.1]; have := hx.slen; have := hc.2.2.1; omega
  have hn2 : n2 ≤ 64 := by rw [← hh.1]; have := hx.plen; have := hc.2.2.2.2.2.2; omega
  have hnl : x.smps.length = n := hs.1
  have HNL := Lib.hid hnl
  have v0 := hx.v0
  have v1 : x.ver ≤ 100 := by have := hx.v1; omega
  have hy : ndo c x a = x := by unfold ndo; rw [if_pos ha]; exact if_neg he
  have hE : nerr a = serErr a.tick a.value := by unfold nerr; rw [if_pos ha]
  have HQ := Lib.hid (DoS.eq (s0 := .slice A n cp) (h0 := .slice A2 n2 c2) (w := w) hy hE)
  have HRt := Lib.hid (fun W => ref08_Right a.tick a.value W)
  have de : (serErr a.tick a.value != 0) = true := by simpa using he
  have HZ := Lib.hid (show (x.smps.length : Int) - (x.smps.length : Int) = 0 by omega)
  rw [HZ.out] at HQ
  obtain ⟨kind, tick, value, pol, adv⟩ := a
  obtain rfl : kind = 0 := ha
  simp only at HRt de HQ
  generalize serErr tick value = ER at *
  clear hs hh hx hc he hy hE hnl
  go_enter Try.func33, Try.ntmps33
  go_wp2_with (first
    | (refine Blk.load rfl 64 (.tmp 4) (by with_reducible rfl) _ _ _ _ rfl X0.out Try.underlying64 rfl (by kernel_rfl) ?_)
    | (refine wpList_store_row rfl 64 (.tmp 9) (.tmp 11) rfl (w.heap.size + 4) _ _ _ rfl rfl I0.out.ob (by rfl) (by kernel_rfl) (row_one _ _ _ _ _ _ _) ?_; intro w5 hb5 hg5; have I5 := Lib.hid (I0.out.store hb5 hg5); have a0 := I5.out.ab.cellv (i := 0) (v := .int .i64 0) rfl; have a1 := I5.out.ab.cellv (i := 1) (v := .int .i64 tick) rfl; have a2 := I5.out.ab.cellv (i := 2) (v := .int .i64 value) rfl; clear hb5 hg5)
    | (go_at_call 50; refine (HRt.out _).mono ?_; rintro e w6 ⟨rfl, rfl⟩)
    | (refine Blk.load rfl 64 (.tmp 4) rfl _ _ _ _ rfl I5.out.xb Try.underlying64 rfl (by kernel_rfl) ?_)
    | (refine wpList_store_row rfl 64 (.tmp 6) (.tmp 26) rfl (w.heap.size + 3) _ _ _ rfl rfl I5.out.rb (by rfl) (by kernel_rfl) (row_one _ _ _ _ _ _ _) ?_; intro w9 hb9 hg9; have B9 := Lib.hid hb9; have E9 := Lib.hid (I5.out.bel.trans (Only.below hg9 (by omega) I5.out.bel.size)); clear hb9 hg9))
  refine bodyPost_ret (results_row_tmp2 rfl _ _ (w.heap.size + 3) _ _ _ rfl B9.out Try.underlying64 rfl (by kernel_rfl)) rfl ?_
  rw [HQ.out]
  exact ⟨_, _, rfl, ⟨_, _, _, _, _, _, rfl, rfl, slice_keep HS.out E9.out, slice_keep HH.out E9.out⟩, E9.out, .inl rfl, .inl rfl⟩
theorem ref17_Do_put (c : Cfg) (x : Ld) (a : NAct) (A : Option Addr) (n cp : Nat) (A2 : Option Addr) (n2 c2 : Nat) (w : World) (hs : SmpsAre w A n cp x.smps) (hh : AdvsAre w A2 n2 c2 x.past) (hc : c.okC) (k : Nat) (hx : LdOk c x k) (hk : k ≤ 100) (ha : a.kind = 0) (he : serErr a.tick a.value = 0) :
    Calls Try.prog 33 #[.agg c.row, .agg (x.row (.slice A n cp) (.slice A2 n2 c2)), .agg a.row] w (DoS c x a (.slice A n cp) (.slice A2 n2 c2) w) := by
  have HS := Lib.hid hs
  have HH := Lib.hid hh
  have X0 := Lib.hid (DoI.pre w c x (.slice A n cp) (.slice A2 n2 c2) a)
  have I0 := Lib.hid (DoI.start w c x (.slice A n cp) (.slice A2 n2 c2) a)
  have hn : n ≤ 256 := by rw [← hs.1]; have := hx.slen; have := hc.2.2.1; omega
  have hn2 : n2 ≤ 64 := by rw [← hh.1]; have := hx.plen; have := hc.2.2.2.2.2.2; omega
  have hnl : x.smps.length = n := hs.1
  have HNL := Lib.hid hnl
  have v0 := hx.v0
  have v1 : x.ver ≤ 100 := by have := hx.v1; omega
  have hy : ndo c x a = ⟨putq x.smps c.smp.toNat ⟨a.tick, a.value⟩, x.past, x.pol, x.ruled, x.ver + 1⟩ := by unfold ndo; rw [if_pos ha]; exact if_pos he
  have hE : nerr a = 0 := by unfold nerr; rw [if_pos ha]; exact he
  have HQ := Lib.hid (DoS.eq (s0 := .slice A n cp) (h0 := .slice A2 n2 c2) (w := w) hy hE)
  have HRt := Lib.hid (fun W => ref08_Right a.tick a.value W)
  rw [he] at HRt
  have HPl := Lib.hid (len_putq hx.slen (by have := hc.2.1; omega) ⟨a.tick, a.value⟩)
  obtain ⟨rm, hrm⟩ : ∃ rm : Nat, c.smp = rm := ⟨c.smp.toNat, by have := hc.2.1; omega⟩
  have hrm2 : rm ≤ 256 := by have := hc.2.2.1; omega
  have HP := Lib.hid (fun W hW => ref08_Put A n cp x.smps rm ⟨a.tick, a.value⟩ W hW (by omega) hx.srt (by omega))
  rw [show c.smp.toNat = rm by omega] at HQ HPl
  obtain ⟨kind, tick, value, pol, adv⟩ := a
  obtain rfl : kind = 0 := ha
  obtain ⟨cs, csm, cl, ch⟩ := c
  obtain rfl : csm = rm := hrm
  simp only at HRt HP HQ HPl
  generalize putq x.smps rm ⟨tick, value⟩ = Q at *
  clear hs hh hx hc he hy hE hnl
  go_enter Try.func33, Try.ntmps33
  focus (go_upto_region 21 with (first
    | (refine Blk.load rfl 64 (.tmp 4) (by with_reducible rfl) _ _ _ _ rfl X0.out Try.underlying64 rfl (by kernel_rfl) ?_)
    | (refine wpList_store_row rfl 64 (.tmp 9) (.tmp 11) rfl (w.heap.size + 4) _ _ _ rfl rfl I0.out.ob (by rfl) (by kernel_rfl) (row_one _ _ _ _ _ _ _) ?_; intro w5 hb5 hg5; have I5 := Lib.hid (I0.out.store hb5 hg5); have a0 := I5.out.ab.cellv (i := 0) (v := .int .i64 0) rfl; have a1 := I5.out.ab.cellv (i := 1) (v := .int .i64 tick) rfl; have a2 := I5.out.ab.cellv (i := 2) (v := .int .i64 value) rfl; have x0 := I5.out.xb.cellv (i := 0) (v := .slice A n cp) rfl; have c1 := I5.out.cb.cellv (i := 1) (v := .int .i64 rm) rfl; clear hb5 hg5)
    | (go_at_call 50; refine (HRt.out _).mono ?_; rintro e w6 ⟨rfl, rfl⟩)
    | (go_at_call 40; refine (HP.out _ (slice_keep HS.out I5.out.bel)).mono ?_; rintro e w7 ⟨A5, n5, c5, rfl, hs5, hb5, hab⟩; have HA5 := Lib.hid (fun a ha => Nat.lt_of_lt_of_le I5.out.ob.lt (hab a ha).1); clear hab; have S5 := Lib.hid hs5; have I7 := Lib.hid (I5.out.call hb5); have o0 := I7.out.ob.cellv (i := 0) (v := .slice A n cp) rfl; have f0 := I7.out.ob.frozen 0; have o9 := I7.out.ob.cellv (i := 9) (v := .int .i64 x.ver) rfl; have f9 := I7.out.ob.frozen 9; have x9 := I7.out.xb.cellv (i := 9) (v := .int .i64 x.ver) rfl; clear hs5 hb5 a1 a2 x0 c1)))
  have hn5 : n5 ≤ 256 := by rw [← S5.out.1]; have := HPl.out; omega
  have HGN := Lib.hid (show ((x.smps.length : Int) - (Q.length : Int)) = (n : Int) - (n5 : Int) by have := HNL.out; have := S5.out.1; omega)
  clear o0 f0 o9 f9 x9
  have I6 := Lib.hid ((I7.out.set 0 (.slice A5 n5 c5) (o' := (⟨Q, x.past, x.pol, x.ruled, x.ver⟩ : Ld).row (.slice A5 n5 c5) (.slice A2 n2 c2)) rfl).set 9 (.int .i64 (x.ver + 1)) (o' := (⟨Q, x.past, x.pol, x.ruled, x.ver + 1⟩ : Ld).row (.slice A5 n5 c5) (.slice A2 n2 c2)) rfl)
  have S6 := Lib.hid (show SmpsAre ((w7.setCell ⟨w.heap.size + 4, 0, none⟩ (.slice A5 n5 c5)).setCell ⟨w.heap.size + 4, 9, none⟩ (.int .i64 (x.ver + 1))) A5 n5 c5 Q from slice_upd S5.out (((Upd.refl (fun k => k = w.heap.size + 4) w7).setCell (.inl rfl) _).setCell (.inl rfl) _) (fun a ha e => by have h1 := HA5.out a ha; have h2 : a.block = w.heap.size + 4 := e; omega))
  generalize (w7.setCell ⟨w.heap.size + 4, 0, none⟩ (.slice A5 n5 c5)).setCell ⟨w.heap.size + 4, 9, none⟩ (.int .i64 (x.ver + 1)) = w6 at *
  clear a0
  refine wp_region_any (by kernel_rfl) ?_; change wpAny _ _ _ _ _ _ _ (World.drew w6); refine any_of_anyG (late := fun _ => false) (S := fun wS => Upd (fun k => k = w.heap.size + 3) w6 wS) _ _ _ _ ?_
  have S0 := (Upd.refl (fun k => k = w.heap.size + 3) w6).drew
  refine anyG_takes (is := [0, 1, 2, 3, 4]) (vs := [_, _, .slice A n cp, .int .i64 n, _]) (m := 6) (listed2 := #[true, true, true, true, true, false, false, false, false, false, false]) (a2 := ⟨#[_, _, _, _, _, _, _, _, _, _, _, _, _, _, _, _, _, _, _, _, _, _, _, _, _, _, _, _, _, _, _, _, _, _, _, _, _, _, _, _, _, _, _, _, _, _, _, _, _, _, _, _, _, _, _, _, _, _, _, _, _, _, _, _, _, _, _, _, _, _, _, _, _, _, _, _, _, _, _, _, _, _, _, _, _, _], _⟩) (by kernel_rfl) (fun j hj => by simp at hj) (by kernel_rfl) (fun _ _ _ _ _ h => h) (Ys.cons rfl (Or.inl ⟨by rfl, fun W1 hW1 => exec_load (ty := 64) (x := .tmp 9) rfl rfl (run_loadAt_blk _ _ _ _ _ _ (I6.out.ob.upd hW1 (by show ¬ w.heap.size + 4 = w.heap.size + 3; omega)) Try.underlying64 rfl (by first | kernel_rfl | exact info_num _))⟩) (Ys.cons rfl (Or.inl ⟨by rfl, fun W1 hW1 => by first | rfl | (go_simp; done) | (go_simp; with_reducible rfl)⟩) (Ys.cons rfl (Or.inl ⟨by rfl, fun W1 hW1 => by have c := (I6.out.xb.upd hW1 (by show ¬ w.heap.size + 1 = w.heap.size + 3; omega)).cellv (i := 0) (v := .slice A n cp) rfl; go_simp⟩) (Ys.cons rfl (Or.inl ⟨by rfl, fun W1 hW1 => by first | rfl | (go_simp; done)⟩) (Ys.cons rfl (Or.inl ⟨by rfl, fun W1 hW1 => by first | rfl | (go_simp; done) | (go_simp; with_reducible rfl)⟩) (Ys.nil)))))) (S0) (by rfl) (by rfl) ?_
  refine anyG_takes (is := [5, 6, 7]) (vs := [.slice A5 n5 c5, .int .i64 n5, .int .i64 ((n : Int) - (n5 : Int))]) (m := 3) (listed2 := #[true, true, true, true, true, true, true, true, false, false, false]) (a2 := ⟨#[_, _, _, _, _, _, _, _, _, _, _, _, _, _, _, _, _, _, _, _, _, _, _, _, _, _, _, _, _, _, _, _, _, _, _, _, _, _, _, _, _, _, _, _, _, _, _, _, _, _, _, _, _, _, _, _, _, _, _, _, _, _, _, _, _, _, _, _, _, _, _, _, _, _, _, _, _, _, _, _, _, _, _, _, _, _], _⟩) (by kernel_rfl) (fun j hj => by simp at hj) (by kernel_rfl) (fun _ _ _ _ _ h => h) (Ys.cons rfl (Or.inl ⟨by rfl, fun W1 hW1 => by have c := (I6.out.ob.upd hW1 (by show ¬ w.heap.size + 4 = w.heap.size + 3; omega)).cellv (i := 0) (v := .slice A5 n5 c5) rfl; go_simp⟩) (Ys.cons rfl (Or.inl ⟨by rfl, fun W1 hW1 => by first | rfl | (go_simp; done)⟩) (Ys.cons rfl (Or.inl ⟨by rfl, fun W1 hW1 => by first | (go_simp; done) | (go_simp; exact IntWalk.i64_in _ (by omega))⟩) (Ys.nil)))) (S0) (by rfl) (by rfl) ?_
  refine anyG_one (k := 8) (by kernel_rfl) rfl (by rfl) (fun Q2 hQ2 => ?_); go_wp2_with (refine wpList_store_row rfl 64 (.tmp 6) (.tmp 78) rfl (w.heap.size + 3) _ _ _ rfl rfl I6.out.rb.drew (by rfl) (by kernel_rfl) (row_one _ _ _ _ _ _ _) ?_; intro w9 hb9 hg9); refine hQ2 _ _ (fun _ => (S0).grown hg9 (fun k e => by injection e with e; exact .inl e.symm)) ?_; clear hQ2 Q2
  have S9 := (S0).grown hg9 (fun k e => by injection e with e; exact .inl e.symm)
  refine anyG_takes (is := [9, 10]) (vs := [.int .i64 0, .int .i64 ((n : Int) - (n5 : Int))]) (m := 0) (listed2 := #[true, true, true, true, true, true, true, true, true, true, true]) (a2 := ⟨#[_, _, _, _, _, _, _, _, _, _, _, _, _, _, _, _, _, _, _, _, _, _, _, _, _, _, _, _, _, _, _, _, _, _, _, _, _, _, _, _, _, _, _, _, _, _, _, _, _, _, _, _, _, _, _, _, _, _, _, _, _, _, _, _, _, _, _, _, _, _, _, _, _, _, _, _, _, _, _, _, _, _, _, _, _, _], _⟩) (by kernel_rfl) (fun j hj => by simp at hj) (by kernel_rfl) (fun _ _ _ _ _ h => h) (Ys.cons rfl (Or.inl ⟨by rfl, fun W1 hW1 => by rfl⟩) (Ys.cons rfl (Or.inl ⟨by rfl, fun W1 hW1 => by rfl⟩) (Ys.nil))) (S9) (by rfl) (by rfl) ?_
  refine anyG_done (by kernel_rfl) ?_ _
  have E9 := Lib.hid (I6.out.bel.trans (Upd.below (S9) (fun k hk => by omega) I6.out.bel.size))
  go_wp2
  refine bodyPost_ret (results_row_tmp2 rfl _ _ (w.heap.size + 3) _ _ _ rfl hb9 Try.underlying64 rfl (by kernel_rfl)) rfl ?_
  rw [HQ.out]
  exact ⟨_, _, (by rw [HGN.out]; rfl), ⟨_, _, _, _, _, _, rfl, rfl, slice_upd S6.out (S9) (fun a ha e => by have h1 := HA5.out a ha; have h2 : a.block = w.heap.size + 3 := e; omega), slice_keep HH.out E9.out⟩, E9.out, .inr (fun a n4 c4 e => by injection e with e1; have h1 := HA5.out a e1; omega), .inl rfl⟩
end Go.Proofs.Ytfeccjjheiillaa
/- flywheelref17.Do: a change is made. (fast region) -/
namespace Go.Proofs.Ytfeccjjheiillaa
open Go.RowKit
set_option linter.unusedSimpArgs false
set_option linter.unusedVariables false
set_option maxHeartbeats 4000000
set_option maxRecDepth 100000
theorem ref17_Do_trim_no (c : Cfg) (x : Ld) (a : NAct) (A : Option Addr) (n cp : Nat) (A2 : Option Addr) (n2 c2 : Nat) (w : World) (hs : SmpsAre w A n cp x.smps) (hh : AdvsAre w A2 n2 c2 x.past) (hc : c.okC) (k : Nat) (hx : LdOk c x k) (hk : k ≤ 100) (ha : a.kind = 1) (he : (froms x.smps a.tick).length = x.smps.length) :
    Calls Try.prog 33 #[.agg c.row, .agg (x.row (.slice A n cp) (.slice A2 n2 c2)), .agg a.row] w (DoS c x a (.slice A n cp) (.slice A2 n2 c2) w) := by
  have HS := Lib.hid hs
  have HH := Lib.hid hh
  have X0 := Lib.hid (DoI.pre w c x (.slice A n cp) (.slice A2 n2 c2) a)
  have I0 := Lib.hid (DoI.start w c x (.slice A n cp) (.slice A2 n2 c2) a)
  have hn : n ≤ 256 := by rw [← hs.1]; have := hx.slen; have := hc.2.2.1; omega
  have hn2 : n2 ≤ 64 := by rw [← hh.1]; have := hx.plen; have := hc.2.2.2.2.2.2; omega
  have hnl : x.smps.length = n := hs.1
  have HNL := Lib.hid hnl
  have v0 := hx.v0
  have v1 : x.ver ≤ 100 := by have := hx.v1; omega
  have hy : ndo c x a = x := by unfold ndo; rw [if_neg (by omega), if_pos ha]; exact if_pos he
  have hE : nerr a = 0 := by unfold nerr; rw [if_neg (by omega), if_neg (by omega)]
  have HQ := Lib.hid (DoS.eq (s0 := .slice A n cp) (h0 := .slice A2 n2 c2) (w := w) hy hE)
  have HZ := Lib.hid (show (x.smps.length : Int) - (x.smps.length : Int) = 0 by omega)
  rw [HZ.out] at HQ
  have HT := Lib.hid (fun W hW => ref08_Trim A n cp x.smps a.tick W hW (by omega))
  obtain ⟨kind, tick, value, pol, adv⟩ := a
  obtain rfl : kind = 1 := ha
  simp only at HT HQ he
  have HE := Lib.hid he
  clear hs hh hx hc he hy hE hnl
  go_enter Try.func33, Try.ntmps33
  go_wp2_with (first
    | (refine Blk.load rfl 64 (.tmp 4) (by with_reducible rfl) _ _ _ _ rfl X0.out Try.underlying64 rfl (by kernel_rfl) ?_)
    | (refine wpList_store_row rfl 64 (.tmp 9) (.tmp 11) rfl (w.heap.size + 4) _ _ _ rfl rfl I0.out.ob (by rfl) (by kernel_rfl) (row_one _ _ _ _ _ _ _) ?_; intro w5 hb5 hg5; have I5 := Lib.hid (I0.out.store hb5 hg5); have a0 := I5.out.ab.cellv (i := 0) (v := .int .i64 1) rfl; have a1 := I5.out.ab.cellv (i := 1) (v := .int .i64 tick) rfl; have x0 := I5.out.xb.cellv (i := 0) (v := .slice A n cp) rfl; clear hb5 hg5)
    | (go_at_call 70; refine (HT.out _ (slice_keep HS.out I5.out.bel)).mono ?_; rintro e w7 ⟨A5, n5, c5, rfl, ho5, hb5⟩; have hs5 := ho5.is smp_len; have HA5 := Lib.hid (fun (a : Addr) (ha : A5 = some a) => (show w.heap.size + 4 < a.block from Nat.lt_of_lt_of_le I5.out.ob.lt (World.ownsRow.lt ho5 a.block (by rw [ha]; rfl)).1)); clear ho5; have S5 := Lib.hid hs5; have I7 := Lib.hid (I5.out.call hb5); have o0 := I7.out.ob.cellv (i := 0) (v := .slice A n cp) rfl; have f0 := I7.out.ob.frozen 0; have o9 := I7.out.ob.cellv (i := 9) (v := .int .i64 x.ver) rfl; have f9 := I7.out.ob.frozen 9; have x9 := I7.out.xb.cellv (i := 9) (v := .int .i64 x.ver) rfl; have x07 := I7.out.xb.cellv (i := 0) (v := .slice A n cp) rfl; obtain rfl : n5 = n := (by have h1 := hs5.1; have h2 := HE.out; have h3 := HNL.out; omega); have I8 := Lib.hid (I7.out.set 0 (.slice A5 n5 c5) (o' := (⟨x.smps, x.past, x.pol, x.ruled, x.ver⟩ : Ld).row (.slice A5 n5 c5) (.slice A2 n2 c2)) rfl); clear hs5 hb5 a1 x0)
    | (refine Blk.load rfl 64 (.tmp 4) rfl _ _ _ _ rfl I8.out.xb Try.underlying64 rfl (by kernel_rfl) ?_)
    | (refine wpList_store_row rfl 64 (.tmp 6) (.tmp 52) rfl (w.heap.size + 3) _ _ _ rfl rfl I8.out.rb (by rfl) (by kernel_rfl) (row_one _ _ _ _ _ _ _) ?_; intro w9 hb9 hg9; have B9 := Lib.hid hb9; have E9 := Lib.hid (I8.out.bel.trans (Only.below hg9 (by omega) I8.out.bel.size)); clear hb9 hg9))
  refine bodyPost_ret (results_row_tmp2 rfl _ _ (w.heap.size + 3) _ _ _ rfl B9.out Try.underlying64 rfl (by kernel_rfl)) rfl ?_
  rw [HQ.out]
  exact ⟨_, _, rfl, ⟨_, _, _, _, _, _, rfl, rfl, slice_keep HS.out E9.out, slice_keep HH.out E9.out⟩, E9.out, .inl rfl, .inl rfl⟩
theorem ref17_Do_trim (c : Cfg) (x : Ld) (a : NAct) (A : Option Addr) (n cp : Nat) (A2 : Option Addr) (n2 c2 : Nat) (w : World) (hs : SmpsAre w A n cp x.smps) (hh : AdvsAre w A2 n2 c2 x.past) (hc : c.okC) (k : Nat) (hx : LdOk c x k) (hk : k ≤ 100) (ha : a.kind = 1) (he : (froms x.smps a.tick).length ≠ x.smps.length) :
    Calls Try.prog 33 #[.agg c.row, .agg (x.row (.slice A n cp) (.slice A2 n2 c2)), .agg a.row] w (DoS c x a (.slice A n cp) (.slice A2 n2 c2) w) := by
  have HS := Lib.hid hs
  have HH := Lib.hid hh
  have X0 := Lib.hid (DoI.pre w c x (.slice A n cp) (.slice A2 n2 c2) a)
  have I0 := Lib.hid (DoI.start w c x (.slice A n cp) (.slice A2 n2 c2) a)
  have hn : n ≤ 256 := by rw [← hs.1]; have := hx.slen; have := hc.2.2.1; omega
  have hn2 : n2 ≤ 64 := by rw [← hh.1]; have := hx.plen; have := hc.2.2.2.2.2.2; omega
  have hnl : x.smps.length = n := hs.1
  have HNL := Lib.hid hnl
  have v0 := hx.v0
  have v1 : x.ver ≤ 100 := by have := hx.v1; omega
  have hy : ndo c x a = ⟨froms x.smps a.tick, x.past, x.pol, x.ruled, x.ver + 1⟩ := by unfold ndo; rw [if_neg (by omega), if_pos ha]; exact if_neg he
  have hE : nerr a = 0 := by unfold nerr; rw [if_neg (by omega), if_neg (by omega)]
  have HQ := Lib.hid (DoS.eq (s0 := .slice A n cp) (h0 := .slice A2 n2 c2) (w := w) hy hE)
  have HFl := Lib.hid (show (froms x.smps a.tick).length ≤ x.smps.length from List.length_filter_le _ _)
  have HT := Lib.hid (fun W hW => ref08_Trim A n cp x.smps a.tick W hW (by omega))
  obtain ⟨kind, tick, value, pol, adv⟩ := a
  obtain rfl : kind = 1 := ha
  simp only at HT HQ he
  have HE := Lib.hid he
  simp only at HFl
  generalize froms x.smps tick = Q at *
  clear hs hh hx hc he hy hE hnl
  go_enter Try.func33, Try.ntmps33
  focus (go_upto_region 21 with (first
    | (refine Blk.load rfl 64 (.tmp 4) (by with_reducible rfl) _ _ _ _ rfl X0.out Try.underlying64 rfl (by kernel_rfl) ?_)
    | (refine wpList_store_row rfl 64 (.tmp 9) (.tmp 11) rfl (w.heap.size + 4) _ _ _ rfl rfl I0.out.ob (by rfl) (by kernel_rfl) (row_one _ _ _ _ _ _ _) ?_; intro w5 hb5 hg5; have I5 := Lib.hid (I0.out.store hb5 hg5); have a0 := I5.out.ab.cellv (i := 0) (v := .int .i64 1) rfl; have a1 := I5.out.ab.cellv (i := 1) (v := .int .i64 tick) rfl; have x0 := I5.out.xb.cellv (i := 0) (v := .slice A n cp) rfl; clear hb5 hg5)
    | (go_at_call 70; refine (HT.out _ (slice_keep HS.out I5.out.bel)).mono ?_; rintro e w7 ⟨A5, n5, c5, rfl, ho5, hb5⟩; have hs5 := ho5.is smp_len; have HA5 := Lib.hid (fun (a : Addr) (ha : A5 = some a) => (show w.heap.size + 4 < a.block from Nat.lt_of_lt_of_le I5.out.ob.lt (World.ownsRow.lt ho5 a.block (by rw [ha]; rfl)).1)); clear ho5; have S5 := Lib.hid hs5; have I7 := Lib.hid (I5.out.call hb5); have o0 := I7.out.ob.cellv (i := 0) (v := .slice A n cp) rfl; have f0 := I7.out.ob.frozen 0; have o9 := I7.out.ob.cellv (i := 9) (v := .int .i64 x.ver) rfl; have f9 := I7.out.ob.frozen 9; have x9 := I7.out.xb.cellv (i := 9) (v := .int .i64 x.ver) rfl; have x07 := I7.out.xb.cellv (i := 0) (v := .slice A n cp) rfl; have d5 : ((n5 : Int) == (n : Int)) = false := (by have h1 := hs5.1; have h2 := HE.out; have h3 := HNL.out; simp; omega); clear hs5 hb5 a1 x0)))
  have hn5 : n5 ≤ 256 := by rw [← S5.out.1]; have := HFl.out; have := HNL.out; omega
  have HGN := Lib.hid (show ((x.smps.length : Int) - (Q.length : Int)) = (n : Int) - (n5 : Int) by have := HNL.out; have := S5.out.1; omega)
  clear o0 f0 o9 f9 x9 x07 d5
  have I6 := Lib.hid ((I7.out.set 0 (.slice A5 n5 c5) (o' := (⟨Q, x.past, x.pol, x.ruled, x.ver⟩ : Ld).row (.slice A5 n5 c5) (.slice A2 n2 c2)) rfl).set 9 (.int .i64 (x.ver + 1)) (o' := (⟨Q, x.past, x.pol, x.ruled, x.ver + 1⟩ : Ld).row (.slice A5 n5 c5) (.slice A2 n2 c2)) rfl)
  have S6 := Lib.hid (show SmpsAre ((w7.setCell ⟨w.heap.size + 4, 0, none⟩ (.slice A5 n5 c5)).setCell ⟨w.heap.size + 4, 9, none⟩ (.int .i64 (x.ver + 1))) A5 n5 c5 Q from slice_upd S5.out (((Upd.refl (fun k => k = w.heap.size + 4) w7).setCell (.inl rfl) _).setCell (.inl rfl) _) (fun a ha e => by have h1 := HA5.out a ha; have h2 : a.block = w.heap.size + 4 := e; omega))
  generalize (w7.setCell ⟨w.heap.size + 4, 0, none⟩ (.slice A5 n5 c5)).setCell ⟨w.heap.size + 4, 9, none⟩ (.int .i64 (x.ver + 1)) = w6 at *
  clear a0
  refine wp_region_any (by kernel_rfl) ?_; change wpAny _ _ _ _ _ _ _ (World.drew w6); refine any_of_anyG (late := fun _ => false) (S := fun wS => Upd (fun k => k = w.heap.size + 3) w6 wS) _ _ _ _ ?_
  have S0 := (Upd.refl (fun k => k = w.heap.size + 3) w6).drew
  refine anyG_takes (is := [0, 1, 2, 3, 4]) (vs := [_, _, .slice A n cp, .int .i64 n, _]) (m := 6) (listed2 := #[true, true, true, true, true, false, false, false, false, false, false]) (a2 := ⟨#[_, _, _, _, _, _, _, _, _, _, _, _, _, _, _, _, _, _, _, _, _, _, _, _, _, _, _, _, _, _, _, _, _, _, _, _, _, _, _, _, _, _, _, _, _, _, _, _, _, _, _, _, _, _, _, _, _, _, _, _, _, _, _, _, _, _, _, _, _, _, _, _, _, _, _, _, _, _, _, _, _, _, _, _, _, _], _⟩) (by kernel_rfl) (fun j hj => by simp at hj) (by kernel_rfl) (fun _ _ _ _ _ h => h) (Ys.cons rfl (Or.inl ⟨by rfl, fun W1 hW1 => exec_load (ty := 64) (x := .tmp 9) rfl rfl (run_loadAt_blk _ _ _ _ _ _ (I6.out.ob.upd hW1 (by show ¬ w.heap.size + 4 = w.heap.size + 3; omega)) Try.underlying64 rfl (by first | kernel_rfl | exact info_num _))⟩) (Ys.cons rfl (Or.inl ⟨by rfl, fun W1 hW1 => by first | rfl | (go_simp; done) | (go_simp; with_reducible rfl)⟩) (Ys.cons rfl (Or.inl ⟨by rfl, fun W1 hW1 => by have c := (I6.out.xb.upd hW1 (by show ¬ w.heap.size + 1 = w.heap.size + 3; omega)).cellv (i := 0) (v := .slice A n cp) rfl; go_simp⟩) (Ys.cons rfl (Or.inl ⟨by rfl, fun W1 hW1 => by first | rfl | (go_simp; done)⟩) (Ys.cons rfl (Or.inl ⟨by rfl, fun W1 hW1 => by first | rfl | (go_simp; done) | (go_simp; with_reducible rfl)⟩) (Ys.nil)))))) (S0) (by rfl) (by rfl) ?_
  refine anyG_takes (is := [5, 6, 7]) (vs := [.slice A5 n5 c5, .int .i64 n5, .int .i64 ((n : Int) - (n5 : Int))]) (m := 3) (listed2 := #[true, true, true, true, true, true, true, true, false, false, false]) (a2 := ⟨#[_, _, _, _, _, _, _, _, _, _, _, _, _, _, _, _, _, _, _, _, _, _, _, _, _, _, _, _, _, _, _, _, _, _, _, _, _, _, _, _, _, _, _, _, _, _, _, _, _, _, _, _, _, _, _, _, _, _, _, _, _, _, _, _, _, _, _, _, _, _, _, _, _, _, _, _, _, _, _, _, _, _, _, _, _, _], _⟩) (by kernel_rfl) (fun j hj => by simp at hj) (by kernel_rfl) (fun _ _ _ _ _ h => h) (Ys.cons rfl (Or.inl ⟨by rfl, fun W1 hW1 => by have c := (I6.out.ob.upd hW1 (by show ¬ w.heap.size + 4 = w.heap.size + 3; omega)).cellv (i := 0) (v := .slice A5 n5 c5) rfl; go_simp⟩) (Ys.cons rfl (Or.inl ⟨by rfl, fun W1 hW1 => by first | rfl | (go_simp; done)⟩) (Ys.cons rfl (Or.inl ⟨by rfl, fun W1 hW1 => by first | (go_simp; done) | (go_simp; exact IntWalk.i64_in _ (by omega))⟩) (Ys.nil)))) (S0) (by rfl) (by rfl) ?_
  refine anyG_one (k := 8) (by kernel_rfl) rfl (by rfl) (fun Q2 hQ2 => ?_); go_wp2_with (refine wpList_store_row rfl 64 (.tmp 6) (.tmp 78) rfl (w.heap.size + 3) _ _ _ rfl rfl I6.out.rb.drew (by rfl) (by kernel_rfl) (row_one _ _ _ _ _ _ _) ?_; intro w9 hb9 hg9); refine hQ2 _ _ (fun _ => (S0).grown hg9 (fun k e => by injection e with e; exact .inl e.symm)) ?_; clear hQ2 Q2
  have S9 := (S0).grown hg9 (fun k e => by injection e with e; exact .inl e.symm)
  refine anyG_takes (is := [9, 10]) (vs := [.int .i64 0, .int .i64 ((n : Int) - (n5 : Int))]) (m := 0) (listed2 := #[true, true, true, true, true, true, true, true, true, true, true]) (a2 := ⟨#[_, _, _, _, _, _, _, _, _, _, _, _, _, _, _, _, _, _, _, _, _, _, _, _, _, _, _, _, _, _, _, _, _, _, _, _, _, _, _, _, _, _, _, _, _, _, _, _, _, _, _, _, _, _, _, _, _, _, _, _, _, _, _, _, _, _, _, _, _, _, _, _, _, _, _, _, _, _, _, _, _, _, _, _, _, _], _⟩) (by kernel_rfl) (fun j hj => by simp at hj) (by kernel_rfl) (fun _ _ _ _ _ h => h) (Ys.cons rfl (Or.inl ⟨by rfl, fun W1 hW1 => by rfl⟩) (Ys.cons rfl (Or.inl ⟨by rfl, fun W1 hW1 => by rfl⟩) (Ys.nil))) (S9) (by rfl) (by rfl) ?_
  refine anyG_done (by kernel_rfl) ?_ _
  have E9 := Lib.hid (I6.out.bel.trans (Upd.below (S9) (fun k hk => by omega) I6.out.bel.size))
  go_wp2
  refine bodyPost_ret (results_row_tmp2 rfl _ _ (w.heap.size + 3) _ _ _ rfl hb9 Try.underlying64 rfl (by kernel_rfl)) rfl ?_
  rw [HQ.out]
  exact ⟨_, _, (by rw [HGN.out]; rfl), ⟨_, _, _, _, _, _, rfl, rfl, slice_upd S6.out (S9) (fun a ha e => by have h1 := HA5.out a ha; have h2 : a.block = w.heap.size + 3 := e; omega), slice_keep HH.out E9.out⟩, E9.out, .inr (fun a n4 c4 e => by injection e with e1; have h1 := HA5.out a e1; omega), .inl rfl⟩
end Go.Proofs.Ytfeccjjheiillaa
